/- Contracts: each call of a Go function answers what the Lean function of its name says; a law of the set follows. No condition but each theorem's own. Written by a program of this session's out of the translation, with the functions proved by hand let in. -/
import Derived.Test.YtiohijahacclnaaGBx0
import Derived.Test.YtiohijahacclnaaGBx2
namespace Go.Proofs.Ytiohijahacclnaa.GB
open Go.RowKit Go.Proofs.YtiohijahacclnaaW.PrintWords Go.Proofs.YtiohijahacclnaaW.PrintLast Go.Proofs.YtiohijahacclnaaW.PrintMore
attribute [local go_sem] max2_int min2_int max_two min_two max_three min_three max_four min_four   -- for this text's walks alone
set_option linter.unusedVariables false
set_option linter.unusedSimpArgs false

/-! ### stair_Band: function 15 -/
/-- how two numbers stand -/
def stair_cmpI (a b : Int) : Int := if a < b then -1 else if b < a then 1 else 0

set_option maxHeartbeats 4000000 in
theorem stair_cmp.calls (a b : Int) (w : World) : Calls Try.prog 20 #[.int .i64 a, .int .i64 b] w fun e w' => e = .returned (.int .i64 (stair_cmpI a b)) ∧ w = w' := by
  rcases (by omega : a < b ∨ b < a ∨ a = b) with h | h | h
  · have hr : stair_cmpI a b = -1 := by simp [stair_cmpI, h]
    rw [hr]
    go_enter Try.func20, Try.ntmps20
    go_wp2
    go_ret
    exact ⟨rfl, rfl⟩
  · have hr : stair_cmpI a b = 1 := by simp [stair_cmpI, h]; omega
    rw [hr]
    have h1 : ¬ a < b := by omega
    go_enter Try.func20, Try.ntmps20
    go_wp2
    go_ret
    exact ⟨rfl, rfl⟩
  · subst h
    have hr : stair_cmpI a a = 0 := by simp [stair_cmpI]
    rw [hr]
    go_enter Try.func20, Try.ntmps20
    go_wp2
    go_ret
    exact ⟨rfl, rfl⟩

set_option maxHeartbeats 4000000 in
theorem stair_key.calls (p : S49) (n : Int) (w : World) : Calls Try.prog 19 #[.agg #[.int .i64 p.f0, .int .i64 p.f1], .int .i64 n] w fun e w' => e = .returned (.int .i64 (stair_cmpI p.f0 n)) ∧ Below w.heap.size w w' := by
  go_enter Try.func19, Try.ntmps19
  go_wp2_with (go_at_call 20; refine (stair_cmp.calls _ _ _).mono ?_; rintro e w' ⟨rfl, rfl⟩)
  go_ret
  exact ⟨rfl, (Below.refl _ _).alloc (Nat.le_refl _) _⟩

/-- a binary search: F rounds at most, from i to j -/
def stair_bsF {α : Type} (lt : α → Bool) (z : α) (l : List α) : Nat → Nat → Nat → Nat
  | 0, i, _ => i
  | F + 1, i, j => if i < j then (if lt (l.getD ((i + j) / 2) z) then stair_bsF lt z l F ((i + j) / 2 + 1) j else stair_bsF lt z l F i ((i + j) / 2)) else i

theorem stair_bsF_le {α : Type} (lt : α → Bool) (z : α) (l : List α) (F : Nat) : ∀ i j, i ≤ j → stair_bsF lt z l F i j ≤ j := by
  induction F with
  | zero => intro i j h; exact h
  | succ F ih =>
    intro i j h
    unfold stair_bsF
    split
    · split
      · exact ih _ _ (by omega)
      · exact Nat.le_trans (ih _ _ (by omega)) (by omega)
    · exact h

/-- where what is below comes first, what is found is where it ends -/
theorem stair_bsF_spec {α : Type} (lt : α → Bool) (z : α) (l : List α) (hm : ∀ a b, a < b → b < l.length → lt (l.getD b z) = true → lt (l.getD a z) = true) (F : Nat) : ∀ i j, j ≤ l.length → i ≤ j → j - i ≤ F →
    (∀ a, a < i → lt (l.getD a z) = true) → (∀ a, j ≤ a → a < l.length → lt (l.getD a z) = false) →
    (∀ a, a < stair_bsF lt z l F i j → lt (l.getD a z) = true) ∧ (∀ a, stair_bsF lt z l F i j ≤ a → a < l.length → lt (l.getD a z) = false) := by
  induction F with
  | zero =>
    intro i j hj hij hF h1 h2
    have : i = j := by omega
    subst this
    exact ⟨h1, h2⟩
  | succ F ih =>
    intro i j hj hij hF h1 h2
    unfold stair_bsF
    by_cases hlt : i < j
    · rw [if_pos hlt]
      by_cases hp : lt (l.getD ((i + j) / 2) z) = true
      · rw [if_pos hp]
        refine ih _ _ hj (by omega) (by omega) (fun a ha => ?_) h2
        rcases Nat.lt_or_ge a ((i + j) / 2) with h | h
        · exact hm a _ h (by omega) hp
        · have : a = (i + j) / 2 := by omega
          rw [this]; exact hp
      · rw [if_neg hp]
        have hp' : lt (l.getD ((i + j) / 2) z) = false := by simpa using hp
        refine ih _ _ (by omega) (by omega) (by omega) h1 (fun a ha hal => ?_)
        rcases Nat.lt_or_ge ((i + j) / 2) a with h | h
        · cases hq : lt (l.getD a z) with
          | false => rfl
          | true => rw [hm _ a h hal hq] at hp'; cases hp'
        · have : a = (i + j) / 2 := by omega
          rw [this]; exact hp'
    · rw [if_neg hlt]
      have : i = j := by omega
      subst this
      exact ⟨h1, h2⟩

def stair_lt (n : Int) (p : S49) : Bool := decide (stair_cmpI p.f0 n < 0)
def stair_ix (l : List S49) (n : Int) : Nat := stair_bsF (stair_lt n) z49 l l.length 0 l.length
def stair_hit (l : List S49) (n : Int) : Bool := decide (stair_ix l n < l.length) && (stair_cmpI (rd_T49 l (stair_ix l n)).f0 n == 0)

set_option maxHeartbeats 8000000 in
set_option maxRecDepth 100000 in
theorem stair_search.calls (A0 : Option Addr) (c0 : Nat) (l0 : List S49) (n : Int) (w : World) (hr0 : Kd.C k49 w A0 l0.length l0) (hc0 : l0.length ≤ c0) (hlen : l0.length ≤ 4611686018427387904) :
    Calls Try.prog 18 #[.slice A0 l0.length c0, .int .i64 n, .func (.func 19) #[] #[]] w fun e w' => e = .returned (.tuple #[.int .i64 (stair_ix l0 n), .bool (stair_hit l0 n)]) ∧ Below w.heap.size w w' := by
  have HR0 := Aside0.mk hr0
  clear hr0
  have hu49 := Try.underlying49
  obtain ⟨R, hR⟩ : ∃ R, R = stair_ix l0 n := ⟨_, rfl⟩
  have HRR := Aside0.mk hR
  have hRl : R ≤ l0.length := by rw [hR]; exact stair_bsF_le _ _ _ _ _ _ (Nat.zero_le _)
  clear hR
  go_enter Try.func18, Try.ntmps18
  go_wp2
  go_loopw [9, 10, 11] (fun v9 v10 v11 w' => ∃ i j F : Nat, i ≤ j ∧ j ≤ l0.length ∧ j ≤ i + F ∧ v9 = .int .i64 i ∧ v10 = .int .i64 j ∧ Aside0 (stair_bsF (stair_lt n) z49 l0 F i j = R) ∧ Below w.heap.size w w') (fun v9 v10 _ _ => (intOf v10).toNat - (intOf v9).toNat)
  case atStart => exact ⟨0, l0.length, l0.length, Nat.zero_le _, Nat.le_refl _, by omega, rfl, rfl, ⟨HRR.out.symm⟩, Below.refl _ _⟩
  case round =>
    obtain ⟨i, j, F, hij, hjl, hF, rfl, rfl, HA, HB⟩ := hrel
    by_cases hlt : i < j
    · obtain ⟨F, rfl⟩ : ∃ G, F = G + 1 := ⟨F - 1, by omega⟩
      obtain ⟨ad, e, hx0, hx1⟩ := at_T49 (Kd.C_below HR0.out HB) (((i + j) / 2 : Nat) : Int) (by omega) (by omega)
      cases e
      simp only [Int.toNat_natCast] at hx0 hx1
      have hst := HA.out
      unfold stair_bsF at hst
      rw [if_pos hlt] at hst
      have hrd : l0.getD ((i + j) / 2) z49 = rd_T49 l0 (((i : Int) + (j : Int)) / 2) := by
        unfold rd_T49
        rw [show (((i : Int) + (j : Int)) / 2).toNat = (i + j) / 2 from by omega]
      rw [hrd] at hst
      clear hrd
      by_cases hp : stair_cmpI (rd_T49 l0 (((i : Int) + (j : Int)) / 2)).f0 n < 0
      · have hpl : stair_lt n (rd_T49 l0 (((i : Int) + (j : Int)) / 2)) = true := by simpa [stair_lt] using hp
        rw [if_pos hpl] at hst
        have HA2 := Aside0.mk hst
        clear hst hpl HA
        go_wp2_with (go_at_call 19; refine (stair_key.calls (rd_T49 l0 (((i : Int) + (j : Int)) / 2)) n _).mono ?_; rintro e w' ⟨rfl, hb⟩)
        go_roundw
        case rel => exact ⟨(i + j) / 2 + 1, j, F, by omega, hjl, by omega, by go_num, by go_num, HA2, below_then HB HB.size hb⟩
        case measure => simp [intOf]; omega
      · have hpl : ¬ stair_lt n (rd_T49 l0 (((i : Int) + (j : Int)) / 2)) = true := by simpa [stair_lt] using hp
        rw [if_neg hpl] at hst
        have HA2 := Aside0.mk hst
        clear hst hpl HA
        go_wp2_with (go_at_call 19; refine (stair_key.calls (rd_T49 l0 (((i : Int) + (j : Int)) / 2)) n _).mono ?_; rintro e w' ⟨rfl, hb⟩)
        go_roundw
        case rel => exact ⟨i, (i + j) / 2, F, by omega, by omega, by omega, by go_num, by go_num, HA2, below_then HB HB.size hb⟩
        case measure => simp [intOf]; omega
    · have hii : i = j := by omega
      subst hii
      have hRi : i = R := by
        have := HA.out
        cases F with
        | zero => exact this
        | succ F => unfold stair_bsF at this; rw [if_neg hlt] at this; exact this
      clear HA
      subst hRi
      by_cases hin : i < l0.length
      · obtain ⟨ad, e, hx0, hx1⟩ := at_T49 (Kd.C_below HR0.out HB) (i : Int) (by omega) (by omega)
        cases e
        simp only [Int.toNat_natCast] at hx0 hx1
        have HH : Aside0 (stair_hit l0 n = (stair_cmpI (rd_T49 l0 (i : Int)).f0 n == 0)) := ⟨by unfold stair_hit; rw [← HRR.out]; simp [hin]⟩
        go_wp2_with (go_at_call 19; refine (stair_key.calls (rd_T49 l0 (i : Int)) n _).mono ?_; rintro e w' ⟨rfl, hb⟩)
        go_ret2
        exact ⟨by rw [HH.out, ← HRR.out]; rfl, below_then HB HB.size hb⟩
      · have HH : Aside0 (stair_hit l0 n = false) := ⟨by unfold stair_hit; rw [← HRR.out]; simp [hin]⟩
        have hdd : decide ((i : Int) < (l0.length : Int)) = false := by simp; omega
        go_wp2
        go_ret2
        exact ⟨by rw [HH.out, ← HRR.out]; rfl, HB⟩

def stair_Band.f (k : Nat) (l0 : List S49) (a1 : Int) : Option (Int × Bool) := (stair_may.f k l0).bind fun t =>
  if t = true then (if stair_hit l0 a1 = true then some ((stair_ix l0 a1 : Int), true) else if (stair_ix l0 a1 : Int) = 0 then some (0, false) else some ((stair_ix l0 a1 : Int) - 1, true)) else some (0, false)
theorem stair_Band.mono : ∀ a0 a1 k, LeO (stair_Band.f k a0 a1) (stair_Band.f (k + 1) a0 a1) := by
  intro a0 a1 k
  unfold stair_Band.f
  exact LeO.bind (stair_may.mono _ _) (fun _ => LeO.refl _)

set_option maxHeartbeats 8000000 in
set_option maxRecDepth 100000 in
theorem stair_Band.calls (k : Nat) (A0 : Option Addr) (c0 : Nat) (l0 : List S49) (a1 : Int) (r1 : Int) (r2 : Bool) (w : World) (hr0 : Kd.C k49 w A0 l0.length l0) (hc0 : l0.length ≤ c0) (h : stair_Band.f k l0 a1 = some (r1, r2)) :
    Calls Try.prog 15 #[.slice A0 l0.length c0, .int .i64 a1] w fun e w' => e = .returned (.tuple #[.int .i64 r1, .bool r2]) ∧ Below w.heap.size w w' := by
  have HR0 := Aside0.mk hr0
  clear hr0
  unfold stair_Band.f at h
  obtain ⟨t, ht, h⟩ := Option.bind_eq_some_iff.mp h
  have HT := Aside0.mk ht
  cases t with
  | false =>
    rw [if_neg (by simp)] at h
    obtain ⟨rfl, rfl⟩ : r1 = 0 ∧ r2 = false := by simpa using (Option.some.inj h).symm
    clear h ht
    go_enter Try.func15, Try.ntmps15
    go_wp2_with (go_at_call 14; refine (stair_may.calls k _ _ l0 false _ HR0.out hc0 HT.out).mono ?_; rintro e w' ⟨rfl, hb⟩)
    go_ret2
    exact ⟨rfl, hb⟩
  | true =>
    rw [if_pos rfl] at h
    have h8 : l0.length ≤ 8 := by
      unfold stair_may.f at ht
      split at ht
      · cases ht
      · omega
    clear ht
    have hix : stair_ix l0 a1 ≤ l0.length := stair_bsF_le _ _ _ _ _ _ (Nat.zero_le _)
    cases hh : stair_hit l0 a1 with
    | true =>
      rw [hh, if_pos rfl] at h
      obtain ⟨rfl, rfl⟩ : r1 = (stair_ix l0 a1 : Int) ∧ r2 = true := by simpa using (Option.some.inj h).symm
      have HH := Aside0.mk hh
      clear h hh
      go_enter Try.func15, Try.ntmps15
      go_wp2_with (first | (go_at_call 14; refine (stair_may.calls k _ _ l0 true _ HR0.out hc0 HT.out).mono ?_; rintro e w' ⟨rfl, hb⟩; have HR1 := Aside0.mk (Kd.C_below HR0.out hb)) | (go_at_call 18; refine (stair_search.calls _ _ l0 a1 _ HR1.out hc0 (by omega)).mono ?_; rw [HH.out]; rintro e w' ⟨rfl, hb2⟩))
      go_ret2
      exact ⟨rfl, below_then hb hb.size hb2⟩
    | false =>
      rw [hh, if_neg (by simp)] at h
      have HH := Aside0.mk hh
      clear hh
      by_cases h0 : (stair_ix l0 a1 : Int) = 0
      · rw [if_pos h0] at h
        obtain ⟨rfl, rfl⟩ : r1 = 0 ∧ r2 = false := by simpa using (Option.some.inj h).symm
        have h0b : ((stair_ix l0 a1 : Int) == 0) = true := by simpa using h0
        clear h h0
        go_enter Try.func15, Try.ntmps15
        go_wp2_with (first | (go_at_call 14; refine (stair_may.calls k _ _ l0 true _ HR0.out hc0 HT.out).mono ?_; rintro e w' ⟨rfl, hb⟩; have HR1 := Aside0.mk (Kd.C_below HR0.out hb)) | (go_at_call 18; refine (stair_search.calls _ _ l0 a1 _ HR1.out hc0 (by omega)).mono ?_; rw [HH.out]; rintro e w' ⟨rfl, hb2⟩))
        go_ret2
        exact ⟨rfl, below_then hb hb.size hb2⟩
      · rw [if_neg h0] at h
        obtain ⟨rfl, rfl⟩ : r1 = (stair_ix l0 a1 : Int) - 1 ∧ r2 = true := by simpa using (Option.some.inj h).symm
        have h0b : ((stair_ix l0 a1 : Int) == 0) = false := by simpa using h0
        clear h h0
        go_enter Try.func15, Try.ntmps15
        go_wp2_with (first | (go_at_call 14; refine (stair_may.calls k _ _ l0 true _ HR0.out hc0 HT.out).mono ?_; rintro e w' ⟨rfl, hb⟩; have HR1 := Aside0.mk (Kd.C_below HR0.out hb)) | (go_at_call 18; refine (stair_search.calls _ _ l0 a1 _ HR1.out hc0 (by omega)).mono ?_; rw [HH.out]; rintro e w' ⟨rfl, hb2⟩))
        go_ret2
        exact ⟨rfl, below_then hb hb.size hb2⟩

/-! ### stair_Want: function 11 -/
def stair_Want.j0 : Nat → List (S49) → Int → Int → Int → Bool → Option (Int × Int)
  | 0, _, _, _, _, _ => none
  | k + 1, x0, x1, x2, x3, x34 => if x34 = true then (some (0, 2)) else ((stair_Band.f k x0 (wrap64 (x2 - x3))).bind fun bt109 => (if bt109.2 = true then (if 0 ≤ bt109.1 then (if bt109.1 < (x0.length : Int) then (some (mx (wrap64 (x1 + ((rd_T49 x0 bt109.1).f1))) 0, 0)) else (none)) else (none)) else (some (mx x1 0, 0))))
def stair_Want.f (k : Nat) (l0 : List (S49)) (a1 : Int) (a2 : Int) (a3 : Int) : Option (Int × Int) := (stair_may.f k l0).bind fun t108 => (if t108 = true then (if a1 < 0 then (stair_Want.j0 k l0 a1 a2 a3 true) else (if a1 > 65536 then (stair_Want.j0 k l0 a1 a2 a3 true) else (if (mn a2 a3) < 0 then (stair_Want.j0 k l0 a1 a2 a3 true) else (stair_Want.j0 k l0 a1 a2 a3 (decide ((mx a2 a3) > 1048576)))))) else (stair_Want.j0 k l0 a1 a2 a3 true))
theorem stair_Want.mono_l : ∀ k, (∀ y0 y1 y2 y3 y4, LeO (stair_Want.j0 k y0 y1 y2 y3 y4) (stair_Want.j0 (k + 1) y0 y1 y2 y3 y4))
  | 0 => fun _ _ _ _ _ r h => by simp [stair_Want.j0] at h
  | k + 1 => by
    have ih0 := stair_Want.mono_l k
    · intro y0 y1 y2 y3 y4
      unfold stair_Want.j0
      repeat' first
      | (with_reducible exact ih0 _ _ _ _ _)
      | (with_reducible exact stair_Band.mono _ _ _)
      | (with_reducible exact stair_may.mono _ _)
      | (with_reducible exact LeO.refl _)
      | (with_reducible exact LeO.none _)
      | (with_reducible refine LeO.ite ?_ ?_)
      | (with_reducible refine LeO.bind ?_ (fun _ => ?_))
      | exact ih0 _ _ _ _ _
      | exact stair_Band.mono _ _ _
      | exact stair_may.mono _ _
      | exact LeO.none _
      | refine LeO.ite ?_ ?_
      | refine LeO.bind ?_ (fun _ => ?_)
theorem stair_Want.mono : ∀ a0 a1 a2 a3 k, LeO (stair_Want.f k a0 a1 a2 a3) (stair_Want.f (k + 1) a0 a1 a2 a3) := by
  intro a0 a1 a2 a3 k
  have ih0 := stair_Want.mono_l k
  unfold stair_Want.f
  repeat' first
      | (with_reducible exact ih0 _ _ _ _ _)
      | (with_reducible exact stair_Band.mono _ _ _)
      | (with_reducible exact stair_may.mono _ _)
      | (with_reducible exact LeO.refl _)
      | (with_reducible exact LeO.none _)
      | (with_reducible refine LeO.ite ?_ ?_)
      | (with_reducible refine LeO.bind ?_ (fun _ => ?_))
      | exact ih0 _ _ _ _ _
      | exact stair_Band.mono _ _ _
      | exact stair_may.mono _ _
      | exact LeO.none _
      | refine LeO.ite ?_ ?_
      | refine LeO.bind ?_ (fun _ => ?_)
set_option maxHeartbeats 8000000 in
set_option maxRecDepth 100000 in
theorem stair_Want.calls (k : Nat) (A0 : Option Addr) (c0 : Nat) (l0 : List (S49)) (a1 : Int) (a2 : Int) (a3 : Int) (r1 : Int) (r2 : Int) (w : World) (hr0 : Kd.C k49 w A0 l0.length l0) (hc0 : l0.length ≤ c0) (h : stair_Want.f k l0 a1 a2 a3 = some (r1, r2)) :
    Calls Try.prog 11 #[.slice A0 l0.length c0, .int .i64 a1, .int .i64 a2, .int .i64 a3] w fun e w' => e = .returned (.tuple #[.int .i64 r1, .int .i64 r2]) ∧ Below w.heap.size w w' := by
  have HR0 := Aside0.mk hr0
  have HC0 := Aside0.mk hc0
  clear hr0 hc0
  have HB := Aside0.mk (Below.refl w.heap.size w)
  have H : ((stair_may.f k l0).bind fun t108 => (if t108 = true then (if a1 < 0 then (stair_Want.j0 k l0 a1 a2 a3 true) else (if a1 > 65536 then (stair_Want.j0 k l0 a1 a2 a3 true) else (if (mn a2 a3) < 0 then (stair_Want.j0 k l0 a1 a2 a3 true) else (stair_Want.j0 k l0 a1 a2 a3 (decide ((mx a2 a3) > 1048576)))))) else (stair_Want.j0 k l0 a1 a2 a3 true))) = some (r1, r2) := h
  clear h
  have HC5 := Aside0.mk H
  clear H
  go_enter Try.func11, Try.ntmps11
  go_upto_region 1 with (fail)
  go_cut [34] (fun v34 wc => ∃ (kq : Nat) (x34_4 : Bool), v34 = .bool x34_4 ∧ Aside0 (stair_Want.j0 kq l0 a1 a2 a3 x34_4 = some (r1, r2)) ∧ Aside0 (kq ≤ k) ∧ Aside0 (Below w.heap.size w wc))
  case first =>
    have H := HC5.out
    clear HC5
    replace H := Option.bind_eq_some_iff.mp H
    obtain ⟨t108, A60, H⟩ := H
    replace H : (if t108 = true then (if a1 < 0 then (stair_Want.j0 k l0 a1 a2 a3 true) else (if a1 > 65536 then (stair_Want.j0 k l0 a1 a2 a3 true) else (if (mn a2 a3) < 0 then (stair_Want.j0 k l0 a1 a2 a3 true) else (stair_Want.j0 k l0 a1 a2 a3 (decide ((mx a2 a3) > 1048576)))))) else (stair_Want.j0 k l0 a1 a2 a3 true)) = some (r1, r2) := H
    have A6 := Aside0.mk A60
    clear A60
    by_cases c7 : t108 = true
    · subst c7
      have H1 : (if a1 < 0 then (stair_Want.j0 k l0 a1 a2 a3 true) else (if a1 > 65536 then (stair_Want.j0 k l0 a1 a2 a3 true) else (if (mn a2 a3) < 0 then (stair_Want.j0 k l0 a1 a2 a3 true) else (stair_Want.j0 k l0 a1 a2 a3 (decide ((mx a2 a3) > 1048576)))))) = some (r1, r2) := by rw [if_pos rfl] at H; exact H
      clear H
      have H := H1
      clear H1
      by_cases c8 : a1 < 0
      · rw [if_pos c8] at H
        have c8b0 : decide (a1 < 0) = true := decide_eq_true c8
        clear c8
        (first | rw [c8b0] | (simp only [i64_w, i32_w]; rw [c8b0]) | skip)
        have H' := Aside0.mk H
        clear H
        go_wp2_with (first | ((with_reducible refine gate_callee (f := 14) rfl ?_); refine goesL_ (some 13) rfl rfl Try.func14 (by kernel_rfl) rfl #[.slice A0 l0.length c0] rfl (by (try simp only [List.map_toArray, List.map_cons, List.map_nil]); first | done | rfl | (simp only [List.length_drop, List.length_take]; rfl)) ?_; (with_reducible refine (stair_may.calls k _ _ l0 true _ ?side1 ?side2 A6.out).mono ?_); (case side1 => repeat (first | exact (Kd.C_below HR0.out HB.out) | (with_reducible refine Kd.C_alloc ?_ _) | (with_reducible refine Kd.C_drewN ?_ _) | (with_reducible refine Kd.C_drew ?_))); (case side2 => exact HC0.out); rintro e w9 ⟨rfl, hb⟩; refine ⟨_, rfl, ?_⟩; have n0_ := Aside0.mk (below_step (by repeat (first | (with_reducible first | exact HB.out | apply below_alloc | apply pw_below_drewN | apply below_drew1) | exact HB.out)) hb); clear HB; have HB := n0_; clear n0_; (try clear hb); (try clear hb2); (try clear hk); (try clear hi)))
        go_meet
        case rel => exact ⟨_, (true), (by first | rfl | (simp; done) | (simp [*]; done)), H', ⟨by first | omega | exact Nat.le_refl _⟩, ⟨by repeat (first | (with_reducible first | exact HB.out | apply below_alloc | apply pw_below_drewN | apply below_drew1) | exact HB.out)⟩⟩
      · rw [if_neg c8] at H
        have c8b0 : decide (a1 < 0) = false := decide_eq_false c8
        clear c8
        (first | rw [c8b0] | (simp only [i64_w, i32_w]; rw [c8b0]) | skip)
        by_cases c10 : a1 > 65536
        · rw [if_pos c10] at H
          have c10b0 : decide (65536 < a1) = true := decide_eq_true c10
          clear c10
          have H' := Aside0.mk H
          clear H
          go_wp2_with (first | ((with_reducible refine gate_callee (f := 14) rfl ?_); refine goesL_ (some 13) rfl rfl Try.func14 (by kernel_rfl) rfl #[.slice A0 l0.length c0] rfl (by (try simp only [List.map_toArray, List.map_cons, List.map_nil]); first | done | rfl | (simp only [List.length_drop, List.length_take]; rfl)) ?_; (with_reducible refine (stair_may.calls k _ _ l0 true _ ?side1 ?side2 A6.out).mono ?_); (case side1 => repeat (first | exact (Kd.C_below HR0.out HB.out) | (with_reducible refine Kd.C_alloc ?_ _) | (with_reducible refine Kd.C_drewN ?_ _) | (with_reducible refine Kd.C_drew ?_))); (case side2 => exact HC0.out); rintro e w11 ⟨rfl, hb⟩; refine ⟨_, rfl, ?_⟩; have n0_ := Aside0.mk (below_step (by repeat (first | (with_reducible first | exact HB.out | apply below_alloc | apply pw_below_drewN | apply below_drew1) | exact HB.out)) hb); clear HB; have HB := n0_; clear n0_; (try clear hb); (try clear hb2); (try clear hk); (try clear hi)))
          go_meet
          case rel => exact ⟨_, (true), (by first | rfl | (simp; done) | (simp [*]; done)), H', ⟨by first | omega | exact Nat.le_refl _⟩, ⟨by repeat (first | (with_reducible first | exact HB.out | apply below_alloc | apply pw_below_drewN | apply below_drew1) | exact HB.out)⟩⟩
        · rw [if_neg c10] at H
          have c10b0 : decide (65536 < a1) = false := decide_eq_false c10
          clear c10
          obtain ⟨ji12, hji12⟩ : ∃ j_ : Int, (mn a2 a3) = j_ := ⟨_, rfl⟩
          replace H : (if (ji12) < 0 then (stair_Want.j0 k l0 a1 a2 a3 true) else (stair_Want.j0 k l0 a1 a2 a3 (decide ((mx a2 a3) > 1048576)))) = some (r1, r2) := by first | (rw [hji12] at H; exact H) | (simp only [hji12] at H ⊢; exact H)
          (try rw [hji12] at A6)
          have hji12_ : (if a3 < a2 then a3 else a2) = ji12 := hji12
          by_cases c13 : (ji12) < 0
          · rw [if_pos c13] at H
            have c13b0 : decide ((ji12) < 0) = true := decide_eq_true c13
            clear c13
            have H' := Aside0.mk H
            clear H
            go_wp2_with (first | ((with_reducible refine gate_callee (f := 14) rfl ?_); refine goesL_ (some 13) rfl rfl Try.func14 (by kernel_rfl) rfl #[.slice A0 l0.length c0] rfl (by (try simp only [List.map_toArray, List.map_cons, List.map_nil]); first | done | rfl | (simp only [List.length_drop, List.length_take]; rfl)) ?_; (with_reducible refine (stair_may.calls k _ _ l0 true _ ?side1 ?side2 A6.out).mono ?_); (case side1 => repeat (first | exact (Kd.C_below HR0.out HB.out) | (with_reducible refine Kd.C_alloc ?_ _) | (with_reducible refine Kd.C_drewN ?_ _) | (with_reducible refine Kd.C_drew ?_))); (case side2 => exact HC0.out); rintro e w14 ⟨rfl, hb⟩; refine ⟨_, rfl, ?_⟩; have n0_ := Aside0.mk (below_step (by repeat (first | (with_reducible first | exact HB.out | apply below_alloc | apply pw_below_drewN | apply below_drew1) | exact HB.out)) hb); clear HB; have HB := n0_; clear n0_; (try clear hb); (try clear hb2); (try clear hk); (try clear hi)))
            go_meet
            case rel => exact ⟨_, (true), (by first | rfl | (simp; done) | (simp [*]; done)), H', ⟨by first | omega | exact Nat.le_refl _⟩, ⟨by repeat (first | (with_reducible first | exact HB.out | apply below_alloc | apply pw_below_drewN | apply below_drew1) | exact HB.out)⟩⟩
          · rw [if_neg c13] at H
            have c13b0 : decide ((ji12) < 0) = false := decide_eq_false c13
            clear c13
            obtain ⟨ji15, hji15⟩ : ∃ j_ : Int, (mx a2 a3) = j_ := ⟨_, rfl⟩
            replace H : (stair_Want.j0 k l0 a1 a2 a3 (decide ((ji15) > 1048576))) = some (r1, r2) := by first | (rw [hji15] at H; exact H) | (simp only [hji15] at H ⊢; exact H)
            (try rw [hji15] at A6)
            have hji15_ : (if a2 < a3 then a3 else a2) = ji15 := hji15
            have H' := Aside0.mk H
            clear H
            go_wp2_with (first | ((with_reducible refine gate_callee (f := 14) rfl ?_); refine goesL_ (some 13) rfl rfl Try.func14 (by kernel_rfl) rfl #[.slice A0 l0.length c0] rfl (by (try simp only [List.map_toArray, List.map_cons, List.map_nil]); first | done | rfl | (simp only [List.length_drop, List.length_take]; rfl)) ?_; (with_reducible refine (stair_may.calls k _ _ l0 true _ ?side1 ?side2 A6.out).mono ?_); (case side1 => repeat (first | exact (Kd.C_below HR0.out HB.out) | (with_reducible refine Kd.C_alloc ?_ _) | (with_reducible refine Kd.C_drewN ?_ _) | (with_reducible refine Kd.C_drew ?_))); (case side2 => exact HC0.out); rintro e w16 ⟨rfl, hb⟩; refine ⟨_, rfl, ?_⟩; have n0_ := Aside0.mk (below_step (by repeat (first | (with_reducible first | exact HB.out | apply below_alloc | apply pw_below_drewN | apply below_drew1) | exact HB.out)) hb); clear HB; have HB := n0_; clear n0_; (try clear hb); (try clear hb2); (try clear hk); (try clear hi)))
            go_meet
            case rel => exact ⟨_, (decide ((ji15) > 1048576)), (by first | rfl | (simp; done) | (simp only [← hji15] <;> (first | rfl | simp)) | (simp [*]; done)), H', ⟨by first | omega | exact Nat.le_refl _⟩, ⟨by repeat (first | (with_reducible first | exact HB.out | apply below_alloc | apply pw_below_drewN | apply below_drew1) | exact HB.out)⟩⟩
    · replace c7 := Bool.eq_false_iff.mpr c7
      subst c7
      have H1 : (stair_Want.j0 k l0 a1 a2 a3 true) = some (r1, r2) := by rw [if_neg (show ¬ (false = true) by decide)] at H; exact H
      clear H
      have H := H1
      clear H1
      have H' := Aside0.mk H
      clear H
      go_wp2_with (first | ((with_reducible refine gate_callee (f := 14) rfl ?_); refine goesL_ (some 13) rfl rfl Try.func14 (by kernel_rfl) rfl #[.slice A0 l0.length c0] rfl (by (try simp only [List.map_toArray, List.map_cons, List.map_nil]); first | done | rfl | (simp only [List.length_drop, List.length_take]; rfl)) ?_; (with_reducible refine (stair_may.calls k _ _ l0 false _ ?side1 ?side2 A6.out).mono ?_); (case side1 => repeat (first | exact (Kd.C_below HR0.out HB.out) | (with_reducible refine Kd.C_alloc ?_ _) | (with_reducible refine Kd.C_drewN ?_ _) | (with_reducible refine Kd.C_drew ?_))); (case side2 => exact HC0.out); rintro e w17 ⟨rfl, hb⟩; refine ⟨_, rfl, ?_⟩; have n0_ := Aside0.mk (below_step (by repeat (first | (with_reducible first | exact HB.out | apply below_alloc | apply pw_below_drewN | apply below_drew1) | exact HB.out)) hb); clear HB; have HB := n0_; clear n0_; (try clear hb); (try clear hb2); (try clear hk); (try clear hi)))
      go_meet
      case rel => exact ⟨_, (true), (by first | rfl | (simp; done) | (simp [*]; done)), H', ⟨by first | omega | exact Nat.le_refl _⟩, ⟨by repeat (first | (with_reducible first | exact HB.out | apply below_alloc | apply pw_below_drewN | apply below_drew1) | exact HB.out)⟩⟩
  case rest =>
    clear HC5
    try clear c1
    try clear p2
    try clear c7
    try clear c8
    try clear c8b0
    try clear c10
    try clear c10b0
    try clear c11
    try clear c13
    try clear c13b0
    try clear c14
    obtain ⟨kq, x34_4, rfl, HA, HJ4, HB⟩ := hcut
    cases kq with
    | zero => exact absurd HA.out (by simp [stair_Want.j0])
    | succ kj4 =>
      have H := HA.out
      clear HA
      simp only [stair_Want.j0] at H
      by_cases c18 : x34_4 = true
      · subst c18
        have H1 : (some (0, 2)) = some (r1, r2) := by rw [if_pos rfl] at H; exact H
        clear H
        have H := H1
        clear H1
        simp only [Option.some.injEq, Prod.mk.injEq] at H
        obtain ⟨rfl, rfl⟩ := H
        go_wp2
        go_ret2
        exact ⟨by first | rfl | (simp [errW_none, errW_some] <;> rfl) | (simp [*, errW_none, errW_some] <;> rfl), by repeat (first | (with_reducible first | exact HB.out | apply below_alloc | apply pw_below_drewN | apply below_drew1) | exact HB.out)⟩
      · replace c18 := Bool.eq_false_iff.mpr c18
        subst c18
        have H1 : ((stair_Band.f kj4 l0 (wrap64 (a2 - a3))).bind fun bt109 => (if bt109.2 = true then (if 0 ≤ bt109.1 then (if bt109.1 < (l0.length : Int) then (some (mx (wrap64 (a1 + ((rd_T49 l0 bt109.1).f1))) 0, 0)) else (none)) else (none)) else (some (mx a1 0, 0)))) = some (r1, r2) := by rw [if_neg (show ¬ (false = true) by decide)] at H; exact H
        clear H
        have H := H1
        clear H1
        replace H := Option.bind_eq_some_iff.mp H
        obtain ⟨⟨t109, t110⟩, A190, H⟩ := H
        replace H : (if t110 = true then (if 0 ≤ t109 then (if t109 < (l0.length : Int) then (some (mx (wrap64 (a1 + ((rd_T49 l0 t109).f1))) 0, 0)) else (none)) else (none)) else (some (mx a1 0, 0))) = some (r1, r2) := H
        have A19 := Aside0.mk A190
        clear A190
        by_cases c20 : t110 = true
        · subst c20
          have H1 : (if 0 ≤ t109 then (if t109 < (l0.length : Int) then (some (mx (wrap64 (a1 + ((rd_T49 l0 t109).f1))) 0, 0)) else (none)) else (none)) = some (r1, r2) := by rw [if_pos rfl] at H; exact H
          clear H
          have H := H1
          clear H1
          by_cases c21 : 0 ≤ t109
          · rw [if_pos c21] at H
            have c21b0 : decide (0 ≤ t109) = true := decide_eq_true c21
            clear c21
            by_cases c22 : t109 < (l0.length : Int)
            · rw [if_pos c22] at H
              have c22b0 : decide (t109 < (l0.length : Int)) = true := decide_eq_true c22
              clear c22
              obtain ⟨ji23, hji23⟩ : ∃ j_ : Int, (mx (wrap64 (a1 + ((rd_T49 l0 t109).f1))) 0) = j_ := ⟨_, rfl⟩
              replace H : (some (ji23, 0)) = some (r1, r2) := by first | (rw [hji23] at H; exact H) | (simp only [hji23] at H ⊢; exact H)
              (try rw [hji23] at A19)
              have hji23_ : (if (wrap64 (a1 + ((rd_T49 l0 t109).f1))) < 0 then 0 else (wrap64 (a1 + ((rd_T49 l0 t109).f1)))) = ji23 := hji23
              simp only [Option.some.injEq, Prod.mk.injEq] at H
              obtain ⟨rfl, rfl⟩ := H
              go_wp2_with (first | ((with_reducible refine gate_callee (f := 15) rfl ?_); refine goesL_ (some 40) rfl rfl Try.func15 (by kernel_rfl) rfl #[.slice A0 l0.length c0, .int .i64 (wrap64 (a2 - a3))] rfl (by (try simp only [List.map_toArray, List.map_cons, List.map_nil]); first | done | rfl | (simp only [List.length_drop, List.length_take]; rfl)) ?_; (with_reducible refine (stair_Band.calls kj4 _ _ l0 (wrap64 (a2 - a3)) t109 true _ ?side1 ?side2 A19.out).mono ?_); (case side1 => repeat (first | exact (Kd.C_below HR0.out HB.out) | (with_reducible refine Kd.C_alloc ?_ _) | (with_reducible refine Kd.C_drewN ?_ _) | (with_reducible refine Kd.C_drew ?_))); (case side2 => exact HC0.out); rintro e w24 ⟨rfl, hb⟩; refine ⟨_, rfl, ?_⟩; have n0_ := Aside0.mk (below_step (by repeat (first | (with_reducible first | exact HB.out | apply below_alloc | apply pw_below_drewN | apply below_drew1) | exact HB.out)) hb); clear HB; have HB := n0_; clear n0_; (try clear hb); (try clear hb2); (try clear hk); (try clear hi); have p111 : 0 ≤ (t109 : Int) := of_decide_eq_true (by first | (with_reducible assumption) | assumption); have q111 : t109 < (l0.length : Int) := of_decide_eq_true (by first | (with_reducible assumption) | assumption); obtain ⟨ad111, e111, hx111_0, hx111_1⟩ := at_T49 HR0.out t109 p111 q111; cases e111; replace hx111_0 := (HB.out.cell (World.block_lt_of_cell? w _ hx111_0)).trans hx111_0; replace hx111_1 := (HB.out.cell (World.block_lt_of_cell? w _ hx111_1)).trans hx111_1; replace p111 := eq_true p111; replace q111 := eq_true q111))
              go_ret2
              exact ⟨by first | rfl | (simp [errW_none, errW_some] <;> rfl) | (simp only [← hji23]; first | rfl | (simp [errW_none, errW_some] <;> rfl)) | (simp [*, errW_none, errW_some] <;> rfl), by repeat (first | (with_reducible first | exact HB.out | apply below_alloc | apply pw_below_drewN | apply below_drew1) | exact HB.out)⟩
            · rw [if_neg c22] at H
              exact absurd H (by simp)
          · rw [if_neg c21] at H
            exact absurd H (by simp)
        · replace c20 := Bool.eq_false_iff.mpr c20
          subst c20
          have H1 : (some (mx a1 0, 0)) = some (r1, r2) := by rw [if_neg (show ¬ (false = true) by decide)] at H; exact H
          clear H
          have H := H1
          clear H1
          obtain ⟨ji25, hji25⟩ : ∃ j_ : Int, (mx a1 0) = j_ := ⟨_, rfl⟩
          replace H : (some (ji25, 0)) = some (r1, r2) := by first | (rw [hji25] at H; exact H) | (simp only [hji25] at H ⊢; exact H)
          (try rw [hji25] at A19)
          have hji25_ : (if a1 < 0 then 0 else a1) = ji25 := hji25
          simp only [Option.some.injEq, Prod.mk.injEq] at H
          obtain ⟨rfl, rfl⟩ := H
          go_wp2_with (first | ((with_reducible refine gate_callee (f := 15) rfl ?_); refine goesL_ (some 40) rfl rfl Try.func15 (by kernel_rfl) rfl #[.slice A0 l0.length c0, .int .i64 (wrap64 (a2 - a3))] rfl (by (try simp only [List.map_toArray, List.map_cons, List.map_nil]); first | done | rfl | (simp only [List.length_drop, List.length_take]; rfl)) ?_; (with_reducible refine (stair_Band.calls kj4 _ _ l0 (wrap64 (a2 - a3)) t109 false _ ?side1 ?side2 A19.out).mono ?_); (case side1 => repeat (first | exact (Kd.C_below HR0.out HB.out) | (with_reducible refine Kd.C_alloc ?_ _) | (with_reducible refine Kd.C_drewN ?_ _) | (with_reducible refine Kd.C_drew ?_))); (case side2 => exact HC0.out); rintro e w26 ⟨rfl, hb⟩; refine ⟨_, rfl, ?_⟩; have n0_ := Aside0.mk (below_step (by repeat (first | (with_reducible first | exact HB.out | apply below_alloc | apply pw_below_drewN | apply below_drew1) | exact HB.out)) hb); clear HB; have HB := n0_; clear n0_; (try clear hb); (try clear hb2); (try clear hk); (try clear hi)))
          go_ret2
          exact ⟨by first | rfl | (simp [errW_none, errW_some] <;> rfl) | (simp only [← hji25]; first | rfl | (simp [errW_none, errW_some] <;> rfl)) | (simp [*, errW_none, errW_some] <;> rfl), by repeat (first | (with_reducible first | exact HB.out | apply below_alloc | apply pw_below_drewN | apply below_drew1) | exact HB.out)⟩

/-! ### bits_Mul64: function 26 -/
def bits_Mul64.f (a0 : Int) (a1 : Int) : Option (Int × Int) := some (IntKind.u64.wrap ((IntKind.u64.wrap ((IntKind.u64.wrap ((a0 / 4294967296) * (a1 / 4294967296))) + ((IntKind.u64.wrap ((IntKind.u64.wrap ((a0 / 4294967296) * (Go.bits .and .u64 a1 4294967295))) + ((IntKind.u64.wrap ((Go.bits .and .u64 a0 4294967295) * (Go.bits .and .u64 a1 4294967295))) / 4294967296))) / 4294967296))) + ((IntKind.u64.wrap ((Go.bits .and .u64 (IntKind.u64.wrap ((IntKind.u64.wrap ((a0 / 4294967296) * (Go.bits .and .u64 a1 4294967295))) + ((IntKind.u64.wrap ((Go.bits .and .u64 a0 4294967295) * (Go.bits .and .u64 a1 4294967295))) / 4294967296))) 4294967295) + (IntKind.u64.wrap ((Go.bits .and .u64 a0 4294967295) * (a1 / 4294967296))))) / 4294967296)), IntKind.u64.wrap (a0 * a1))
set_option maxHeartbeats 8000000 in
set_option maxRecDepth 100000 in
theorem bits_Mul64.calls (a0 : Int) (a1 : Int) (r1 : Int) (r2 : Int) (w : World) (h : bits_Mul64.f a0 a1 = some (r1, r2)) :
    Calls Try.prog 26 #[.int .u64 a0, .int .u64 a1] w fun e w' => e = .returned (.tuple #[.int .u64 r1, .int .u64 r2]) ∧ Drawn0 w w' := by
  have H : (some (IntKind.u64.wrap ((IntKind.u64.wrap ((IntKind.u64.wrap ((a0 / 4294967296) * (a1 / 4294967296))) + ((IntKind.u64.wrap ((IntKind.u64.wrap ((a0 / 4294967296) * (Go.bits .and .u64 a1 4294967295))) + ((IntKind.u64.wrap ((Go.bits .and .u64 a0 4294967295) * (Go.bits .and .u64 a1 4294967295))) / 4294967296))) / 4294967296))) + ((IntKind.u64.wrap ((Go.bits .and .u64 (IntKind.u64.wrap ((IntKind.u64.wrap ((a0 / 4294967296) * (Go.bits .and .u64 a1 4294967295))) + ((IntKind.u64.wrap ((Go.bits .and .u64 a0 4294967295) * (Go.bits .and .u64 a1 4294967295))) / 4294967296))) 4294967295) + (IntKind.u64.wrap ((Go.bits .and .u64 a0 4294967295) * (a1 / 4294967296))))) / 4294967296)), IntKind.u64.wrap (a0 * a1))) = some (r1, r2) := h
  clear h
  simp only [Option.some.injEq, Prod.mk.injEq] at H
  obtain ⟨rfl, rfl⟩ := H
  go_enter Try.func26, Try.ntmps26
  go_wp2
  go_ret2
  exact ⟨by first | rfl | (simp; done) | (simp [*]; done), by repeat (first | exact Drawn0.refl _ | apply Drawn0.step)⟩

/-! ### num_size: function 27 -/
def num_size.f (a0 : Int) : Option (Int) := if a0 < 0 then (some (IntKind.u64.wrap (-(IntKind.u64.wrap (a0))))) else (some (IntKind.u64.wrap (a0)))
set_option maxHeartbeats 8000000 in
set_option maxRecDepth 100000 in
theorem num_size.calls (a0 : Int) (r : Int) (w : World) (h : num_size.f a0 = some r) :
    Calls Try.prog 27 #[.int .i64 a0] w fun e w' => e = .returned (.int .u64 r) ∧ Drawn0 w w' := by
  have H : (if a0 < 0 then (some (IntKind.u64.wrap (-(IntKind.u64.wrap (a0))))) else (some (IntKind.u64.wrap (a0)))) = some r := h
  clear h
  by_cases c2 : a0 < 0
  · rw [if_pos c2] at H
    have c2b0 : decide (a0 < 0) = true := decide_eq_true c2
    clear c2
    obtain rfl := Option.some.inj H
    go_enter Try.func27, Try.ntmps27
    go_wp2
    go_ret
    exact ⟨by first | rfl | (simp; done) | (simp [*]; done), by repeat (first | exact Drawn0.refl _ | apply Drawn0.step)⟩
  · rw [if_neg c2] at H
    have c2b0 : decide (a0 < 0) = false := decide_eq_false c2
    clear c2
    obtain rfl := Option.some.inj H
    go_enter Try.func27, Try.ntmps27
    go_wp2
    go_ret
    exact ⟨by first | rfl | (simp; done) | (simp [*]; done), by repeat (first | exact Drawn0.refl _ | apply Drawn0.step)⟩

/-! ### num_Mul: function 21 -/
theorem num_w64 (n : Int) (h0 : 0 ≤ n) (h1 : n < 18446744073709551616) : IntKind.u64.wrap n = n := by
  simp [IntKind.wrap, IntKind.bits, IntKind.signed]; omega
theorem num_wi64 (n : Int) (h0 : 0 ≤ n) (h1 : n < 9223372036854775808) : wrap64 n = n := by
  unfold wrap64; omega
theorem num_u64_mask (a : Nat) (ha : a < 18446744073709551616) : Go.bits .and .u64 (a : Int) 4294967295 = ((a % 4294967296 : Nat) : Int) := by
  have h := u64_and_nat a 4294967295 ha (by omega)
  rw [Nat.and_two_pow_sub_one_eq_mod a 32] at h
  exact h

theorem num_size_nat (a : Nat) (ha : a < 9223372036854775808) : num_size.f (a : Int) = some (a : Int) := by
  unfold num_size.f
  rw [if_neg (by omega), num_w64 _ (by omega) (by omega)]

/-- the product of two numbers below 2^64, by num_halves -/
theorem num_halves (a b : Nat) (ha : a < 4611686018427387904 * 4) (hb : b < 4611686018427387904 * 4) :
    a * b / 18446744073709551616 = a / 4294967296 * (b / 4294967296) + (a / 4294967296 * (b % 4294967296) + a % 4294967296 * (b % 4294967296) / 4294967296) / 4294967296
      + ((a / 4294967296 * (b % 4294967296) + a % 4294967296 * (b % 4294967296) / 4294967296) % 4294967296 + a % 4294967296 * (b / 4294967296)) / 4294967296 := by
  have ea := Nat.div_add_mod a 4294967296
  have eb := Nat.div_add_mod b 4294967296
  generalize a / 4294967296 = a1 at *
  generalize a % 4294967296 = a0 at *
  generalize b / 4294967296 = b1 at *
  generalize b % 4294967296 = b0 at *
  have e : a * b = a1 * b1 * 18446744073709551616 + (a1 * b0 + a0 * b1) * 4294967296 + a0 * b0 := by
    rw [← ea, ← eb]
    simp only [Nat.add_mul, Nat.mul_add]
    have h1 : 4294967296 * a1 * (4294967296 * b1) = a1 * b1 * 18446744073709551616 := by
      rw [Nat.mul_mul_mul_comm, Nat.mul_comm (4294967296 * 4294967296)]
    have h2 : a0 * (4294967296 * b1) = a0 * b1 * 4294967296 := by rw [Nat.mul_left_comm, Nat.mul_comm]
    have h3 : 4294967296 * a1 * b0 = a1 * b0 * 4294967296 := by rw [Nat.mul_assoc, Nat.mul_comm]
    rw [h1, h2, h3]
    omega
  rw [e]
  generalize a1 * b1 = p11
  generalize a1 * b0 = p10
  generalize a0 * b1 = p01
  generalize a0 * b0 = p00
  omega

theorem num_mul_lt (a b : Nat) (ha : a < 4294967296) (hb : b < 4294967296) : a * b ≤ 18446744065119617025 := by
  have : a * b ≤ 4294967295 * 4294967295 := Nat.mul_le_mul (by omega) (by omega)
  omega

theorem num_mul64 (a b : Nat) (ha : a < 18446744073709551616) (hb : b < 18446744073709551616) :
    bits_Mul64.f (a : Int) (b : Int) = some (((a * b / 18446744073709551616 : Nat) : Int), ((a * b % 18446744073709551616 : Nat) : Int)) := by
  unfold bits_Mul64.f
  have hlo : IntKind.u64.wrap ((a : Int) * (b : Int)) = ((a * b % 18446744073709551616 : Nat) : Int) := by
    rw [← Int.natCast_mul]
    generalize a * b = c
    simp [IntKind.wrap, IntKind.bits, IntKind.signed]
  have d1 : (a : Int) / 4294967296 = ((a / 4294967296 : Nat) : Int) := by omega
  have d2 : (b : Int) / 4294967296 = ((b / 4294967296 : Nat) : Int) := by omega
  rw [hlo, d1, d2, num_u64_mask a ha, num_u64_mask b hb, num_halves a b (by omega) (by omega)]
  have ha1 : a / 4294967296 < 4294967296 := by omega
  have hb1 : b / 4294967296 < 4294967296 := by omega
  have ha0 : a % 4294967296 < 4294967296 := by omega
  have hb0 : b % 4294967296 < 4294967296 := by omega
  generalize a / 4294967296 = a1 at *
  generalize a % 4294967296 = a0 at *
  generalize b / 4294967296 = b1 at *
  generalize b % 4294967296 = b0 at *
  have p11 := num_mul_lt a1 b1 ha1 hb1
  have p10 := num_mul_lt a1 b0 ha1 hb0
  have p01 := num_mul_lt a0 b1 ha0 hb1
  have p00 := num_mul_lt a0 b0 ha0 hb0
  simp only [← Int.natCast_mul]
  generalize a1 * b1 = q11 at *
  generalize a1 * b0 = q10 at *
  generalize a0 * b1 = q01 at *
  generalize a0 * b0 = q00 at *
  rw [num_w64 (q00 : Int) (by omega) (by omega), num_w64 (q10 : Int) (by omega) (by omega), num_w64 (q01 : Int) (by omega) (by omega), num_w64 (q11 : Int) (by omega) (by omega)]
  have e1 : IntKind.u64.wrap ((q10 : Int) + (q00 : Int) / 4294967296) = ((q10 + q00 / 4294967296 : Nat) : Int) := by rw [num_w64 _ (by omega) (by omega)]; omega
  rw [e1, num_u64_mask _ (by omega)]
  generalize hT : q10 + q00 / 4294967296 = T at *
  have e2 : IntKind.u64.wrap (((T % 4294967296 : Nat) : Int) + (q01 : Int)) = ((T % 4294967296 + q01 : Nat) : Int) := by rw [num_w64 _ (by omega) (by omega)]; omega
  have e3 : IntKind.u64.wrap ((q11 : Int) + (T : Int) / 4294967296) = ((q11 + T / 4294967296 : Nat) : Int) := by rw [num_w64 _ (by omega) (by omega)]; omega
  rw [e2, e3]
  have e4 : IntKind.u64.wrap (((q11 + T / 4294967296 : Nat) : Int) + ((T % 4294967296 + q01 : Nat) : Int) / 4294967296) = ((q11 + T / 4294967296 + (T % 4294967296 + q01) / 4294967296 : Nat) : Int) := by
    rw [num_w64 _ (by omega) (by omega)]; omega
  rw [e4]


/-- A product of two numbers, neither below 0, or its error. -/
def num_Mul.f (a0 : Int) (a1 : Int) : Option (Int × Int) := if a0 < 0 ∨ 9223372036854775807 < a0 ∨ a1 < 0 ∨ 9223372036854775807 < a1 then none else if a0 * a1 ≤ 9223372036854775807 then some (a0 * a1, 0) else some (0, 11)

set_option maxHeartbeats 8000000 in
set_option maxRecDepth 100000 in
theorem num_Mul.walk (a0 a1 : Int) (h0 : 0 ≤ a0) (h1 : 0 ≤ a1) (hi lo : Int) (w : World) (s0 : num_size.f a0 = some a0) (s1 : num_size.f a1 = some a1) (hm : bits_Mul64.f a0 a1 = some (hi, lo)) (hh : 0 ≤ hi) (hl : 0 ≤ lo) (hl2 : lo ≤ 18446744073709551615) :
    Calls Try.prog 21 #[.int .i64 a0, .int .i64 a1] w fun e w' => e = .returned (if 0 < hi ∨ 9223372036854775807 < lo then .tuple #[.int .i64 0, .int .i64 11] else .tuple #[.int .i64 lo, .int .i64 0]) ∧ Drawn0 w w' := by
  have d0 : decide (a0 < 0) = false := decide_eq_false (by omega)
  have d1 : decide (a1 < 0) = false := decide_eq_false (by omega)
  have S0 := Aside0.mk s0
  have S1 := Aside0.mk s1
  have HM := Aside0.mk hm
  clear s0 s1 hm
  by_cases g1 : 0 < hi
  · have E : Aside0 ((if 0 < hi ∨ 9223372036854775807 < lo then Value.tuple #[.int .i64 0, .int .i64 11] else .tuple #[.int .i64 lo, .int .i64 0]) = .tuple #[.int .i64 0, .int .i64 11]) := ⟨if_pos (.inl g1)⟩
    rw [E.out]
    go_enter Try.func21, Try.ntmps21
    go_wp2_with fail
    refine (num_size.calls a0 a0 _ S0.out).mono ?_
    rintro e w' ⟨rfl, ⟨n1, rfl⟩⟩
    go_wp2_with fail
    refine (num_size.calls a1 a1 _ S1.out).mono ?_
    rintro e w' ⟨rfl, ⟨n2, rfl⟩⟩
    go_wp2_with fail
    refine (bits_Mul64.calls a0 a1 hi lo _ HM.out).mono ?_
    rintro e w' ⟨rfl, ⟨n3, rfl⟩⟩
    go_wp2
    go_ret2
    exact ⟨rfl, by repeat (first | exact Drawn0.refl _ | apply Drawn0.step)⟩
  · have g1' : decide (0 < hi) = false := decide_eq_false g1
    by_cases g2 : 9223372036854775807 < lo
    · have E : Aside0 ((if 0 < hi ∨ 9223372036854775807 < lo then Value.tuple #[.int .i64 0, .int .i64 11] else .tuple #[.int .i64 lo, .int .i64 0]) = .tuple #[.int .i64 0, .int .i64 11]) := ⟨if_pos (.inr g2)⟩
      rw [E.out]
      go_enter Try.func21, Try.ntmps21
      go_wp2_with fail
      refine (num_size.calls a0 a0 _ S0.out).mono ?_
      rintro e w' ⟨rfl, ⟨n1, rfl⟩⟩
      go_wp2_with fail
      refine (num_size.calls a1 a1 _ S1.out).mono ?_
      rintro e w' ⟨rfl, ⟨n2, rfl⟩⟩
      go_wp2_with fail
      refine (bits_Mul64.calls a0 a1 hi lo _ HM.out).mono ?_
      rintro e w' ⟨rfl, ⟨n3, rfl⟩⟩
      go_wp2
      go_ret2
      exact ⟨rfl, by repeat (first | exact Drawn0.refl _ | apply Drawn0.step)⟩
    · have g2' : decide (9223372036854775807 < lo) = false := decide_eq_false g2
      have E : Aside0 ((if 0 < hi ∨ 9223372036854775807 < lo then Value.tuple #[.int .i64 0, .int .i64 11] else .tuple #[.int .i64 lo, .int .i64 0]) = .tuple #[.int .i64 lo, .int .i64 0]) := ⟨if_neg (by omega)⟩
      rw [E.out]
      have hwl : Aside0 (wrap64 lo = lo) := ⟨num_wi64 _ (by omega) (by omega)⟩
      go_enter Try.func21, Try.ntmps21
      go_wp2_with fail
      refine (num_size.calls a0 a0 _ S0.out).mono ?_
      rintro e w' ⟨rfl, ⟨n1, rfl⟩⟩
      go_wp2_with fail
      refine (num_size.calls a1 a1 _ S1.out).mono ?_
      rintro e w' ⟨rfl, ⟨n2, rfl⟩⟩
      go_wp2_with fail
      refine (bits_Mul64.calls a0 a1 hi lo _ HM.out).mono ?_
      rintro e w' ⟨rfl, ⟨n3, rfl⟩⟩
      go_wp2
      go_ret2
      exact ⟨by first | rfl | (rw [hwl.out]; rfl), by repeat (first | exact Drawn0.refl _ | apply Drawn0.step)⟩

theorem num_Mul.calls (a0 : Int) (a1 : Int) (r1 : Int) (r2 : Int) (w : World) (h : num_Mul.f a0 a1 = some (r1, r2)) :
    Calls Try.prog 21 #[.int .i64 a0, .int .i64 a1] w fun e w' => e = .returned (.tuple #[.int .i64 r1, .int .i64 r2]) ∧ Drawn0 w w' := by
  unfold num_Mul.f at h
  by_cases hb : a0 < 0 ∨ 9223372036854775807 < a0 ∨ a1 < 0 ∨ 9223372036854775807 < a1
  · rw [if_pos hb] at h; cases h
  rw [if_neg hb] at h
  obtain ⟨a, rfl⟩ := Int.eq_ofNat_of_zero_le (show 0 ≤ a0 by omega)
  obtain ⟨b, rfl⟩ := Int.eq_ofNat_of_zero_le (show 0 ≤ a1 by omega)
  have hw := num_Mul.walk (a : Int) (b : Int) (by omega) (by omega) ((a * b / 18446744073709551616 : Nat) : Int) ((a * b % 18446744073709551616 : Nat) : Int) w (num_size_nat a (by omega)) (num_size_nat b (by omega)) (num_mul64 a b (by omega) (by omega)) (by omega) (by omega) (by omega)
  rw [← Int.natCast_mul] at h
  generalize a * b = c at *
  by_cases hc : (c : Int) ≤ 9223372036854775807
  · rw [if_pos hc] at h
    rw [if_neg (by omega), show c % 18446744073709551616 = c from by omega] at hw
    obtain ⟨rfl, rfl⟩ : r1 = (c : Int) ∧ r2 = 0 := by simpa using (Option.some.inj h).symm
    exact hw
  · rw [if_neg hc] at h
    rw [if_pos (by omega)] at hw
    obtain ⟨rfl, rfl⟩ : r1 = 0 ∧ r2 = 11 := by simpa using (Option.some.inj h).symm
    exact hw

/-! ### num_Up: function 22 -/
def num_Up.f (a0 : Int) (a1 : Int) : Option (Int × Int) := if a1 < 1 then (some (0, 2)) else (if a0 > 0 then (if a1 = 0 then (none) else (some (wrap64 ((wrap64 (Int.tdiv (wrap64 (a0 - 1)) a1)) + 1), 0))) else (if a1 = 0 then (none) else (some (wrap64 (Int.tdiv a0 a1), 0))))
set_option maxHeartbeats 8000000 in
set_option maxRecDepth 100000 in
theorem num_Up.calls (a0 : Int) (a1 : Int) (r1 : Int) (r2 : Int) (w : World) (h : num_Up.f a0 a1 = some (r1, r2)) :
    Calls Try.prog 22 #[.int .i64 a0, .int .i64 a1] w fun e w' => e = .returned (.tuple #[.int .i64 r1, .int .i64 r2]) ∧ Drawn0 w w' := by
  have H : (if a1 < 1 then (some (0, 2)) else (if a0 > 0 then (if a1 = 0 then (none) else (some (wrap64 ((wrap64 (Int.tdiv (wrap64 (a0 - 1)) a1)) + 1), 0))) else (if a1 = 0 then (none) else (some (wrap64 (Int.tdiv a0 a1), 0))))) = some (r1, r2) := h
  clear h
  by_cases c3 : a1 < 1
  · rw [if_pos c3] at H
    have c3b0 : decide (a1 < 1) = true := decide_eq_true c3
    clear c3
    simp only [Option.some.injEq, Prod.mk.injEq] at H
    obtain ⟨rfl, rfl⟩ := H
    go_enter Try.func22, Try.ntmps22
    go_wp2
    go_ret2
    exact ⟨by first | rfl | (simp; done) | (simp [*]; done), by repeat (first | exact Drawn0.refl _ | apply Drawn0.step)⟩
  · rw [if_neg c3] at H
    have c3b0 : decide (a1 < 1) = false := decide_eq_false c3
    clear c3
    by_cases c4 : a0 > 0
    · rw [if_pos c4] at H
      have c4b0 : decide (0 < a0) = true := decide_eq_true c4
      clear c4
      by_cases c5 : a1 = 0
      · rw [if_pos c5] at H
        exact absurd H (by simp)
      · rw [if_neg c5] at H
        have c5b0 : (a1 == 0) = false := beq_eq_false_iff_ne.mpr c5
        have c5b1 : (a1 != 0) = true := bne_iff_ne.mpr c5
        simp only [Option.some.injEq, Prod.mk.injEq] at H
        obtain ⟨rfl, rfl⟩ := H
        go_enter Try.func22, Try.ntmps22
        go_wp2
        go_ret2
        exact ⟨by first | rfl | (simp; done) | (simp [*]; done), by repeat (first | exact Drawn0.refl _ | apply Drawn0.step)⟩
    · rw [if_neg c4] at H
      have c4b0 : decide (0 < a0) = false := decide_eq_false c4
      clear c4
      by_cases c6 : a1 = 0
      · rw [if_pos c6] at H
        exact absurd H (by simp)
      · rw [if_neg c6] at H
        have c6b0 : (a1 == 0) = false := beq_eq_false_iff_ne.mpr c6
        have c6b1 : (a1 != 0) = true := bne_iff_ne.mpr c6
        simp only [Option.some.injEq, Prod.mk.injEq] at H
        obtain ⟨rfl, rfl⟩ := H
        go_enter Try.func22, Try.ntmps22
        go_wp2
        go_ret2
        exact ⟨by first | rfl | (simp; done) | (simp [*]; done), by repeat (first | exact Drawn0.refl _ | apply Drawn0.step)⟩

/-! ### track_want: function 16 -/
def track_want.f (a0 : Int) (a1 : Int) (a2 : Int) : Option (Int × Option Int) := (num_Mul.f a0 a1).bind fun bt112 => (if bt112.2 = 0 then ((num_Up.f bt112.1 a2).bind fun bt114 => (if bt114.2 = 0 then (some (bt114.1, none)) else (some (0, some bt114.2)))) else (some (0, some bt112.2)))
set_option maxHeartbeats 8000000 in
set_option maxRecDepth 100000 in
theorem track_want.calls (a0 : Int) (a1 : Int) (a2 : Int) (r1 : Int) (r2 : Option Int) (w : World) (h : track_want.f a0 a1 a2 = some (r1, r2)) :
    Calls Try.prog 16 #[.int .i64 a0, .int .i64 a1, .int .i64 a2] w fun e w' => e = .returned (.tuple #[.int .i64 r1, errW r2]) ∧ Drawn0 w w' := by
  have hu51 := Try.underlying51
  have hu31 := Try.underlying31
  have H : ((num_Mul.f a0 a1).bind fun bt112 => (if bt112.2 = 0 then ((num_Up.f bt112.1 a2).bind fun bt114 => (if bt114.2 = 0 then (some (bt114.1, none)) else (some (0, some bt114.2)))) else (some (0, some bt112.2)))) = some (r1, r2) := h
  clear h
  replace H := Option.bind_eq_some_iff.mp H
  obtain ⟨⟨t112, t113⟩, A40, H⟩ := H
  replace H : (if t113 = 0 then ((num_Up.f t112 a2).bind fun bt114 => (if bt114.2 = 0 then (some (bt114.1, none)) else (some (0, some bt114.2)))) else (some (0, some t113))) = some (r1, r2) := H
  have A4 := Aside0.mk A40
  clear A40
  by_cases c5 : t113 = 0
  · rw [if_pos c5] at H
    have c5b0 : (t113 == 0) = true := beq_iff_eq.mpr c5
    have c5b1 : (t113 != 0) = false := bne_eq_false_iff_eq.mpr c5
    clear c5
    replace H := Option.bind_eq_some_iff.mp H
    obtain ⟨⟨t114, t115⟩, A60, H⟩ := H
    replace H : (if t115 = 0 then (some (t114, none)) else (some (0, some t115))) = some (r1, r2) := H
    have A6 := Aside0.mk A60
    clear A60
    by_cases c7 : t115 = 0
    · rw [if_pos c7] at H
      have c7b0 : (t115 == 0) = true := beq_iff_eq.mpr c7
      have c7b1 : (t115 != 0) = false := bne_eq_false_iff_eq.mpr c7
      clear c7
      simp only [Option.some.injEq, Prod.mk.injEq] at H
      obtain ⟨rfl, rfl⟩ := H
      go_enter Try.func16, Try.ntmps16
      go_wp2_with (first | ((with_reducible refine gate_callee (f := 21) rfl ?_); refine goesL_ (some 13) rfl rfl Try.func21 (by kernel_rfl) rfl #[.int .i64 a0, .int .i64 a1] rfl (by (try simp only [List.map_toArray, List.map_cons, List.map_nil]); first | done | rfl | (simp only [List.length_drop, List.length_take]; rfl)) ?_; (with_reducible refine (num_Mul.calls a0 a1 t112 t113 _ A4.out).mono ?_); rintro e w' ⟨rfl, ⟨nd, rfl⟩⟩; refine ⟨_, rfl, ?_⟩) | ((with_reducible refine gate_callee (f := 22) rfl ?_); refine goesL_ (some 23) rfl rfl Try.func22 (by kernel_rfl) rfl #[.int .i64 t112, .int .i64 a2] rfl (by (try simp only [List.map_toArray, List.map_cons, List.map_nil]); first | done | rfl | (simp only [List.length_drop, List.length_take]; rfl)) ?_; (with_reducible refine (num_Up.calls t112 a2 t114 t115 _ A6.out).mono ?_); rintro e w' ⟨rfl, ⟨nd, rfl⟩⟩; refine ⟨_, rfl, ?_⟩))
      go_ret2
      exact ⟨by first | rfl | (simp; done) | (simp [*]; done), by repeat (first | exact Drawn0.refl _ | apply Drawn0.step)⟩
    · rw [if_neg c7] at H
      have c7b0 : (t115 == 0) = false := beq_eq_false_iff_ne.mpr c7
      have c7b1 : (t115 != 0) = true := bne_iff_ne.mpr c7
      simp only [Option.some.injEq, Prod.mk.injEq] at H
      obtain ⟨rfl, rfl⟩ := H
      go_enter Try.func16, Try.ntmps16
      go_wp2_with (first | ((with_reducible refine gate_callee (f := 21) rfl ?_); refine goesL_ (some 13) rfl rfl Try.func21 (by kernel_rfl) rfl #[.int .i64 a0, .int .i64 a1] rfl (by (try simp only [List.map_toArray, List.map_cons, List.map_nil]); first | done | rfl | (simp only [List.length_drop, List.length_take]; rfl)) ?_; (with_reducible refine (num_Mul.calls a0 a1 t112 t113 _ A4.out).mono ?_); rintro e w' ⟨rfl, ⟨nd, rfl⟩⟩; refine ⟨_, rfl, ?_⟩) | ((with_reducible refine gate_callee (f := 22) rfl ?_); refine goesL_ (some 23) rfl rfl Try.func22 (by kernel_rfl) rfl #[.int .i64 t112, .int .i64 a2] rfl (by (try simp only [List.map_toArray, List.map_cons, List.map_nil]); first | done | rfl | (simp only [List.length_drop, List.length_take]; rfl)) ?_; (with_reducible refine (num_Up.calls t112 a2 t114 t115 _ A6.out).mono ?_); rintro e w' ⟨rfl, ⟨nd, rfl⟩⟩; refine ⟨_, rfl, ?_⟩))
      go_ret2
      exact ⟨by first | rfl | (simp; done) | (simp [*]; done), by repeat (first | exact Drawn0.refl _ | apply Drawn0.step)⟩
  · rw [if_neg c5] at H
    have c5b0 : (t113 == 0) = false := beq_eq_false_iff_ne.mpr c5
    have c5b1 : (t113 != 0) = true := bne_iff_ne.mpr c5
    simp only [Option.some.injEq, Prod.mk.injEq] at H
    obtain ⟨rfl, rfl⟩ := H
    go_enter Try.func16, Try.ntmps16
    go_wp2_with (first | ((with_reducible refine gate_callee (f := 21) rfl ?_); refine goesL_ (some 13) rfl rfl Try.func21 (by kernel_rfl) rfl #[.int .i64 a0, .int .i64 a1] rfl (by (try simp only [List.map_toArray, List.map_cons, List.map_nil]); first | done | rfl | (simp only [List.length_drop, List.length_take]; rfl)) ?_; (with_reducible refine (num_Mul.calls a0 a1 t112 t113 _ A4.out).mono ?_); rintro e w' ⟨rfl, ⟨nd, rfl⟩⟩; refine ⟨_, rfl, ?_⟩))
    go_ret2
    exact ⟨by first | rfl | (simp; done) | (simp [*]; done), by repeat (first | exact Drawn0.refl _ | apply Drawn0.step)⟩

-- NOT PRINTED: function 23 (reflectlite_TypeOf)

-- NOT PRINTED: function 24 (errors_is)

/-! ### errors_Is: function 17 -/
/-- '==' of two interface values of one integer type: as the numbers are -/
theorem errors_Is.eql {P : Program} (w : World) {ti tn : TypeId} {ms : Array (String × TypeId)} {i : TypeInfo} {k : IntKind} (a b : Int)
    (hi : P.underlying ti = some (.interface ms)) (hn : P.underlying tn = some (.int k)) (hinfo : P.info? tn = some i) (hcomp : i.comparable = true) :
    (binOp .eql ti (.iface tn (.int k a)) (.iface tn (.int k b))).run P w = .ok (.bool (a == b)) w := by
  have h : ∀ d : Nat, (Op.equalIn (d + 2) ti (.iface tn (.int k a)) (.iface tn (.int k b))).run P w = .ok (a == b) w := fun d => by
    simp [Op.equalIn, run_underlying hi, run_underlying hn, typeInfo, hinfo, hcomp]
  simp only [binOp]
  simp [Op.equal, Op.maxDepth, h 9998]

theorem errors_Is.isTypeOf (v : Value) (w : World) : (Extern.ReflectliteType.typeOf #[.iface 31 v]).run Try.prog w = .ok (.iface 69 (.agg #[.pointer (some ⟨0, 31, none⟩)])) w := by kernel_rfl
theorem errors_Is.isComparable (w : World) : ((Extern.ReflectliteType.method fun t => do Extern.Rtype.noPackHeld "Comparable" t; (fun a => Value.bool a.comparable) <$> typeInfo t) #[.agg #[.pointer (some ⟨0, 31, none⟩)]]).run Try.prog w = .ok (.bool true) w := by kernel_rfl
theorem errors_Is.isMethodComparable (v : Value) (w : World) : (Go.method 215 69 v "Comparable").run Try.prog w = .ok (47, v) w := by kernel_rfl
theorem errors_Is.isComp : (Try.prog.info? 31).map (·.comparable) = some true := by kernel_rfl
theorem errors_Is.noIs (v : Value) (xT : TypeId) (w : World) : (Instr.typeAssert (.iface 31 v) xT 71 true).run Try.prog w = .ok (.tuple #[.nilIface, .bool false]) w := run_typeAssert_lacksB Try.underlying71 (by kernel_rfl) (by kernel_rfl) v xT w
theorem errors_Is.noUnwrap (v : Value) (xT : TypeId) (w : World) : (Instr.typeAssert (.iface 31 v) xT 74 true).run Try.prog w = .ok (.tuple #[.nilIface, .bool false]) w := run_typeAssert_lacksB Try.underlying74 (by kernel_rfl) (by kernel_rfl) v xT w
theorem errors_Is.noUnwraps (v : Value) (xT : TypeId) (w : World) : (Instr.typeAssert (.iface 31 v) xT 76 true).run Try.prog w = .ok (.tuple #[.nilIface, .bool false]) w := run_typeAssert_lacksB Try.underlying76 (by kernel_rfl) (by kernel_rfl) v xT w

def errors_Is.f (a0 : Option Int) (a1 : Option Int) : Option Bool :=
  if a1.isNone = true then none else if a0.isNone = true then some false else some (a0.getD 0 == a1.getD 0)

set_option maxHeartbeats 4000000 in
theorem errors_Is.calls (a0 : Option Int) (a1 : Option Int) (r : Bool) (w : World) (h : errors_Is.f a0 a1 = some r) :
    Calls Try.prog 17 #[errW a0, errW a1] w fun e w' => e = .returned (.bool r) ∧ Drawn0 w w' := by
  cases a1 with
  | none => simp [errors_Is.f] at h
  | some c =>
    cases a0 with
    | none =>
      obtain rfl : r = false := by simpa [errors_Is.f] using h.symm
      have hn := run_eql_iface_nil_left (P := Try.prog) w 31 (.int .i64 c) Try.underlying51
      show Calls Try.prog 17 #[.nilIface, .iface 31 (.int .i64 c)] w _
      go_enter Try.func17, Try.ntmps17
      go_wp2
      go_ret
      exact ⟨rfl, Drawn0.refl _⟩
    | some b =>
      obtain rfl : r = (b == c) := by simpa [errors_Is.f] using h.symm
      clear h
      obtain ⟨i, hi, hcmp⟩ := Option.map_eq_some_iff.1 errors_Is.isComp
      have h27 := @run_callFunc_extern Try.prog 23 _ Extern.ReflectliteType.typeOf Try.func23 (by kernel_rfl) (by kernel_rfl) (by kernel_rfl) (by kernel_rfl)
      have h51 := @run_callFunc_extern Try.prog 47 _ (Extern.ReflectliteType.method fun t => do Extern.Rtype.noPackHeld "Comparable" t; pure (.bool (← typeInfo t).comparable)) Try.func47 (by kernel_rfl) (by kernel_rfl) (by kernel_rfl) (by kernel_rfl)
      have tT := errors_Is.isTypeOf
      have cT := errors_Is.isComparable
      have mR := errors_Is.isMethodComparable
      have nE := errors_Is.noIs
      have uE := errors_Is.noUnwrap
      have vE := errors_Is.noUnwraps
      have heq := fun w => errors_Is.eql (P := Try.prog) w b c Try.underlying51 Try.underlying31 hi hcmp
      show Calls Try.prog 17 #[.iface 31 (.int .i64 b), .iface 31 (.int .i64 c)] w _
      by_cases hbc : b = c
      · subst hbc
        go_enter Try.func17, Try.ntmps17
        go_wp2
        refine wp_loop_rounds 1 ?_
        rw [rounds_succ]
        go_wp2
        go_ret
        exact ⟨by simp, Drawn0.refl _⟩
      · have hb : (b == c) = false := by simpa using hbc
        go_enter Try.func17, Try.ntmps17
        go_wp2
        refine wp_loop_rounds 1 ?_
        rw [rounds_succ]
        go_wp2
        go_ret
        exact ⟨by simp [hb], Drawn0.refl _⟩

end Go.Proofs.Ytiohijahacclnaa.GB
