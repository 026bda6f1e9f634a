/- The search among things. No condition. -/
import Derived.Test.YtghgadfcnggapaaU3
import Derived.Laws.CopyOwn
import Derived.Laws.CopyRow
import Derived.ChangeKeysEq
import Derived.Deep.RegionHeld3
import Derived.Deep.MidRow
import Derived.Shelf.Abstract
import Derived.Lib.Overlaps
import Derived.Lib.AppendZerosOnto
import Derived.Shelf.Spec.SlicesInsertGrow
namespace Go.Proofs.Ytghgadfcnggapaa.GA.U
open Go.RowKit Go.Shelf Go.Proofs.YtghgadfcnggapaaW.PrintWords Go.Proofs.YtghgadfcnggapaaW.PrintLast Go.Proofs.YtghgadfcnggapaaW.PrintMore
set_option linter.unusedVariables false
set_option linter.unusedSimpArgs false

theorem isNaN.calls (x : ByteArray) (w : World) : Calls Try.prog 46 #[.string x] w fun e w' => e = .returned (.bool false) ∧ w' = w := by
  go_enter Try.func46, Try.ntmps46
  go_wp2
  go_ret
  exact ⟨by simp, rfl⟩
@[go_sem] theorem binOp_string_gtr_u (t : TypeId) (a b : ByteArray) : binOp .gtr t (.string a) (.string b) = pure (.bool !(Op.bytesLess a.toList b.toList || a.toList == b.toList)) := by simp [binOp, Op.stringOp]
@[go_sem] theorem binOp_string_geq_u (t : TypeId) (a b : ByteArray) : binOp .geq t (.string a) (.string b) = pure (.bool !(Op.bytesLess a.toList b.toList)) := by simp [binOp, Op.stringOp]
def cmpK (x y : ByteArray) : Int := if Op.bytesLess x.toList y.toList = true then -1 else if (x.toList == y.toList) = true then 0 else 1
set_option maxHeartbeats 8000000 in
set_option maxRecDepth 100000 in
theorem Compare.calls (x y : ByteArray) (w : World) : Calls Try.prog 38 #[.string x, .string y] w fun e w' => e = .returned (.int .i64 (cmpK x y)) ∧ w' = w := by
  obtain ⟨r, hr⟩ : ∃ r, cmpK x y = r := ⟨_, rfl⟩
  rw [hr]
  unfold cmpK at hr
  cases h1 : Op.bytesLess x.toList y.toList with
  | true =>
    rw [h1, if_pos rfl] at hr
    subst hr
    go_enter Try.func38, Try.ntmps38
    go_wp2_with (first
      | (go_at_call 46; with_reducible refine (isNaN.calls x _).mono ?_; rintro e w' ⟨rfl, hw⟩; subst w')
      | (go_at_call 46; with_reducible refine (isNaN.calls y _).mono ?_; rintro e w' ⟨rfl, hw⟩; subst w'))
    go_ret
    exact ⟨rfl, rfl⟩
  | false =>
    rw [h1, if_neg (by decide)] at hr
    cases h2 : (x.toList == y.toList) with
    | true =>
      rw [h2, if_pos rfl] at hr
      subst hr
      go_enter Try.func38, Try.ntmps38
      go_wp2_with (first
        | (go_at_call 46; with_reducible refine (isNaN.calls x _).mono ?_; rintro e w' ⟨rfl, hw⟩; subst w')
        | (go_at_call 46; with_reducible refine (isNaN.calls y _).mono ?_; rintro e w' ⟨rfl, hw⟩; subst w'))
      go_ret
      exact ⟨rfl, rfl⟩
    | false =>
      rw [h2, if_neg (by decide)] at hr
      subst hr
      go_enter Try.func38, Try.ntmps38
      go_wp2_with (first
        | (go_at_call 46; with_reducible refine (isNaN.calls x _).mono ?_; rintro e w' ⟨rfl, hw⟩; subst w')
        | (go_at_call 46; with_reducible refine (isNaN.calls y _).mono ?_; rintro e w' ⟨rfl, hw⟩; subst w'))
      go_ret
      exact ⟨rfl, rfl⟩
set_option maxHeartbeats 8000000 in
set_option maxRecDepth 100000 in
theorem key.calls (p : S56) (n : ByteArray) (w : World) : Calls Try.prog 37 #[.agg #[.string p.f0, .int .i64 p.f1], .string n] w fun e w' => e = .returned (.int .i64 (cmpK p.f0 n)) ∧ Below w.heap.size w w' := by
  have HB := Aside0.mk (Below.refl w.heap.size w)
  go_enter Try.func37, Try.ntmps37
  go_wp2_with (first
    | (go_at_call 38; with_reducible refine (Compare.calls p.f0 n _).mono ?_; rintro e w' ⟨rfl, hw⟩; subst w'))
  go_ret
  exact ⟨rfl, by repeat (first | (with_reducible first | exact HB.out | apply below_alloc | apply pw_below_drewN | apply below_drew1) | exact HB.out)⟩

/-- a binary search: F rounds at most, from i to j -/
def bsF {α : Type} (lt : α → Bool) (z : α) (l : List α) : Nat → Nat → Nat → Nat
  | 0, i, _ => i
  | F + 1, i, j => if i < j then (if lt (l.getD ((i + j) / 2) z) then bsF lt z l F ((i + j) / 2 + 1) j else bsF lt z l F i ((i + j) / 2)) else i

theorem bsF_le {α : Type} (lt : α → Bool) (z : α) (l : List α) (F : Nat) : ∀ i j, i ≤ j → bsF lt z l F i j ≤ j := by
  induction F with
  | zero => intro i j h; exact h
  | succ F ih =>
    intro i j h
    unfold bsF
    split
    · split
      · exact ih _ _ (by omega)
      · exact Nat.le_trans (ih _ _ (by omega)) (by omega)
    · exact h

/-- where what is below comes first, what is found is where it ends -/
theorem bsF_spec {α : Type} (lt : α → Bool) (z : α) (l : List α) (hm : ∀ a b, a < b → b < l.length → lt (l.getD b z) = true → lt (l.getD a z) = true) (F : Nat) : ∀ i j, j ≤ l.length → i ≤ j → j - i ≤ F →
    (∀ a, a < i → lt (l.getD a z) = true) → (∀ a, j ≤ a → a < l.length → lt (l.getD a z) = false) →
    (∀ a, a < bsF lt z l F i j → lt (l.getD a z) = true) ∧ (∀ a, bsF lt z l F i j ≤ a → a < l.length → lt (l.getD a z) = false) := by
  induction F with
  | zero =>
    intro i j hj hij hF h1 h2
    have : i = j := by omega
    subst this
    exact ⟨h1, h2⟩
  | succ F ih =>
    intro i j hj hij hF h1 h2
    unfold bsF
    by_cases hlt : i < j
    · rw [if_pos hlt]
      by_cases hp : lt (l.getD ((i + j) / 2) z) = true
      · rw [if_pos hp]
        refine ih _ _ hj (by omega) (by omega) (fun a ha => ?_) h2
        rcases Nat.lt_or_ge a ((i + j) / 2) with h | h
        · exact hm a _ h (by omega) hp
        · have : a = (i + j) / 2 := by omega
          rw [this]; exact hp
      · rw [if_neg hp]
        have hp' : lt (l.getD ((i + j) / 2) z) = false := by simpa using hp
        refine ih _ _ (by omega) (by omega) (by omega) h1 (fun a ha hal => ?_)
        rcases Nat.lt_or_ge ((i + j) / 2) a with h | h
        · cases hq : lt (l.getD a z) with
          | false => rfl
          | true => rw [hm _ a h hal hq] at hp'; cases hp'
        · have : a = (i + j) / 2 := by omega
          rw [this]; exact hp'
    · rw [if_neg hlt]
      have : i = j := by omega
      subst this
      exact ⟨h1, h2⟩

def lt (n : ByteArray) (p : S56) : Bool := decide (cmpK p.f0 n < 0)
def ix (l : List S56) (n : ByteArray) : Nat := bsF (lt n) z56 l l.length 0 l.length
def hit (l : List S56) (n : ByteArray) : Bool := decide (ix l n < l.length) && (cmpK (rd_T56 l (ix l n)).f0 n == 0)

set_option maxHeartbeats 8000000 in
set_option maxRecDepth 100000 in
theorem search.calls (A0 : Option Addr) (c0 : Nat) (l0 : List S56) (n : ByteArray) (w : World) (hr0 : Kd.C k56 w A0 l0.length l0) (hc0 : l0.length ≤ c0) (hlen : l0.length ≤ 4611686018427387904) :
    Calls Try.prog 36 #[.slice A0 l0.length c0, .string n, .func (.func 37) #[] #[]] w fun e w' => e = .returned (.tuple #[.int .i64 (ix l0 n), .bool (hit l0 n)]) ∧ Below w.heap.size w w' := by
  have HR0 := Aside0.mk hr0
  clear hr0
  have hu56 := Try.underlying56
  obtain ⟨R, hR⟩ : ∃ R, R = ix l0 n := ⟨_, rfl⟩
  have HRR := Aside0.mk hR
  have hRl : R ≤ l0.length := by rw [hR]; exact bsF_le _ _ _ _ _ _ (Nat.zero_le _)
  clear hR
  go_enter Try.func36, Try.ntmps36
  go_wp2
  go_loopw [9, 10, 11] (fun v9 v10 v11 w' => ∃ i j F : Nat, i ≤ j ∧ j ≤ l0.length ∧ j ≤ i + F ∧ v9 = .int .i64 i ∧ v10 = .int .i64 j ∧ Aside0 (bsF (lt n) z56 l0 F i j = R) ∧ Below w.heap.size w w') (fun v9 v10 _ _ => (intOf v10).toNat - (intOf v9).toNat)
  case atStart => exact ⟨0, l0.length, l0.length, Nat.zero_le _, Nat.le_refl _, by omega, rfl, rfl, ⟨HRR.out.symm⟩, Below.refl _ _⟩
  case round =>
    obtain ⟨i, j, F, hij, hjl, hF, rfl, rfl, HA, HB⟩ := hrel
    by_cases hlt : i < j
    · obtain ⟨F, rfl⟩ : ∃ G, F = G + 1 := ⟨F - 1, by omega⟩
      obtain ⟨ad, e, hx0, hx1⟩ := at_T56 (Kd.C_below HR0.out HB) (((i + j) / 2 : Nat) : Int) (by omega) (by omega)
      cases e
      simp only [Int.toNat_natCast] at hx0 hx1
      have hst := HA.out
      unfold bsF at hst
      rw [if_pos hlt] at hst
      have hrd : l0.getD ((i + j) / 2) z56 = rd_T56 l0 (((i : Int) + (j : Int)) / 2) := by
        unfold rd_T56
        rw [show (((i : Int) + (j : Int)) / 2).toNat = (i + j) / 2 from by omega]
      rw [hrd] at hst
      clear hrd
      by_cases hp : cmpK (rd_T56 l0 (((i : Int) + (j : Int)) / 2)).f0 n < 0
      · have hpl : lt n (rd_T56 l0 (((i : Int) + (j : Int)) / 2)) = true := by simpa [lt] using hp
        rw [if_pos hpl] at hst
        have HA2 := Aside0.mk hst
        clear hst hpl HA
        go_wp2_with (go_at_call 37; with_reducible refine (key.calls (rd_T56 l0 (((i : Int) + (j : Int)) / 2)) n _).mono ?_; rintro e w' ⟨rfl, hb⟩)
        go_roundw
        case rel => exact ⟨(i + j) / 2 + 1, j, F, by omega, hjl, by omega, by go_num, by go_num, HA2, below_then HB HB.size hb⟩
        case measure => simp [intOf]; omega
      · have hpl : ¬ lt n (rd_T56 l0 (((i : Int) + (j : Int)) / 2)) = true := by simpa [lt] using hp
        rw [if_neg hpl] at hst
        have HA2 := Aside0.mk hst
        clear hst hpl HA
        go_wp2_with (go_at_call 37; with_reducible refine (key.calls (rd_T56 l0 (((i : Int) + (j : Int)) / 2)) n _).mono ?_; rintro e w' ⟨rfl, hb⟩)
        go_roundw
        case rel => exact ⟨i, (i + j) / 2, F, by omega, by omega, by omega, by go_num, by go_num, HA2, below_then HB HB.size hb⟩
        case measure => simp [intOf]; omega
    · have hii : i = j := by omega
      subst hii
      have hRi : i = R := by
        have := HA.out
        cases F with
        | zero => exact this
        | succ F => unfold bsF at this; rw [if_neg hlt] at this; exact this
      clear HA
      subst hRi
      by_cases hin : i < l0.length
      · obtain ⟨ad, e, hx0, hx1⟩ := at_T56 (Kd.C_below HR0.out HB) (i : Int) (by omega) (by omega)
        cases e
        simp only [Int.toNat_natCast] at hx0 hx1
        have HH : Aside0 (hit l0 n = (cmpK (rd_T56 l0 (i : Int)).f0 n == 0)) := ⟨by unfold hit; rw [← HRR.out]; simp [hin]⟩
        go_wp2_with (go_at_call 37; with_reducible refine (key.calls (rd_T56 l0 (i : Int)) n _).mono ?_; rintro e w' ⟨rfl, hb⟩)
        go_ret2
        exact ⟨by rw [HH.out, ← HRR.out]; rfl, below_then HB HB.size hb⟩
      · have HH : Aside0 (hit l0 n = false) := ⟨by unfold hit; rw [← HRR.out]; simp [hin]⟩
        have hdd : decide ((i : Int) < (l0.length : Int)) = false := by simp; omega
        go_wp2
        go_ret2
        exact ⟨by rw [HH.out, ← HRR.out]; rfl, HB⟩


end Go.Proofs.Ytghgadfcnggapaa.GA.U
