/- The plain law of the warm pool. No condition. -/
import Derived.Test.YtglpedacanjpbaaW10
import Derived.Laws.CopyOwn
import Derived.ChangeKeysEq
import Derived.Deep.RegionHeld3
import Derived.Deep.MidRow
import Derived.Shelf.Abstract
namespace Go.Proofs.Ytglpedacanjpbaa.GA
open Go.RowKit Go.Shelf Go.Proofs.YtglpedacanjpbaaW.PrintWords Go.Proofs.YtglpedacanjpbaaW.PrintLast Go.Proofs.YtglpedacanjpbaaW.PrintMore
set_option linter.unusedVariables false
set_option linter.unusedSimpArgs false


theorem rd_zero (x : S42) (r : List S42) : rd_T42 (x :: r) ((0 : Nat) : Int) = x := rfl
theorem rd_succ (x : S42) (r : List S42) (i : Nat) : rd_T42 (x :: r) ((i + 1 : Nat) : Int) = rd_T42 r (i : Int) := by
  unfold rd_T42
  rw [Int.toNat_natCast, Int.toNat_natCast]
  rfl
theorem rd_mem {l : List S42} {i : Nat} (h : i < l.length) : rd_T42 l (i : Int) ∈ l := by
  unfold rd_T42
  rw [Int.toNat_natCast, List.getD_eq_getElem?_getD, List.getElem?_eq_getElem h]
  exact List.getElem_mem h
theorem firstAt_spec (p : S42 → Bool) : ∀ l : List S42, firstAt p l < l.length → p (rd_T42 l (firstAt p l : Nat)) = true
  | [], h => by simp at h
  | x :: r, h => by
    unfold firstAt at h ⊢
    by_cases hp : p x = true
    · rw [if_pos hp]; exact hp
    · rw [if_neg hp] at h ⊢
      rw [rd_succ]
      exact firstAt_spec p r (by simpa using h)
theorem may_gt : ∀ (l : List S42) (last : Int), mayFrom last l = true → ∀ y ∈ l, last < y.f0 ∧ okI y = true
  | [], _, _, y, hy => by cases hy
  | x :: r, last, h, y, hy => by
    unfold mayFrom at h
    obtain ⟨h1, h2⟩ := Bool.and_eq_true_iff.1 h
    obtain ⟨h3, h4⟩ := Bool.and_eq_true_iff.1 h2
    have h1' := of_decide_eq_true h1
    rcases List.mem_cons.1 hy with rfl | hy
    · exact ⟨h1', h3⟩
    · have := may_gt r x.f0 h4 y hy
      exact ⟨by omega, this.2⟩
theorem idAt_rd : ∀ (l : List S42) (last : Int), mayFrom last l = true → ∀ i : Nat, i < l.length → idAt (rd_T42 l (i : Int)).f0 l = i
  | [], _, _, i, h => by simp at h
  | x :: r, last, h, 0, _ => by rw [rd_zero, idAt, if_pos rfl]
  | x :: r, last, h, i + 1, hi => by
    unfold mayFrom at h
    obtain ⟨_, h2⟩ := Bool.and_eq_true_iff.1 h
    obtain ⟨_, h4⟩ := Bool.and_eq_true_iff.1 h2
    have hi' : i < r.length := by simpa using hi
    have hg := (may_gt r x.f0 h4 _ (rd_mem hi')).1
    rw [rd_succ, idAt, if_neg (by omega), idAt_rd r x.f0 h4 i hi']
theorem mayL_from {l : List S42} (h : mayL l = true) : mayFrom 0 l = true := (Bool.and_eq_true_iff.1 h).2
theorem mayL_len {l : List S42} (h : mayL l = true) : l.length ≤ 4096 := of_decide_eq_true (Bool.and_eq_true_iff.1 h).1
/-- what Find finds -/
def findR (l : List S42) (id : Int) : S42 × Bool := if idAt id l < l.length ∧ mayL l = true then (rd_T42 l (idAt id l : Nat), true) else (z42, false)
/-- what Drop leaves -/
def dropR (l : List S42) (id : Int) : List S42 × Int := if mayL l = true then (if idAt id l < l.length then (l.take (idAt id l) ++ l.drop (idAt id l + 1), 0) else ([], 7)) else ([], 2)
theorem firstR_yes {ver wm : Int} {li : List S42} {p : S42 → Bool} (h : (firstR ver wm li p).2 = true) : ∃ i : Nat, i < li.length ∧ smay ver wm li = true ∧ firstR ver wm li p = ((rd_T42 li (i : Int)).f0, true) ∧ (rd_T42 li (i : Int)).f5 = 8 ∧ p (rd_T42 li (i : Int)) = true ∧
    idAt (firstR ver wm li p).1 li = i ∧ findR li (firstR ver wm li p).1 = (rd_T42 li (i : Int), true) := by
  by_cases hm : smay ver wm li = true
  · by_cases hi : firstAt (fun x => (x.f5 == 8) && p x) li < li.length
    · have e : firstR ver wm li p = ((rd_T42 li (firstAt (fun x => (x.f5 == 8) && p x) li : Nat)).f0, true) := by unfold firstR; rw [if_pos hm, if_pos hi]
      have hs := firstAt_spec (fun x => (x.f5 == 8) && p x) li hi
      obtain ⟨h5, hp⟩ := Bool.and_eq_true_iff.1 hs
      have hid := idAt_rd li 0 (mayL_from (smay_l hm)) _ hi
      refine ⟨_, hi, hm, e, by simpa using h5, hp, by rw [e]; exact hid, ?_⟩
      rw [e]
      unfold findR
      rw [if_pos ⟨by rw [hid]; exact hi, smay_l hm⟩, hid]
    · unfold firstR at h; rw [if_pos hm, if_neg hi] at h; cases h
  · unfold firstR at h; rw [if_neg hm] at h; cases h
theorem firstR_no {ver wm : Int} {li : List S42} {p : S42 → Bool} (h : (firstR ver wm li p).2 = false) : (firstR ver wm li p).1 = 0 := by
  unfold firstR at h ⊢
  by_cases hm : smay ver wm li = true
  · rw [if_pos hm] at h ⊢
    by_cases hi : firstAt (fun x => (x.f5 == 8) && p x) li < li.length
    · rw [if_pos hi] at h; cases h
    · rw [if_neg hi]
  · rw [if_neg hm]
theorem draw_law {ver wm : Int} {on st spot : Bool} {li : List S42} (h : (drawR ver wm on st li spot).2 = true) :
    ((findR li (drawR ver wm on st li spot).1).1.f5 == 8) = true ∧ ((findR li (drawR ver wm on st li spot).1).1.f4 == spot) = true ∧ pOld ver on st (findR li (drawR ver wm on st li spot).1).1 = false := by
  unfold drawR at h ⊢
  obtain ⟨i, hi, _, _, h5, hp, _, hf⟩ := firstR_yes h
  rw [hf]
  unfold pDraw at hp
  obtain ⟨h1, h2⟩ := Bool.and_eq_true_iff.1 hp
  obtain ⟨_, h3⟩ := Bool.and_eq_true_iff.1 h2
  refine ⟨by rw [h5]; rfl, h1, ?_⟩
  show ((on && !st) && !((rd_T42 li (i : Int)).f11 == ver)) = false
  cases hb : ((on && !st) && !((rd_T42 li (i : Int)).f11 == ver))
  · rfl
  · rw [hb] at h3; cases h3
/-- an instance's part of the warm weight -/
def cw (v : Int) (x : S42) : Int := if v ≠ 0 ∧ x.f11 ≠ v then 0 else if x.f5 = 3 then 0 else if comesB x.f5 = true then 0 else if x.f5 = 7 ∨ x.f5 = 8 then x.f3 else 0
def co (v : Int) (x : S69) : Int := if v ≠ 0 ∧ x.f4 ≠ v then 0 else if x.f0.f3 = true then x.f2 else 0
theorem inst_a4 (v : Int) (s : Sum) (x : S42) (h0 : -9223372036854775808 ≤ s.a4) (h1 : s.a4 < 9223372036854775808) : (instStep v s x).a4 = wrap64 (s.a4 + cw v x) := by
  have hw : s.a4 = wrap64 (s.a4 + 0) := by rw [Int.add_zero, wrap_ok h0 h1]
  unfold instStep cw
  by_cases h2 : v ≠ 0 ∧ x.f11 ≠ v
  · rw [if_pos h2, if_pos h2]; exact hw
  · rw [if_neg h2, if_neg h2]
    by_cases h3 : x.f5 = 3
    · rw [if_pos h3, if_pos h3]; exact hw
    · rw [if_neg h3, if_neg h3]
      by_cases h4 : comesB x.f5 = true
      · rw [if_pos h4, if_pos h4]; exact hw
      · rw [if_neg h4, if_neg h4]
        by_cases h5 : x.f5 = 7 ∨ x.f5 = 8
        · rw [if_pos h5, if_pos h5]
        · rw [if_neg h5, if_neg h5]; exact hw
theorem open_a4 (v : Int) (s : Sum) (x : S69) (h0 : -9223372036854775808 ≤ s.a4) (h1 : s.a4 < 9223372036854775808) : (openStep v s x).a4 = wrap64 (s.a4 + co v x) := by
  have hw : s.a4 = wrap64 (s.a4 + 0) := by rw [Int.add_zero, wrap_ok h0 h1]
  unfold openStep co
  by_cases h2 : v ≠ 0 ∧ x.f4 ≠ v
  · rw [if_pos h2, if_pos h2]; exact hw
  · rw [if_neg h2, if_neg h2]
    by_cases h3 : x.f0.f3 = true
    · rw [if_pos h3, if_pos h3]
    · rw [if_neg h3, if_neg h3]; exact hw
theorem cw_le {v : Int} {x : S42} (h : okI x = true) : 0 ≤ cw v x ∧ cw v x ≤ 100 := by
  have hc := of_decide_eq_true (Bool.and_eq_true_iff.1 h).1
  unfold cI at hc
  unfold cw
  (repeat' split) <;> omega
theorem co_le {v : Int} {x : S69} (h : isL x = true) : 0 ≤ co v x ∧ co v x ≤ 100 := by
  unfold isL at h
  obtain ⟨_, h2⟩ := Bool.and_eq_true_iff.1 h
  obtain ⟨h3, h4⟩ := Bool.and_eq_true_iff.1 h2
  have h3' := of_decide_eq_true h3
  have h4' := of_decide_eq_true h4
  unfold co
  (repeat' split) <;> omega
def sumI {α : Type} (f : α → Int) : List α → Int
  | [] => 0
  | x :: r => f x + sumI f r
theorem sumI_app {α : Type} (f : α → Int) : ∀ a b : List α, sumI f (a ++ b) = sumI f a + sumI f b
  | [], b => by simp [sumI]
  | x :: r, b => by simp [sumI, sumI_app f r b]; omega
theorem sumI_le {α : Type} (f : α → Int) : ∀ a : List α, (∀ x ∈ a, 0 ≤ f x ∧ f x ≤ 100) → 0 ≤ sumI f a ∧ sumI f a ≤ 100 * a.length
  | [], _ => by simp [sumI]
  | x :: r, h => by
    have h1 := h x (by simp)
    have h2 := sumI_le f r (fun y hy => h y (by simp [hy]))
    simp only [sumI, List.length_cons]
    omega
theorem fold_a4 {α : Type} (step : Sum → α → Sum) (f : α → Int) (hs : ∀ s x, -9223372036854775808 ≤ s.a4 → s.a4 < 9223372036854775808 → (step s x).a4 = wrap64 (s.a4 + f x)) : ∀ (a : List α) (s : Sum), (∀ x ∈ a, 0 ≤ f x ∧ f x ≤ 100) → 0 ≤ s.a4 → s.a4 + 100 * a.length < 9223372036854775808 → (a.foldl step s).a4 = s.a4 + sumI f a
  | [], s, _, _, _ => by simp [sumI]
  | x :: r, s, h, h0, h1 => by
    have hx := h x (by simp)
    rw [List.length_cons] at h1
    have e : (step s x).a4 = s.a4 + f x := by rw [hs s x (by omega) (by omega), wrap_ok (by omega) (by omega)]
    rw [List.foldl_cons, fold_a4 step f hs r (step s x) (fun y hy => h y (by simp [hy])) (by omega) (by omega), e, sumI]
    omega
/-- the version that is summed -/
def vOf (ver : Int) (on st : Bool) : Int := if (on && !st) = true then ver else 0
theorem wt_sum {ver : Int} {on st : Bool} {li : List S42} {lo : List S69} (hm : mayL li = true) (hl : lo.length ≤ 4096) : wt ver on st li lo = sumI (cw (vOf ver on st)) li + sumI (co (vOf ver on st)) (lset lo) := by
  have hli := mayL_len hm
  have hlo : (lset lo).length ≤ 4096 := Nat.le_trans (lset_le lo) hl
  have hI : ∀ x ∈ li, 0 ≤ cw (vOf ver on st) x ∧ cw (vOf ver on st) x ≤ 100 := fun x hx => cw_le (may_gt li 0 (mayL_from hm) x hx).2
  have hO : ∀ x ∈ lset lo, 0 ≤ co (vOf ver on st) x ∧ co (vOf ver on st) x ≤ 100 := fun x hx => co_le ((List.mem_filter.1 hx).2)
  have h1 := fold_a4 (instStep (vOf ver on st)) (cw (vOf ver on st)) (inst_a4 _) li zsum hI (Int.le_refl _) (by show (0 : Int) + 100 * li.length < _; omega)
  have b1 := sumI_le _ li hI
  have e1 : (instSum (vOf ver on st) li).a4 = sumI (cw (vOf ver on st)) li := by unfold instSum; rw [h1]; show (0 : Int) + _ = _; omega
  unfold wt sumOf
  show (List.foldl (openStep (vOf ver on st)) (instSum (vOf ver on st) li) (lset lo)).a4 = _
  rw [fold_a4 (openStep (vOf ver on st)) (co (vOf ver on st)) (open_a4 _) (lset lo) _ hO (by rw [e1]; exact b1.1) (by rw [e1]; omega), e1]
theorem cw_warm {ver : Int} {on st : Bool} {y : S42} (h8 : y.f5 = 8) (ho : pOld ver on st y = false) : cw (vOf ver on st) y = y.f3 := by
  unfold cw
  rw [if_neg, if_neg (by rw [h8]; decide), if_neg (by rw [h8]; decide), if_pos (.inr h8)]
  rintro ⟨h1, h2⟩
  unfold pOld at ho
  unfold vOf at h1 h2
  by_cases hg : (on && !st) = true
  · rw [if_pos hg] at h2
    rw [hg, Bool.true_and] at ho
    exact h2 (by simpa using ho)
  · rw [if_neg hg] at h1; exact h1 rfl
theorem take_drop_rd {l : List S42} {i : Nat} (h : i < l.length) : l = l.take i ++ (rd_T42 l (i : Int) :: l.drop (i + 1)) := by
  rw [← rd_drop h, List.take_append_drop]
theorem much_law {ver wm : Int} {on st : Bool} {li : List S42} {lo : List S69} (hl : lo.length ≤ 4096) (h : (muchR ver wm on st li lo).2 = true) :
    ((findR li (muchR ver wm on st li lo).1).1.f5 == 8) = true ∧ (little ver wm on st li lo = false ∨ pOld ver on st (findR li (muchR ver wm on st li lo).1).1 = true) ∧
    (pOld ver on st (findR li (muchR ver wm on st li lo).1).1 = false → little ver wm on st (dropR li (muchR ver wm on st li lo).1).1 lo = false) := by
  unfold muchR at h ⊢
  by_cases h1 : (firstR ver wm li (pOld ver on st)).2 = true
  · rw [if_pos h1]
    obtain ⟨i, hi, _, _, h5, hp, _, hf⟩ := firstR_yes h1
    show ((findR li (firstR ver wm li (pOld ver on st)).1).1.f5 == 8) = true ∧ (_ ∨ pOld ver on st (findR li (firstR ver wm li (pOld ver on st)).1).1 = true) ∧ (pOld ver on st (findR li (firstR ver wm li (pOld ver on st)).1).1 = false → _)
    rw [hf]
    exact ⟨by rw [h5]; rfl, .inr hp, fun hn => by rw [show pOld ver on st (rd_T42 li (i : Int), true).1 = true from hp] at hn; cases hn⟩
  · rw [if_neg h1] at h ⊢
    obtain ⟨i, hi, hm, _, h5, hp, hid, hf⟩ := firstR_yes h
    have hml := smay_l hm
    rw [hf]
    have hok := (may_gt li 0 (mayL_from hml) _ (rd_mem hi)).2
    have hc := of_decide_eq_true (Bool.and_eq_true_iff.1 hok).1
    unfold cI at hc
    have hw := wt_sum (ver := ver) (on := on) (st := st) hml hl
    have bI := sumI_le (cw (vOf ver on st)) li (fun x hx => cw_le (may_gt li 0 (mayL_from hml) x hx).2)
    have bO := sumI_le (co (vOf ver on st)) (lset lo) (fun x hx => co_le ((List.mem_filter.1 hx).2))
    have hle := lset_le lo
    have hli := mayL_len hml
    unfold pMuch at hp
    have hp' := of_decide_eq_true hp
    rw [wrap_ok (by omega) (by omega)] at hp'
    refine ⟨by show ((rd_T42 li (i : Int)).f5 == 8) = true; rw [h5]; rfl, .inl ?_, fun hn => ?_⟩
    · unfold little
      rw [decide_eq_false (by omega), Bool.and_false]
    · have hn' : pOld ver on st (rd_T42 li (i : Int)) = false := hn
      unfold dropR little
      rw [if_pos hml, hid, if_pos hi]
      show (smay ver wm (li.take i ++ li.drop (i + 1)) && decide (wt ver on st (li.take i ++ li.drop (i + 1)) lo < wm)) = false
      cases hs : smay ver wm (li.take i ++ li.drop (i + 1))
      · rfl
      · have hw2 := wt_sum (ver := ver) (on := on) (st := st) (smay_l hs) hl
        have hd := congrArg (sumI (cw (vOf ver on st))) (take_drop_rd hi)
        rw [sumI_app, sumI, cw_warm h5 hn'] at hd
        rw [sumI_app] at hw2
        rw [decide_eq_false (by omega)]
        rfl
theorem much_none {ver wm : Int} {on st : Bool} {li : List S42} {lo : List S69} (h : (muchR ver wm on st li lo).2 = false) : (muchR ver wm on st li lo).1 = 0 := by
  unfold muchR at h ⊢
  by_cases h1 : (firstR ver wm li (pOld ver on st)).2 = true
  · rw [if_pos h1] at h; cases h
  · rw [if_neg h1] at h ⊢
    exact firstR_no h

end Go.Proofs.Ytglpedacanjpbaa.GA
