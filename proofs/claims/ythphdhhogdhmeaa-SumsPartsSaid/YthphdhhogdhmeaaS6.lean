/- The plain law of the sums. No condition. -/
import Derived.Test.YthphdhhogdhmeaaS5
import Derived.Laws.CopyOwn
import Derived.ChangeKeysEq
import Derived.Deep.RegionHeld3
import Derived.Deep.MidRow
import Derived.Shelf.Abstract
namespace Go.Proofs.Ythphdhhogdhmeaa.GA
open Go.RowKit Go.Shelf Go.Proofs.YthphdhhogdhmeaaW.PrintWords Go.Proofs.YthphdhhogdhmeaaW.PrintLast Go.Proofs.YthphdhhogdhmeaaW.PrintMore
set_option linter.unusedVariables false
set_option linter.unusedSimpArgs false


theorem okI_fix (x : S29) : okI (fixA x) = okI x := rfl
theorem mayFrom_fix : ∀ (l : List S29) (last : Int), mayFrom last (l.map fixA) = mayFrom last l
  | [], _ => rfl
  | x :: r, last => by
    show (decide (last < x.f0) && (okI (fixA x) && mayFrom x.f0 (r.map fixA))) = (decide (last < x.f0) && (okI x && mayFrom x.f0 r))
    rw [okI_fix, mayFrom_fix r]
theorem updA_all (l : List S29) : updA l l.length = l.map fixA := by simp [updA]
theorem updB_all (l : List S33) : updB l l.length = l.map fixB := by simp [updB]
theorem mayL_fix {l : List S29} (h : mayL l = true) : mayL (updA l l.length) = true := by
  unfold mayL at h ⊢
  rw [updA_all, mayFrom_fix, List.length_map]
  exact h
theorem may_ok : ∀ (l : List S29) (last : Int), mayFrom last l = true → ∀ y ∈ l, okI y = true
  | [], _, _, y, hy => by cases hy
  | x :: r, last, h, y, hy => by
    unfold mayFrom at h
    obtain ⟨h1, h2⟩ := Bool.and_eq_true_iff.1 h
    obtain ⟨h3, h4⟩ := Bool.and_eq_true_iff.1 h2
    rcases List.mem_cons.1 hy with rfl | hy
    · exact h3
    · exact may_ok r x.f0 h4 y hy
theorem ver_ok {n : Int} (h0 : 0 ≤ n) : 1 ≤ (1 + n.tmod 4) % 4294967296 ∧ (1 + n.tmod 4) % 4294967296 ≤ 4 := by
  have h1 := Int.tmod_nonneg 4 h0
  have h2 := Int.tmod_lt_of_pos n (show (0 : Int) < 4 by decide)
  omega
/-- a part of a sum -/
def comp : Nat → Sum → Int
  | 0, s => s.a0
  | 1, s => s.a1
  | 2, s => s.a2
  | 3, s => s.a3
  | 4, s => s.a4
  | _ + 5, s => s.a5
theorem Sum.ext6 {s t : Sum} (h : ∀ j, comp j s = comp j t) : s = t := by
  obtain ⟨a, b, c, d, e, f⟩ := s
  obtain ⟨a', b', c', d', e', f'⟩ := t
  have h0 : a = a' := h 0
  have h1 : b = b' := h 1
  have h2 : c = c' := h 2
  have h3 : d = d' := h 3
  have h4 : e = e' := h 4
  have h5 : f = f' := h 5
  subst h0 h1 h2 h3 h4 h5
  rfl
theorem comp_all {p : Int → Prop} (s : Sum) (h0 : p s.a0) (h1 : p s.a1) (h2 : p s.a2) (h3 : p s.a3) (h4 : p s.a4) (h5 : p s.a5) (j : Nat) : p (comp j s) := by
  rcases j with _ | _ | _ | _ | _ | j <;> assumption
theorem comp_add (j : Nat) (s t : Sum) : comp j (addS s t) = wrap64 (comp j s + comp j t) := by
  rcases j with _ | _ | _ | _ | _ | j <;> rfl
theorem comp_zero (j : Nat) : comp j zsum = 0 := by
  rcases j with _ | _ | _ | _ | _ | j <;> rfl
/-- what an instance adds, a launch adds -/
def dI (x : S29) : Sum := if x.f5 = 3 then ⟨x.f3, if x.f4 = true then 0 else x.f3, 0, 0, 0, 1⟩ else if comesB x.f5 = true then ⟨0, 0, x.f3, if x.f4 = true then 0 else x.f3, 0, 1⟩ else if x.f5 = 7 ∨ x.f5 = 8 then ⟨0, 0, 0, 0, x.f3, 1⟩ else ⟨0, 0, 0, 0, 0, 1⟩
def dO (x : S33) : Sum := if x.f0.f3 = true then ⟨0, 0, 0, 0, x.f2, 1⟩ else ⟨0, 0, x.f2, if x.f3 = true then 0 else x.f2, 0, 1⟩
def vI (v : Int) (x : S29) : Sum := if v ≠ 0 ∧ x.f11 ≠ v then zsum else dI x
def vO (v : Int) (x : S33) : Sum := if v ≠ 0 ∧ x.f4 ≠ v then zsum else dO x
theorem inst_comp (j : Nat) (v : Int) (s : Sum) (x : S29) (h0 : -9223372036854775808 ≤ comp j s) (h1 : comp j s < 9223372036854775808) : comp j (instStep v s x) = wrap64 (comp j s + comp j (vI v x)) := by
  have hw : comp j s = wrap64 (comp j s + 0) := by rw [Int.add_zero, wrap_ok h0 h1]
  unfold instStep vI
  by_cases h2 : v ≠ 0 ∧ x.f11 ≠ v
  · rw [if_pos h2, if_pos h2, comp_zero]; exact hw
  · rw [if_neg h2, if_neg h2]
    unfold dI
    by_cases h3 : x.f5 = 3
    · rw [if_pos h3, if_pos h3]
      rcases j with _ | _ | _ | _ | _ | j <;> first | rfl | exact hw | (cases x.f4 <;> first | rfl | exact hw)
    · rw [if_neg h3, if_neg h3]
      by_cases h4 : comesB x.f5 = true
      · rw [if_pos h4, if_pos h4]
        rcases j with _ | _ | _ | _ | _ | j <;> first | rfl | exact hw | (cases x.f4 <;> first | rfl | exact hw)
      · rw [if_neg h4, if_neg h4]
        by_cases h5 : x.f5 = 7 ∨ x.f5 = 8
        · rw [if_pos h5, if_pos h5]
          rcases j with _ | _ | _ | _ | _ | j <;> first | rfl | exact hw
        · rw [if_neg h5, if_neg h5]
          rcases j with _ | _ | _ | _ | _ | j <;> first | rfl | exact hw
theorem open_comp (j : Nat) (v : Int) (s : Sum) (x : S33) (h0 : -9223372036854775808 ≤ comp j s) (h1 : comp j s < 9223372036854775808) : comp j (openStep v s x) = wrap64 (comp j s + comp j (vO v x)) := by
  have hw : comp j s = wrap64 (comp j s + 0) := by rw [Int.add_zero, wrap_ok h0 h1]
  unfold openStep vO
  by_cases h2 : v ≠ 0 ∧ x.f4 ≠ v
  · rw [if_pos h2, if_pos h2, comp_zero]; exact hw
  · rw [if_neg h2, if_neg h2]
    unfold dO
    by_cases h3 : x.f0.f3 = true
    · rw [if_pos h3, if_pos h3]
      rcases j with _ | _ | _ | _ | _ | j <;> first | rfl | exact hw
    · rw [if_neg h3, if_neg h3]
      rcases j with _ | _ | _ | _ | _ | j <;> first | rfl | exact hw | (cases x.f3 <;> first | rfl | exact hw)
theorem dI_le (j : Nat) {x : S29} (h : okI x = true) : 0 ≤ comp j (dI x) ∧ comp j (dI x) ≤ 100 := by
  have hc := of_decide_eq_true (Bool.and_eq_true_iff.1 h).1
  unfold cI at hc
  refine comp_all (p := fun n => 0 ≤ n ∧ n ≤ 100) (dI x) ?_ ?_ ?_ ?_ ?_ ?_ j <;> (try dsimp only) <;> unfold dI <;> (repeat' split) <;> (try dsimp only) <;> (repeat' split) <;> omega
theorem dO_le (j : Nat) {x : S33} (h : isL x = true) : 0 ≤ comp j (dO x) ∧ comp j (dO x) ≤ 100 := by
  unfold isL at h
  obtain ⟨_, h2⟩ := Bool.and_eq_true_iff.1 h
  obtain ⟨h3, h4⟩ := Bool.and_eq_true_iff.1 h2
  have h3' := of_decide_eq_true h3
  have h4' := of_decide_eq_true h4
  refine comp_all (p := fun n => 0 ≤ n ∧ n ≤ 100) (dO x) ?_ ?_ ?_ ?_ ?_ ?_ j <;> (try dsimp only) <;> unfold dO <;> (repeat' split) <;> (try dsimp only) <;> (repeat' split) <;> omega
theorem vI_le (j : Nat) (v : Int) {x : S29} (h : okI x = true) : 0 ≤ comp j (vI v x) ∧ comp j (vI v x) ≤ 100 := by
  unfold vI
  split
  · rw [comp_zero]; omega
  · exact dI_le j h
theorem vO_le (j : Nat) (v : Int) {x : S33} (h : isL x = true) : 0 ≤ comp j (vO v x) ∧ comp j (vO v x) ≤ 100 := by
  unfold vO
  split
  · rw [comp_zero]; omega
  · exact dO_le j h
def sumI {α : Type} (f : α → Int) : List α → Int
  | [] => 0
  | x :: r => f x + sumI f r
theorem sumI_le {α : Type} (f : α → Int) : ∀ a : List α, (∀ x ∈ a, 0 ≤ f x ∧ f x ≤ 100) → 0 ≤ sumI f a ∧ sumI f a ≤ 100 * a.length
  | [], _ => by simp [sumI]
  | x :: r, h => by
    have h1 := h x (by simp)
    have h2 := sumI_le f r (fun y hy => h y (by simp [hy]))
    simp only [sumI, List.length_cons]
    omega
theorem sumI_mono {α : Type} (f g : α → Int) : ∀ a : List α, (∀ x ∈ a, f x ≤ g x) → sumI f a ≤ sumI g a
  | [], _ => by simp [sumI]
  | x :: r, h => by
    have h1 := h x (by simp)
    have h2 := sumI_mono f g r (fun y hy => h y (by simp [hy]))
    simp only [sumI]
    omega
theorem sumI_four {α : Type} (f1 f2 f3 f4 f : α → Int) : ∀ a : List α, (∀ x ∈ a, f1 x + f2 x + f3 x + f4 x = f x) → sumI f1 a + sumI f2 a + sumI f3 a + sumI f4 a = sumI f a
  | [], _ => by simp [sumI]
  | x :: r, h => by
    have h1 := h x (by simp)
    have h2 := sumI_four f1 f2 f3 f4 f r (fun y hy => h y (by simp [hy]))
    simp only [sumI]
    omega
theorem fold_comp {α : Type} (j : Nat) (step : Sum → α → Sum) (f : α → Int) (hs : ∀ s x, -9223372036854775808 ≤ comp j s → comp j s < 9223372036854775808 → comp j (step s x) = wrap64 (comp j s + f x)) : ∀ (a : List α) (s : Sum), (∀ x ∈ a, 0 ≤ f x ∧ f x ≤ 100) → 0 ≤ comp j s → comp j s + 100 * a.length < 9223372036854775808 → comp j (a.foldl step s) = comp j s + sumI f a
  | [], s, _, _, _ => by simp [sumI]
  | x :: r, s, h, h0, h1 => by
    have hx := h x (by simp)
    rw [List.length_cons] at h1
    have e : comp j (step s x) = comp j s + f x := by rw [hs s x (by omega) (by omega), wrap_ok (by omega) (by omega)]
    rw [List.foldl_cons, fold_comp j step f hs r (step s x) (fun y hy => h y (by simp [hy])) (by omega) (by omega), e, sumI]
    omega
section
variable {a : List S29} {b : List S33} (hA : ∀ x ∈ a, okI x = true) (la : a.length ≤ 100) (lb : b.length ≤ 100)
include hA la lb
theorem sumOf_comp (j : Nat) (v : Int) : comp j (sumOf a b v) = sumI (fun x => comp j (vI v x)) a + sumI (fun x => comp j (vO v x)) (lset b) := by
  have llb : (lset b).length ≤ 100 := Nat.le_trans (lset_le b) lb
  have hO : ∀ x ∈ lset b, 0 ≤ comp j (vO v x) ∧ comp j (vO v x) ≤ 100 := fun x hx => vO_le j v (List.mem_filter.1 hx).2
  have hI : ∀ x ∈ a, 0 ≤ comp j (vI v x) ∧ comp j (vI v x) ≤ 100 := fun x hx => vI_le j v (hA x hx)
  have e1 : comp j (instSum v a) = sumI (fun x => comp j (vI v x)) a := by
    unfold instSum
    rw [fold_comp j (instStep v) (fun x => comp j (vI v x)) (inst_comp j v) a zsum hI (by rw [comp_zero]; omega) (by rw [comp_zero]; omega), comp_zero]
    omega
  have b1 := sumI_le _ a hI
  unfold sumOf
  rw [fold_comp j (openStep v) (fun x => comp j (vO v x)) (open_comp j v) (lset b) (instSum v a) hO (by rw [e1]; exact b1.1) (by rw [e1]; omega), e1]
theorem sumOf_le (j : Nat) (v : Int) : 0 ≤ comp j (sumOf a b v) ∧ comp j (sumOf a b v) ≤ 20000 := by
  have llb : (lset b).length ≤ 100 := Nat.le_trans (lset_le b) lb
  have b1 := sumI_le (fun x => comp j (vI v x)) a (fun x hx => vI_le j v (hA x hx))
  have b2 := sumI_le (fun x => comp j (vO v x)) (lset b) (fun x hx => vO_le j v (List.mem_filter.1 hx).2)
  rw [sumOf_comp hA la lb j v]
  omega
theorem all_four (hv : ∀ x ∈ a, 1 ≤ x.f11 ∧ x.f11 ≤ 4) (hw : ∀ x ∈ b, 1 ≤ x.f4 ∧ x.f4 ≤ 4) : allS a b 4 = sumOf a b 0 := by
  refine Sum.ext6 fun j => ?_
  have s1 := sumOf_le hA la lb j 1
  have s2 := sumOf_le hA la lb j 2
  have s3 := sumOf_le hA la lb j 3
  have s4 := sumOf_le hA la lb j 4
  have c1 := sumOf_comp hA la lb j 1
  have c2 := sumOf_comp hA la lb j 2
  have c3 := sumOf_comp hA la lb j 3
  have c4 := sumOf_comp hA la lb j 4
  have c0 := sumOf_comp hA la lb j 0
  have e : comp j (allS a b 4) = comp j (sumOf a b 1) + comp j (sumOf a b 2) + comp j (sumOf a b 3) + comp j (sumOf a b 4) := by
    show comp j (addS (addS (addS (addS zsum (sumOf a b 1)) (sumOf a b 2)) (sumOf a b 3)) (sumOf a b 4)) = _
    rw [comp_add, comp_add, comp_add, comp_add, comp_zero]
    rw [wrap_ok (n := 0 + comp j (sumOf a b 1)) (by omega) (by omega), wrap_ok (n := 0 + comp j (sumOf a b 1) + comp j (sumOf a b 2)) (by omega) (by omega), wrap_ok (n := 0 + comp j (sumOf a b 1) + comp j (sumOf a b 2) + comp j (sumOf a b 3)) (by omega) (by omega), wrap_ok (by omega) (by omega)]
    omega
  have fI := sumI_four (fun x => comp j (vI 1 x)) (fun x => comp j (vI 2 x)) (fun x => comp j (vI 3 x)) (fun x => comp j (vI 4 x)) (fun x => comp j (vI 0 x)) a (fun x hx => by
    obtain ⟨h1, h2⟩ := hv x hx
    have hz := comp_zero j
    (try dsimp only)
    unfold vI
    rw [if_neg (show ¬ ((0 : Int) ≠ 0 ∧ x.f11 ≠ 0) from fun h => h.1 rfl)]
    rcases (by omega : x.f11 = 1 ∨ x.f11 = 2 ∨ x.f11 = 3 ∨ x.f11 = 4) with h | h | h | h <;> rw [h] <;> simp [hz])
  have fO := sumI_four (fun x => comp j (vO 1 x)) (fun x => comp j (vO 2 x)) (fun x => comp j (vO 3 x)) (fun x => comp j (vO 4 x)) (fun x => comp j (vO 0 x)) (lset b) (fun x hx => by
    obtain ⟨h1, h2⟩ := hw x (List.mem_filter.1 hx).1
    have hz := comp_zero j
    (try dsimp only)
    unfold vO
    rw [if_neg (show ¬ ((0 : Int) ≠ 0 ∧ x.f4 ≠ 0) from fun h => h.1 rfl)]
    rcases (by omega : x.f4 = 1 ∨ x.f4 = 2 ∨ x.f4 = 3 ∨ x.f4 = 4) with h | h | h | h <;> rw [h] <;> simp [hz])
  rw [e, c0, c1, c2, c3, c4]
  omega
theorem demand_live : (sumOf a b 0).a1 ≤ (sumOf a b 0).a0 := by
  have c1 : (sumOf a b 0).a1 = _ := sumOf_comp hA la lb 1 0
  have c0 : (sumOf a b 0).a0 = _ := sumOf_comp hA la lb 0 0
  have h1 := sumI_mono (fun x => comp 1 (vI 0 x)) (fun x => comp 0 (vI 0 x)) a (fun x hx => by
    have hb := dI_le 0 (hA x hx)
    have hc := of_decide_eq_true (Bool.and_eq_true_iff.1 (hA x hx)).1
    unfold cI at hc
    (try dsimp only)
    unfold vI
    rw [if_neg (show ¬ ((0 : Int) ≠ 0 ∧ x.f11 ≠ 0) from fun h => h.1 rfl)]
    unfold dI
    (repeat' split) <;> simp only [comp] <;> omega)
  have h2 := sumI_mono (fun x => comp 1 (vO 0 x)) (fun x => comp 0 (vO 0 x)) (lset b) (fun x hx => by
    (try dsimp only)
    unfold vO
    rw [if_neg (show ¬ ((0 : Int) ≠ 0 ∧ x.f4 ≠ 0) from fun h => h.1 rfl)]
    unfold dO
    (repeat' split) <;> simp only [comp] <;> omega)
  rw [c1, c0]
  omega
theorem demand_coming : (sumOf a b 0).a3 ≤ (sumOf a b 0).a2 := by
  have c1 : (sumOf a b 0).a3 = _ := sumOf_comp hA la lb 3 0
  have c0 : (sumOf a b 0).a2 = _ := sumOf_comp hA la lb 2 0
  have h1 := sumI_mono (fun x => comp 3 (vI 0 x)) (fun x => comp 2 (vI 0 x)) a (fun x hx => by
    have hc := of_decide_eq_true (Bool.and_eq_true_iff.1 (hA x hx)).1
    unfold cI at hc
    (try dsimp only)
    unfold vI
    rw [if_neg (show ¬ ((0 : Int) ≠ 0 ∧ x.f11 ≠ 0) from fun h => h.1 rfl)]
    unfold dI
    (repeat' split) <;> simp only [comp] <;> omega)
  have h2 := sumI_mono (fun x => comp 3 (vO 0 x)) (fun x => comp 2 (vO 0 x)) (lset b) (fun x hx => by
    have hl := (List.mem_filter.1 hx).2
    unfold isL at hl
    obtain ⟨_, hl2⟩ := Bool.and_eq_true_iff.1 hl
    have h3' := of_decide_eq_true (Bool.and_eq_true_iff.1 hl2).1
    (try dsimp only)
    unfold vO
    rw [if_neg (show ¬ ((0 : Int) ≠ 0 ∧ x.f4 ≠ 0) from fun h => h.1 rfl)]
    unfold dO
    (repeat' split) <;> simp only [comp] <;> omega)
  rw [c1, c0]
  omega
end

end Go.Proofs.Ythphdhhogdhmeaa.GA
