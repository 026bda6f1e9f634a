/- The document, plainly. No condition. -/
import Derived.Test.YtgfekeicgcnjfaaA12
import Derived.Laws.CopyOwn
import Derived.Laws.CopyRow
import Derived.ChangeKeysEq
import Derived.Deep.RegionHeld3
import Derived.Deep.MidRow
import Derived.Shelf.Abstract
import Derived.Lib.Overlaps
import Derived.Lib.AppendZerosOnto
import Derived.Shelf.Spec.SlicesInsertGrow
import Derived.Maps.OwnSet
import Derived.WalkSpells
namespace Go.Proofs.Ytgfekeicgcnjfaa.GA
open Go.RowKit Go.Shelf Go.Proofs.YtgfekeicgcnjfaaW.PrintWords Go.Proofs.YtgfekeicgcnjfaaW.PrintLast Go.Proofs.YtgfekeicgcnjfaaW.PrintMore
set_option linter.unusedVariables false
set_option linter.unusedSimpArgs false

def p80 (d : S71) : S80 := ⟨d.f0, d.f1⟩
/-- the document's list: all, in the order in which they were set -/
def Rel (xs : List S71) (L : List S80) : Prop := ∃ ys : List S71, ys.Perm xs ∧ ys.Pairwise (fun a b => a.f2 < b.f2) ∧ L = ys.map p80
theorem ba_eq {a b : ByteArray} (h : a.toList = b.toList) : a = b := by
  rw [ByteArray.toList_eq, ByteArray.toList_eq] at h
  cases a; cases b
  congr 1
  exact Array.toList_inj.1 h
def wo (L : List S80) (x : ByteArray) : List S80 := L.filter fun d => decide (d.f0 ≠ x)
theorem rd80 (L : List S80) (j : Nat) (h : j < L.length) : rd_T80 L (j : Int) = L[j] := by
  unfold rd_T80
  rw [Int.toNat_natCast, List.getD_eq_getElem?_getD, List.getElem?_eq_getElem h]
  rfl
theorem take_filter (L : List S80) (p : S80 → Bool) (j : Nat) (h : j < L.length) : (L.take (j + 1)).filter p = (L.take j).filter p ++ (if p L[j] = true then [L[j]] else []) := by
  rw [List.take_add_one, List.filter_append, List.getElem?_eq_getElem h]
  show _ ++ [L[j]].filter p = _
  rw [List.filter_cons]
  rfl
theorem without_run (most : Int) (L : List S80) (x : ByteArray) (hl : L.length ≤ 1000000) : ∀ d j : Nat, d + j = L.length → cohortref05_Wheel_without.l0 (d + 1) x ((L.take j).filter fun d => decide (d.f0 ≠ x)) (j : Int) most L = some (wo L x, decide (((wo L x).length : Int) < (L.length : Int)), most)
  | 0, j, h => by
    rw [cohortref05_Wheel_without.l0, if_neg (by omega), List.take_of_length_le (by omega)]
    rfl
  | d + 1, j, h => by
    have hj : j < L.length := by omega
    have e1 : wrap64 ((j : Int) + 1) = ((j + 1 : Nat) : Int) := by unfold wrap64; omega
    have hle : ((L.take j).filter fun d => decide (d.f0 ≠ x)).length ≤ 1000000 := Nat.le_trans (List.length_filter_le _ _) (by rw [List.length_take]; omega)
    rw [cohortref05_Wheel_without.l0, if_pos (by omega), if_pos (by omega), rd80 L j hj, e1]
    have ih := without_run most L x hl d (j + 1) (by omega)
    rw [take_filter L _ j hj] at ih
    by_cases he : L[j].f0.toList = x.toList
    · rw [if_pos he]
      have he' := ba_eq he
      rw [if_neg (by simp [he']), List.append_nil] at ih
      exact ih
    · rw [if_neg he, if_pos (by omega)]
      have he' : L[j].f0 ≠ x := fun e => he (by rw [e])
      rw [if_pos (by simpa using he')] at ih
      exact ih
theorem without_eq (most : Int) (L : List S80) (x : ByteArray) (hl : L.length ≤ 1000000) : cohortref05_Wheel_without.f (L.length + 1) most L x = some (wo L x, decide (((wo L x).length : Int) < (L.length : Int)), most) := without_run most L x hl L.length 0 (by omega)
def wh (L : List S80) (x : ByteArray) : Int × Bool := match L.find? fun d => decide (d.f0 = x) with
  | some d => (d.f1, true)
  | none => (0, false)
theorem when_run (most : Int) (L : List S80) (x : ByteArray) (hl : L.length ≤ 1000000) : ∀ d j : Nat, d + j = L.length → cohortref05_Wheel_When.l0 (d + 1) x (j : Int) most L = some ((wh (L.drop j) x).1, (wh (L.drop j) x).2, most)
  | 0, j, h => by
    rw [cohortref05_Wheel_When.l0, if_neg (by omega), List.drop_of_length_le (by omega)]
    rfl
  | d + 1, j, h => by
    have hj : j < L.length := by omega
    have e1 : wrap64 ((j : Int) + 1) = ((j + 1 : Nat) : Int) := by unfold wrap64; omega
    rw [cohortref05_Wheel_When.l0, if_pos (by omega), if_pos (by omega), rd80 L j hj, e1, List.drop_eq_getElem_cons hj]
    by_cases he : L[j].f0.toList = x.toList
    · rw [if_pos he]
      have he' := ba_eq he
      unfold wh
      rw [List.find?_cons_of_pos (by simpa using he')]
    · rw [if_neg he]
      have he' : L[j].f0 ≠ x := fun e => he (by rw [e])
      have : wh (L[j] :: L.drop (j + 1)) x = wh (L.drop (j + 1)) x := by
        unfold wh
        rw [List.find?_cons_of_neg (by simpa using he')]
      rw [this]
      exact when_run most L x hl d (j + 1) (by omega)
theorem when_eq (most : Int) (L : List S80) (x : ByteArray) (hl : L.length ≤ 1000000) : cohortref05_Wheel_When.f (L.length + 1) most L x = some ((wh L x).1, (wh L x).2, most) := when_run most L x hl L.length 0 (by omega)
def least (m : Int) (L : List S80) : Int := L.foldl (fun m d => if d.f1 < m then d.f1 else m) m
def nx (L : List S80) : Int × Bool := match L with
  | [] => (0, false)
  | d :: r => (least d.f1 r, true)
theorem next_run (most : Int) (L : List S80) (hl : L.length ≤ 1000000) : ∀ d j : Nat, d + j = L.length → 1 ≤ j → ∀ m, cohortref05_Wheel_Next.l0 (d + 1) m (j : Int) most L = some (least m (L.drop j), true, most)
  | 0, j, h, h1, m => by
    rw [cohortref05_Wheel_Next.l0, if_neg (by omega), List.drop_of_length_le (by omega), decide_eq_true (by omega)]
    rfl
  | d + 1, j, h, h1, m => by
    have hj : j < L.length := by omega
    have e1 : wrap64 ((j : Int) + 1) = ((j + 1 : Nat) : Int) := by unfold wrap64; omega
    rw [cohortref05_Wheel_Next.l0, if_pos (by omega), if_neg (by omega), if_pos (by omega), rd80 L j hj, e1, List.drop_eq_getElem_cons hj]
    unfold least
    rw [List.foldl_cons]
    by_cases he : L[j].f1 < m
    · rw [if_pos he, if_pos he]
      exact next_run most L hl d (j + 1) (by omega) (by omega) _
    · rw [if_neg he, if_neg he]
      exact next_run most L hl d (j + 1) (by omega) (by omega) _
theorem next_eq (most : Int) (L : List S80) (hl : L.length ≤ 1000000) : cohortref05_Wheel_Next.f (L.length + 1) most L = some ((nx L).1, (nx L).2, most) := by
  unfold cohortref05_Wheel_Next.f
  cases L with
  | nil =>
    rw [cohortref05_Wheel_Next.l0, if_neg (by simp)]
    rfl
  | cons x L =>
    rw [cohortref05_Wheel_Next.l0, if_pos (by rw [List.length_cons]; omega), if_pos rfl, if_pos (by omega)]
    rw [show wrap64 (0 + 1) = ((1 : Nat) : Int) from by unfold wrap64; omega]
    exact next_run most (x :: L) hl L.length 1 rfl (Nat.le_refl _) _
theorem least_is (v : Int) : ∀ (L : List S80) (m : Int), v ≤ m → (∀ d ∈ L, v ≤ d.f1) → (v = m ∨ ∃ d ∈ L, d.f1 = v) → least m L = v
  | [], m, h1, h2, h3 => by
    rcases h3 with h3 | ⟨d, hd, _⟩
    · exact h3.symm
    · cases hd
  | x :: L, m, h1, h2, h3 => by
    have hx := h2 x (List.mem_cons_self ..)
    have hr := fun d hd => h2 d (List.mem_cons_of_mem _ hd)
    show least (if x.f1 < m then x.f1 else m) L = v
    refine least_is v L _ (by split <;> omega) hr ?_
    rcases h3 with h3 | ⟨d, hd, he⟩
    · refine .inl ?_
      split <;> omega
    · rcases List.mem_cons.1 hd with rfl | hd
      · refine .inl ?_
        split <;> omega
      · exact .inr ⟨d, hd, he⟩
theorem Rel.zero : Rel [] [] := ⟨[], List.Perm.nil, List.Pairwise.nil, rfl⟩
theorem Rel.len {xs : List S71} {L : List S80} (h : Rel xs L) : L.length = xs.length := by
  obtain ⟨ys, h1, h2, rfl⟩ := h
  rw [List.length_map, h1.length_eq]
theorem Rel.wo_in {xs : List S71} {L : List S80} {ord : Int} (h : Rel xs L) (hw : Wp xs ord) {x : S71} (hx : x ∈ xs) : Rel (out xs x) (wo L x.f0) := by
  obtain ⟨ys, h1, h2, rfl⟩ := h
  refine ⟨ys.filter fun d => decide (d.f0 ≠ x.f0), ?_, h2.sublist List.filter_sublist, ?_⟩
  · have hn : (out xs x).Nodup := List.Pairwise.of_map (·.f0) (fun a b h e => h (congrArg _ e)) (hw.out x).1.1
    have hn2 : (ys.filter fun d => decide (d.f0 ≠ x.f0)).Nodup := List.Nodup.sublist List.filter_sublist ((h1.nodup_iff).2 (List.Pairwise.of_map (·.f0) (fun a b h e => h (congrArg _ e)) hw.1.1))
    refine (List.perm_ext_iff_of_nodup hn2 hn).2 (fun y => ?_)
    rw [List.mem_filter, h1.mem_iff, hw.out_mem hx, decide_eq_true_eq]
  · unfold wo
    rw [List.filter_map]
    rfl
theorem Rel.wo_out {xs : List S71} {L : List S80} (h : Rel xs L) {k : ByteArray} (hx : ∀ x ∈ xs, x.f0 ≠ k) : wo L k = L := by
  obtain ⟨ys, h1, h2, rfl⟩ := h
  unfold wo
  refine List.filter_eq_self.2 (fun d hd => ?_)
  obtain ⟨y, hy, rfl⟩ := List.mem_map.1 hd
  exact decide_eq_true (hx y (h1.mem_iff.1 hy))
theorem Rel.add {xs : List S71} {L : List S80} {ord : Int} (h : Rel xs L) (hw : Wp xs ord) (d : S71) (hd : d.f2 = ord + 1) : Rel (ins xs d) (L ++ [p80 d]) := by
  obtain ⟨ys, h1, h2, rfl⟩ := h
  refine ⟨ys ++ [d], ?_, ?_, by rw [List.map_append]; rfl⟩
  · have e : xs = xs.take (ix xs d) ++ xs.drop (ix xs d) := (List.take_append_drop _ _).symm
    unfold ins
    refine (List.perm_append_singleton _ _).trans (.trans (.cons _ h1) ?_)
    conv => lhs; rw [e]
    exact List.perm_middle.symm
  · refine List.pairwise_append.2 ⟨h2, List.pairwise_singleton _ _, fun a ha b hb => ?_⟩
    rw [List.mem_singleton] at hb
    subst hb
    have := hw.2.2 a (h1.mem_iff.1 ha)
    omega
theorem Rel.when_in {xs : List S71} {L : List S80} {ord : Int} (h : Rel xs L) (hw : Wp xs ord) {x : S71} (hx : x ∈ xs) : wh L x.f0 = (x.f1, true) := by
  obtain ⟨ys, h1, h2, rfl⟩ := h
  unfold wh
  cases hf : (ys.map p80).find? (fun d => decide (d.f0 = x.f0)) with
  | none =>
    have := List.find?_eq_none.1 hf (p80 x) (List.mem_map.2 ⟨x, h1.mem_iff.2 hx, rfl⟩)
    simp [p80] at this
  | some d =>
    have hm := List.mem_of_find?_eq_some hf
    have he := List.find?_some hf
    obtain ⟨y, hy, rfl⟩ := List.mem_map.1 hm
    have := hw.1.one (h1.mem_iff.1 hy) hx (of_decide_eq_true he)
    rw [this]
    rfl
theorem Rel.when_out {xs : List S71} {L : List S80} (h : Rel xs L) {k : ByteArray} (hx : ∀ x ∈ xs, x.f0 ≠ k) : wh L k = (0, false) := by
  obtain ⟨ys, h1, h2, rfl⟩ := h
  unfold wh
  have : (ys.map p80).find? (fun d => decide (d.f0 = k)) = none := by
    refine List.find?_eq_none.2 (fun d hd => ?_)
    obtain ⟨y, hy, rfl⟩ := List.mem_map.1 hd
    have := hx y (h1.mem_iff.1 hy)
    exact (by rw [decide_eq_false (show ¬ (p80 y).f0 = k from this)]; decide)
  rw [this]
theorem Rel.nil_ {L : List S80} (h : Rel [] L) : L = [] := by
  have := h.len
  exact List.eq_nil_of_length_eq_zero this
theorem head_le {z : S71} {zs : List S71} (h : (z :: zs).Pairwise ltD) : ∀ y ∈ z :: zs, z.f1 ≤ y.f1 := fun y hy => by
  rcases List.mem_cons.1 hy with rfl | hy
  · exact Int.le_refl _
  · have := (List.pairwise_cons.1 h).1 y hy
    unfold ltD at this
    omega
theorem Rel.next {z : S71} {zs : List S71} {L : List S80} {ord : Int} (h : Rel (z :: zs) L) (hw : Wp (z :: zs) ord) : nx L = (z.f1, true) := by
  obtain ⟨ys, h1, h2, rfl⟩ := h
  have hle : ∀ d ∈ ys.map p80, z.f1 ≤ d.f1 := fun d hd => by
    obtain ⟨y, hy, rfl⟩ := List.mem_map.1 hd
    exact head_le hw.2.1 y (h1.mem_iff.1 hy)
  have hz : ∃ d ∈ ys.map p80, d.f1 = z.f1 := ⟨p80 z, List.mem_map.2 ⟨z, h1.mem_iff.2 (List.mem_cons_self ..), rfl⟩, rfl⟩
  cases hy : ys.map p80 with
  | nil => rw [hy] at hz; obtain ⟨d, hd, _⟩ := hz; cases hd
  | cons d r =>
    rw [hy] at hle hz
    show (least d.f1 r, true) = _
    rw [least_is z.f1 r d.f1 (hle d (List.mem_cons_self ..)) (fun e he => hle e (List.mem_cons_of_mem _ he)) ?_]
    obtain ⟨e, he, e2⟩ := hz
    rcases List.mem_cons.1 he with rfl | he
    · exact .inl e2.symm
    · exact .inr ⟨e, he, e2⟩
/-- the least tick's first one is the wheel's first one -/
theorem Rel.first {z : S71} {zs : List S71} {L : List S80} {ord : Int} (h : Rel (z :: zs) L) (hw : Wp (z :: zs) ord) : ∃ p : Nat, p < L.length ∧ (L.getD p z80) = p80 z ∧ ∀ j, j < p → (L.getD j z80).f1 ≠ z.f1 := by
  obtain ⟨ys, h1, h2, rfl⟩ := h
  obtain ⟨p, hp, e⟩ := List.mem_iff_getElem.1 (h1.mem_iff.2 (List.mem_cons_self (a := z) (l := zs)))
  have hg : ∀ j (hj : j < ys.length), (ys.map p80).getD j z80 = p80 ys[j] := fun j hj => by
    rw [List.getD_eq_getElem?_getD, List.getElem?_map, List.getElem?_eq_getElem hj]
    rfl
  refine ⟨p, by rw [List.length_map]; exact hp, by rw [hg p hp, e], fun j hj he => ?_⟩
  have hj' : j < ys.length := by omega
  rw [hg j hj'] at he
  have hlt := List.pairwise_iff_getElem.1 h2 j p hj' hp hj
  rw [e] at hlt
  have hm := h1.mem_iff.1 (List.getElem_mem hj')
  rcases List.mem_cons.1 hm with e2 | hm
  · rw [e2] at hlt
    exact absurd hlt (Int.lt_irrefl _)
  · have := (List.pairwise_cons.1 hw.2.1).1 _ hm
    have he' : ys[j].f1 = z.f1 := he
    unfold ltD at this
    omega

end Go.Proofs.Ytgfekeicgcnjfaa.GA
