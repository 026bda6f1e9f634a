/- What a wheel has, plainly. No condition. -/
import Derived.Test.YtgfekeicgcnjfaaB7
import Derived.Laws.CopyOwn
import Derived.Laws.CopyRow
import Derived.ChangeKeysEq
import Derived.Deep.RegionHeld3
import Derived.Deep.MidRow
import Derived.Shelf.Abstract
import Derived.Lib.Overlaps
import Derived.Lib.AppendZerosOnto
import Derived.Shelf.Spec.SlicesInsertGrow
import Derived.Maps.OwnSet
import Derived.WalkSpells
namespace Go.Proofs.Ytgfekeicgcnjfaa.GA.I
open Go.RowKit Go.Shelf Go.Proofs.YtgfekeicgcnjfaaW.PrintWords Go.Proofs.YtgfekeicgcnjfaaW.PrintLast Go.Proofs.YtgfekeicgcnjfaaW.PrintMore
set_option linter.unusedVariables false
set_option linter.unusedSimpArgs false

def ltD (a b : S63) : Prop := a.f1 < b.f1 ∨ (a.f1 = b.f1 ∧ a.f2 < b.f2)
theorem cmpA_neg (a b : S63) : cmpA a b < 0 ↔ ltD a b := by
  unfold cmpA ltD
  repeat' split
  all_goals (constructor <;> intro h <;> first | omega | (exfalso; revert h; decide) | skip)
theorem cmpA_zero (a b : S63) : cmpA a b = 0 ↔ a.f1 = b.f1 ∧ a.f2 = b.f2 := by
  unfold cmpA
  repeat' split
  all_goals (constructor <;> intro h <;> first | omega | (exfalso; revert h; decide) | skip)
theorem ltD_irrefl (a : S63) : ¬ ltD a a := by unfold ltD; omega
theorem ltD_trans {a b c : S63} (h : ltD a b) (k : ltD b c) : ltD a c := by unfold ltD at *; omega
/-- what the wheel's things are like -/
def Wp (xs : List S63) (ord : Int) : Prop := Keys xs ∧ xs.Pairwise ltD ∧ ∀ x ∈ xs, x.f2 ≤ ord
theorem getD_lt (xs : List S63) (i : Nat) (h : i < xs.length) : xs.getD i z63 = xs[i] := by
  rw [List.getD_eq_getElem?_getD, List.getElem?_eq_getElem h]
  rfl
theorem srt_lt {xs : List S63} (h : xs.Pairwise ltD) {a b : Nat} (hab : a < b) (hb : b < xs.length) : ltD (xs.getD a z63) (xs.getD b z63) := by
  rw [getD_lt xs a (by omega), getD_lt xs b hb]
  exact List.pairwise_iff_getElem.1 h a b (by omega) hb hab
theorem ix_spec {xs : List S63} (h : xs.Pairwise ltD) (d : S63) : (∀ a, a < ix xs d → ltD (xs.getD a z63) d) ∧ (∀ a, ix xs d ≤ a → a < xs.length → ¬ ltD (xs.getD a z63) d) := by
  have hd : ∀ x : S63, lt d x = true ↔ ltD x d := fun x => by unfold lt; rw [decide_eq_true_eq]; exact cmpA_neg _ _
  obtain ⟨h1, h2⟩ := bsF_spec (lt d) z63 xs (fun a b hab hb hl => (hd _).2 (ltD_trans (srt_lt h hab hb) ((hd _).1 hl))) xs.length 0 xs.length (Nat.le_refl _) (Nat.zero_le _) (by omega) (fun a ha => absurd ha (Nat.not_lt_zero _)) (fun a ha hb => absurd hb (by omega))
  refine ⟨fun a ha => (hd _).1 (h1 a ha), fun a ha hb hl => ?_⟩
  have := h2 a ha hb
  rw [(hd _).2 hl] at this
  cases this
/-- what is there is found -/
theorem Wp.find {xs : List S63} {ord : Int} (h : Wp xs ord) {x : S63} (hx : x ∈ xs) : hit xs x = true ∧ ix xs x < xs.length ∧ xs.getD (ix xs x) z63 = x := by
  obtain ⟨h1, h2⟩ := ix_spec h.2.1 x
  obtain ⟨p, hp, e⟩ := List.mem_iff_getElem.1 hx
  have e' : xs.getD p z63 = x := (getD_lt xs p hp).trans e
  have hix : ix xs x = p := by
    rcases Nat.lt_trichotomy (ix xs x) p with hlt | he | hgt
    · have := srt_lt h.2.1 hlt hp
      rw [e'] at this
      exact absurd this (h2 _ (Nat.le_refl _) (by omega))
    · exact he
    · have := h1 p hgt
      rw [e'] at this
      exact absurd this (ltD_irrefl _)
  refine ⟨?_, by omega, by rw [hix]; exact e'⟩
  unfold hit
  rw [hix, e', (cmpA_zero x x).2 ⟨rfl, rfl⟩, decide_eq_true hp]
  rfl
/-- without one -/
def out (xs : List S63) (x : S63) : List S63 := xs.eraseIdx (ix xs x)
theorem Wp.out_mem {xs : List S63} {ord : Int} (h : Wp xs ord) {x : S63} (hx : x ∈ xs) (y : S63) : y ∈ out xs x ↔ y ∈ xs ∧ y.f0 ≠ x.f0 := by
  obtain ⟨-, h2, h3⟩ := h.find hx
  rw [getD_lt _ _ h2] at h3
  unfold out
  constructor
  · intro hy
    obtain ⟨i, hi, hne, rfl⟩ := List.mem_eraseIdx_iff_getElem.1 hy
    refine ⟨List.getElem_mem _, fun e => hne ?_⟩
    have hk := h.1.one (List.getElem_mem hi) hx e
    rcases Nat.lt_trichotomy i (ix xs x) with hlt | he | hgt
    · have := List.pairwise_iff_getElem.1 h.2.1 i _ hi h2 hlt
      rw [hk, h3] at this
      exact absurd this (ltD_irrefl _)
    · exact he
    · have := List.pairwise_iff_getElem.1 h.2.1 _ i h2 hi hgt
      rw [hk, h3] at this
      exact absurd this (ltD_irrefl _)
  · rintro ⟨hy, hne⟩
    obtain ⟨i, hi, rfl⟩ := List.mem_iff_getElem.1 hy
    refine List.mem_eraseIdx_iff_getElem.2 ⟨i, hi, fun e => hne ?_, rfl⟩
    subst e
    rw [h3]
theorem out_len {xs : List S63} {ord : Int} (h : Wp xs ord) {x : S63} (hx : x ∈ xs) : (out xs x).length = xs.length - 1 := by
  unfold out
  rw [List.length_eraseIdx_of_lt (h.find hx).2.1]
theorem Wp.out {xs : List S63} {ord : Int} (h : Wp xs ord) (x : S63) : Wp (out xs x) ord := by
  have hs := List.eraseIdx_sublist xs (ix xs x)
  refine ⟨⟨h.1.1.sublist (hs.map _), fun y hy => h.1.2 y (hs.subset hy)⟩, h.2.1.sublist hs, fun y hy => h.2.2 y (hs.subset hy)⟩
def ins (xs : List S63) (d : S63) : List S63 := xs.take (ix xs d) ++ d :: xs.drop (ix xs d)
theorem ins_len (xs : List S63) (d : S63) : (ins xs d).length = xs.length + 1 := by
  have := ix_le xs d
  unfold ins
  simp
  omega
theorem ins_mem (xs : List S63) (d y : S63) : y ∈ ins xs d ↔ y = d ∨ y ∈ xs := by
  have e : xs = xs.take (ix xs d) ++ xs.drop (ix xs d) := (List.take_append_drop _ _).symm
  have h1 : y ∈ xs ↔ y ∈ xs.take (ix xs d) ∨ y ∈ xs.drop (ix xs d) := by
    conv => lhs; rw [e]
    exact List.mem_append
  unfold ins
  rw [List.mem_append, List.mem_cons, h1]
  constructor
  · rintro (h | h | h)
    · exact .inr (.inl h)
    · exact .inl h
    · exact .inr (.inr h)
  · rintro (h | h | h)
    · exact .inr (.inl h)
    · exact .inl h
    · exact .inr (.inr h)
theorem Wp.ins {xs : List S63} {ord : Int} (h : Wp xs ord) {d : S63} (hd : d.f2 = ord + 1) (ho : okK d.f0) (hn : ∀ x ∈ xs, x.f0 ≠ d.f0) : Wp (ins xs d) (ord + 1) := by
  obtain ⟨h1, h2⟩ := ix_spec h.2.1 d
  have hlt : ∀ a ∈ xs.take (ix xs d), ltD a d := fun a ha => by
    obtain ⟨i, hi, rfl⟩ := List.mem_iff_getElem.1 ha
    rw [List.length_take] at hi
    rw [List.getElem_take, ← getD_lt xs i (by omega)]
    exact h1 i (by omega)
  have hgt : ∀ a ∈ xs.drop (ix xs d), ltD d a := fun a ha => by
    have hm := List.mem_of_mem_drop ha
    obtain ⟨i, hi, rfl⟩ := List.mem_iff_getElem.1 ha
    rw [List.length_drop] at hi
    have h3 := h2 (ix xs d + i) (by omega) (by omega)
    rw [getD_lt xs _ (by omega)] at h3
    rw [List.getElem_drop] at hm ⊢
    have := h.2.2 _ hm
    unfold ltD at *
    omega
  refine ⟨⟨?_, fun y hy => ?_⟩, ?_, fun y hy => ?_⟩
  · have hk : (xs.map (·.f0)).Nodup := h.1.1
    have e : xs.map (·.f0) = (xs.take (ix xs d)).map (·.f0) ++ (xs.drop (ix xs d)).map (·.f0) := by rw [← List.map_append, List.take_append_drop]
    have hp : ((Go.Proofs.Ytgfekeicgcnjfaa.GA.I.ins xs d).map (·.f0)).Perm (d.f0 :: xs.map (·.f0)) := by
      rw [e]
      unfold Go.Proofs.Ytgfekeicgcnjfaa.GA.I.ins
      rw [List.map_append, List.map_cons]
      exact List.perm_middle
    refine hp.nodup_iff.2 (List.nodup_cons.2 ⟨fun hm => ?_, hk⟩)
    obtain ⟨x, hx, e2⟩ := List.mem_map.1 hm
    exact hn x hx e2
  · rcases (ins_mem xs d y).1 hy with rfl | hy
    · exact ho
    · exact h.1.2 y hy
  · unfold Go.Proofs.Ytgfekeicgcnjfaa.GA.I.ins
    refine List.pairwise_append.2 ⟨h.2.1.sublist (List.take_sublist _ _), List.pairwise_cons.2 ⟨hgt, h.2.1.sublist (List.drop_sublist _ _)⟩, fun a ha b hb => ?_⟩
    rcases List.mem_cons.1 hb with rfl | hb
    · exact hlt a ha
    · exact ltD_trans (hlt a ha) (hgt b hb)
  · rcases (ins_mem xs d y).1 hy with rfl | hy
    · omega
    · have := h.2.2 y hy
      omega

end Go.Proofs.Ytgfekeicgcnjfaa.GA.I
