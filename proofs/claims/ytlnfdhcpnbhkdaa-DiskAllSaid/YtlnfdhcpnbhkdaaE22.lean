/- Blocks in memory: loads, stores and copies of 64 bytes. No condition. -/
import Derived.Test.YtlnfdhcpnbhkdaaE21
import Derived.Test.YtlnfdhcpnbhkdaaD18
import Derived.Laws.CopyOwn
import Derived.ChangeKeysEq
import Derived.Deep.RegionHeld3
import Derived.Deep.MidRow
import Derived.Great.Walk
namespace Go.Proofs.Ytlnfdhcpnbhkdaa.GA.E
open Go.RowKit Go.Proofs.YtlnfdhcpnbhkdaaW.PrintWords Go.Proofs.YtlnfdhcpnbhkdaaW.PrintLast Go.Proofs.YtlnfdhcpnbhkdaaW.PrintMore
set_option linter.unusedVariables false
set_option linter.unusedSimpArgs false


theorem blk_take (F : List Int) (n j : Nat) (hj : j < n) : blkAt (F.take (n * 64)) j = blkAt F j := by
  unfold blkAt
  apply List.ext_getElem?
  intro q
  rw [List.getElem?_take, List.getElem?_take]
  by_cases hq : q < 64
  · rw [if_pos hq, if_pos hq, List.getElem?_drop, List.getElem?_drop, List.getElem?_take_of_lt (by omega)]
  · rw [if_neg hq, if_neg hq]
theorem blk_same {F G : List Int} {n : Nat} (h : F.take (n * 64) = G.take (n * 64)) (j : Nat) (hj : j < n) : blkAt F j = blkAt G j := by rw [← blk_take F n j hj, h, blk_take G n j hj]
theorem blk_spliceE (H : List Int) (n i j : Nat) (f : Nat) (Y : List Int) (hl : n * 64 ≤ H.length) (hi : i < n) (hj : j < n) (hY : f + Y.length ≤ 64) (hne : i ≠ j) : blkAt (splice H (i * 64 + f) Y) j = blkAt H j := by
  unfold blkAt splice
  have e1 : (H.take (i * 64 + f)).length = i * 64 + f := by rw [List.length_take]; omega
  apply List.ext_getElem?
  intro q
  rw [List.getElem?_take, List.getElem?_take]
  by_cases hq : q < 64
  · rw [if_pos hq, if_pos hq, List.getElem?_drop, List.getElem?_drop]
    rcases Nat.lt_or_gt_of_ne hne with h | h
    · rw [List.getElem?_append_right (by omega), e1, List.getElem?_append_right (by omega), List.getElem?_drop]
      congr 1
      omega
    · rw [List.getElem?_append_left (by omega), List.getElem?_take_of_lt (by omega)]
  · rw [if_neg hq, if_neg hq]
theorem blk_splice_front (H : List Int) (n i m : Nat) (Y : List Int) (hl : n * 64 ≤ H.length) (hi : i < n) (hY : Y.length = m) (hm : m ≤ 64) : blkAt (splice H (i * 64) Y) i = Y ++ (blkAt H i).drop m := by
  unfold blkAt splice
  have e1 : (H.take (i * 64)).length = i * 64 := by rw [List.length_take]; omega
  rw [List.drop_left' e1]
  apply List.ext_getElem?
  intro q
  rw [List.getElem?_take]
  by_cases hq : q < 64
  · rw [if_pos hq]
    by_cases h2 : q < m
    · rw [List.getElem?_append_left (by omega), List.getElem?_append_left (by omega)]
    · rw [List.getElem?_append_right (by omega), List.getElem?_append_right (by omega), List.getElem?_drop, List.getElem?_drop, List.getElem?_take_of_lt (by omega), List.getElem?_drop]
      congr 1
      omega
  · rw [if_neg hq, List.getElem?_append_right (by omega), List.getElem?_drop, List.getElem?_eq_none (by rw [List.length_take, List.length_drop]; omega)]
theorem splice_lenE (H : List Int) (n i : Nat) (Y : List Int) (hl : n * 64 ≤ H.length) (hi : i < n) (hY : Y.length ≤ 64) : n * 64 ≤ (splice H (i * 64) Y).length := by
  rw [length_splice _ _ _ (by omega)]
  exact hl
theorem take_snoc (l : List (Int × List Int)) (k : Nat) (hk : k < l.length) : l.take (k + 1) = l.take k ++ [l.getD k (0, [])] := by
  rw [List.take_add_one, List.getD_eq_getElem?_getD, List.getElem?_eq_getElem hk]
  rfl
theorem crash_whole (H H' : List Int) (l : List (Int × List Int)) (p : List Int) (lh : 64 * 64 ≤ H.length) (lh' : H'.length = 64 * 64) (hs : ∀ j, j < 64 → blkAt H j = blkAt H' j) (ok : ∀ x ∈ l, 0 ≤ x.1 ∧ x.1 < (64 : Nat) ∧ x.2.length = 64) (hp : ∀ k, k < l.length → k < p.length ∧ rd p (k : Int) = 64) : ∀ k, k ≤ l.length → 64 * 64 ≤ (crashTo H l p k).length ∧ ∀ j, j < 64 → blkAt (crashTo H l p k) j = blkAt (wholeL H' (l.take k)) j
  | 0, _ => ⟨lh, fun j hj => hs j hj⟩
  | k + 1, hk => by
    obtain ⟨h1, h2⟩ := crash_whole H H' l p lh lh' hs ok hp k (by omega)
    have hx : l.getD k (0, []) ∈ l := by
      rw [List.getD_eq_getElem?_getD, List.getElem?_eq_getElem (by omega)]
      exact List.getElem_mem _
    have hok := ok _ hx
    obtain ⟨i, hi⟩ := Int.eq_ofNat_of_zero_le hok.1
    have hi64 : i < 64 := by have := hok.2.1; omega
    have ht : (l.getD k (0, [])).1.toNat = i := by rw [hi]; rfl
    obtain ⟨hpl, hpr⟩ := hp k (by omega)
    have e : crashTo H l p (k + 1) = splice (crashTo H l p k) (i * 64) (l.getD k (0, [])).2 := by
      rw [crashTo, crashAt, if_pos hpl, hpr, ht]
      show splice _ (i * 64 + 0) ((List.drop 0 (l.getD k (0, [])).2).take (64 - 0)) = _
      rw [List.drop_zero, List.take_of_length_le (by rw [hok.2.2]; exact Nat.le_refl 64)]
      rfl
    rw [e, take_snoc l k (by omega), wholeL_snoc, ht]
    refine ⟨splice_lenE _ 64 i _ h1 hi64 (by rw [hok.2.2]; exact Nat.le_refl 64), fun j hj => ?_⟩
    have lw := wholeL_len H' 64 lh' (l.take k) (fun x hx => ok x (List.mem_of_mem_take hx))
    by_cases h : i = j
    · subst h
      rw [blk_splice_front _ 64 i 64 _ h1 hi64 hok.2.2 (Nat.le_refl _), blk_splice_front _ 64 i 64 _ (Nat.le_of_eq lw.symm) hi64 hok.2.2 (Nat.le_refl _), h2 i hi64]
    · have a := blk_spliceE (crashTo H l p k) 64 i j 0 (l.getD k (0, [])).2 h1 hi64 hj (by rw [hok.2.2]; exact Nat.le_refl 64) h
      have b := blk_spliceE (wholeL H' (l.take k)) 64 i j 0 (l.getD k (0, [])).2 (Nat.le_of_eq lw.symm) hi64 hj (by rw [hok.2.2]; exact Nat.le_refl 64) h
      rw [Nat.add_zero] at a b
      rw [a, b, h2 j hj]
theorem crash_odd (H H' : List Int) (l : List (Int × List Int)) (p : List Int) (lh : 64 * 64 ≤ H.length) (lh' : H'.length = 64 * 64) (hs : ∀ j, j < 64 → blkAt H j = blkAt H' j) (ok : ∀ x ∈ l, 0 ≤ x.1 ∧ x.1 < (64 : Nat) ∧ x.2.length = 64) (hp : ∀ k, k < l.length → k < p.length ∧ rd p (k : Int) = 1) : ∀ k, k ≤ l.length → 64 * 64 ≤ (crashTo H l p k).length ∧ ∀ j, j < 64 → (blkAt (crashTo H l p k) j).take 32 = (blkAt (wholeL H' (l.take k)) j).take 32 ∧ (blkAt (crashTo H l p k) j).drop 32 = (blkAt H' j).drop 32
  | 0, _ => ⟨lh, fun j hj => by rw [show crashTo H l p 0 = H from rfl, show wholeL H' (l.take 0) = H' from rfl, hs j hj]; exact ⟨rfl, rfl⟩⟩
  | k + 1, hk => by
    obtain ⟨h1, h2⟩ := crash_odd H H' l p lh lh' hs ok hp k (by omega)
    have hx : l.getD k (0, []) ∈ l := by
      rw [List.getD_eq_getElem?_getD, List.getElem?_eq_getElem (by omega)]
      exact List.getElem_mem _
    have hok := ok _ hx
    obtain ⟨i, hi⟩ := Int.eq_ofNat_of_zero_le hok.1
    have hi64 : i < 64 := by have := hok.2.1; omega
    have ht : (l.getD k (0, [])).1.toNat = i := by rw [hi]; rfl
    obtain ⟨hpl, hpr⟩ := hp k (by omega)
    have l32 : ((l.getD k (0, [])).2.take 32).length = 32 := by rw [List.length_take, hok.2.2]; rfl
    have e : crashTo H l p (k + 1) = splice (crashTo H l p k) (i * 64) ((l.getD k (0, [])).2.take 32) := by
      rw [crashTo, crashAt, if_pos hpl, hpr, ht]
      rfl
    rw [e, take_snoc l k (by omega), wholeL_snoc, ht]
    refine ⟨splice_lenE _ 64 i _ h1 hi64 (by rw [l32]; decide), fun j hj => ?_⟩
    have lw := wholeL_len H' 64 lh' (l.take k) (fun x hx => ok x (List.mem_of_mem_take hx))
    by_cases h : i = j
    · subst h
      rw [blk_splice_front _ 64 i 32 _ h1 hi64 l32 (by decide), blk_splice_front _ 64 i 64 _ (Nat.le_of_eq lw.symm) hi64 hok.2.2 (Nat.le_refl _)]
      constructor
      · rw [List.take_left' l32, List.take_append_of_le_length (by rw [hok.2.2]; decide)]
      · rw [List.drop_left' l32]
        exact (h2 i hi64).2
    · have a := blk_spliceE (crashTo H l p k) 64 i j 0 ((l.getD k (0, [])).2.take 32) h1 hi64 hj (by rw [l32]; decide) h
      have b := blk_spliceE (wholeL H' (l.take k)) 64 i j 0 (l.getD k (0, [])).2 (Nat.le_of_eq lw.symm) hi64 hj (by rw [hok.2.2]; exact Nat.le_refl 64) h
      rw [Nat.add_zero] at a b
      rw [a, b]
      exact h2 j hj
theorem crash_nil (H : List Int) (l : List (Int × List Int)) : ∀ k, crashTo H l [] k = H
  | 0 => rfl
  | k + 1 => by
    rw [crashTo, crashAt, if_neg (by simp)]
    exact crash_nil H l k
theorem blk_copied (A H : List Int) (la : 64 * 64 ≤ A.length) (lh : 64 * 64 ≤ H.length) (j : Nat) (hj : j < 64) : blkAt (splice A 0 (H.take (64 * 64))) j = blkAt H j := by
  have lt : (H.take (64 * 64)).length = 64 * 64 := by rw [List.length_take]; omega
  rw [← blk_take H 64 j hj]
  unfold splice blkAt
  rw [List.take_zero, List.nil_append]
  apply List.ext_getElem?
  intro q
  rw [List.getElem?_take, List.getElem?_take]
  by_cases hq : q < 64
  · rw [if_pos hq, if_pos hq, List.getElem?_drop, List.getElem?_drop, List.getElem?_append_left (by omega)]
  · rw [if_neg hq, if_neg hq]
/-- what each of the three copies reads in the morning -/
theorem morning {S : Int} {X1 X2 : List Int} {k : Nat} {s t : DS} (p : PI S 8 X1 k s X2) (lh : s.held.length = 64 * 64) (ok : ∀ x ∈ s.btw, 0 ≤ x.1 ∧ x.1 < (64 : Nat) ∧ x.2.length = 64) (sm : Same 64 s t) (la' : 64 * 64 ≤ t.asked.length) (lh' : 64 * 64 ≤ t.held.length) :
    (∀ l : List Int, (∀ k, k < s.btw.length → k < l.length ∧ rd l (k : Int) = 64) → ∀ j, j < 8 → blkAt (t.crashE 64 l).asked j = blkAt X2 j)
    ∧ (∀ j, j < 8 → blkAt (t.crashE 64 []).asked j = blkAt X1 j)
    ∧ (∀ l : List Int, (∀ k, k < s.btw.length → k < l.length ∧ rd l (k : Int) = 1) → ∀ j, j < 8 → (blkAt (t.crashE 64 l).asked j).take 32 = (blkAt X2 j).take 32 ∧ (blkAt (t.crashE 64 l).asked j).drop 32 = (blkAt X1 j).drop 32) := by
  have hs : ∀ j, j < 64 → blkAt t.held j = blkAt s.held j := fun j hj => blk_same sm.held j hj
  have hok : ∀ x ∈ t.btw, 0 ≤ x.1 ∧ x.1 < (64 : Nat) ∧ x.2.length = 64 := by rw [sm.btw]; exact ok
  refine ⟨fun l hl j hj => ?_, fun j hj => ?_, fun l hl j hj => ?_⟩
  · obtain ⟨h1, h2⟩ := crash_whole t.held s.held t.btw l lh' lh hs hok (by rw [sm.btw]; exact hl) t.btw.length (Nat.le_refl _)
    show blkAt (splice t.asked 0 ((crashTo t.held t.btw l t.btw.length).take (64 * 64))) j = _
    rw [blk_copied _ _ la' h1 j (by omega), h2 j (by omega), List.take_length, sm.btw, ← p.rep j (by omega), p.tell j hj]
  · show blkAt (splice t.asked 0 ((crashTo t.held t.btw [] t.btw.length).take (64 * 64))) j = _
    rw [crash_nil, blk_copied _ _ la' lh' j (by omega), hs j (by omega), p.base j hj]
  · obtain ⟨h1, h2⟩ := crash_odd t.held s.held t.btw l lh' lh hs hok (by rw [sm.btw]; exact hl) t.btw.length (Nat.le_refl _)
    obtain ⟨h3, h4⟩ := h2 j (by omega)
    have e : blkAt (t.crashE 64 l).asked j = blkAt (crashTo t.held t.btw l t.btw.length) j := by
      show blkAt (splice t.asked 0 ((crashTo t.held t.btw l t.btw.length).take (64 * 64))) j = _
      exact blk_copied _ _ la' h1 j (by omega)
    rw [e, h3, h4, List.take_length, sm.btw, ← p.rep j (by omega), p.tell j hj, p.base j hj]
    exact ⟨rfl, rfl⟩
end Go.Proofs.Ytlnfdhcpnbhkdaa.GA.E
