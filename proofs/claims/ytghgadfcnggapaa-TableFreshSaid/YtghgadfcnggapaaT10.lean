/- Rows that are written; Add of whatever key. No condition. -/
import Derived.Test.YtghgadfcnggapaaT9
import Derived.Laws.CopyOwn
import Derived.Laws.CopyRow
import Derived.ChangeKeysEq
import Derived.Deep.RegionHeld3
import Derived.Deep.MidRow
import Derived.Shelf.Abstract
import Derived.Lib.Overlaps
import Derived.Lib.AppendZerosOnto
import Derived.Shelf.Spec.SlicesInsertGrow
namespace Go.Proofs.Ytghgadfcnggapaa.GA
open Go.RowKit Go.Shelf Go.Proofs.YtghgadfcnggapaaW.PrintWords Go.Proofs.YtghgadfcnggapaaW.PrintLast Go.Proofs.YtghgadfcnggapaaW.PrintMore
set_option linter.unusedVariables false
set_option linter.unusedSimpArgs false

/-- a row of numbers that may be written -/
def Wr (W : World) (base : Nat) (A : Option Addr) (n : Nat) : Prop := 0 < n → ∃ (g : Nat) (cur : Array Value), A = some ⟨g, 0, none⟩ ∧ base ≤ g ∧ W.heap[g]? = some (.cells cur 3 (0, 0)) ∧ n ≤ cur.size
theorem Wr.of {W : World} {base : Nat} {A : Option Addr} {n c : Nat} {xs : List Int} (h : Kd.R (Kd.int .i64) 3 W base (fun _ => True) (.slice A n c) xs) : Wr W base A n := by
  intro hp
  obtain ⟨_, inner, ho, hr⟩ := h
  obtain ⟨_, ⟨hv, h0⟩ | ⟨g, cap, cur, h1, h2, h3, h4, h5, h6, h7⟩⟩ := ho
  · injection hv with _ hv
    omega
  · injection h1 with e1 e2 e3
    refine ⟨g, cur, e1, h2, h3, ?_⟩
    have : (Kd.int .i64).sz = 1 := rfl
    rw [this] at h6
    omega
theorem Wr.below {W W' : World} {base : Nat} {A : Option Addr} {n : Nat} (h : Wr W base A n) (hb : Below W.heap.size W W') : Wr W' base A n := fun hp => by
  obtain ⟨g, cur, h1, h2, h3, h4⟩ := h hp
  exact ⟨g, cur, h1, h2, blk_below h3 hb, h4⟩
theorem Wr.lower {W : World} {base base' : Nat} {A : Option Addr} {n : Nat} (h : Wr W base A n) (hb : base' ≤ base) : Wr W base' A n := fun hp => by
  obtain ⟨g, cur, h1, h2, h3, h4⟩ := h hp
  exact ⟨g, cur, h1, Nat.le_trans hb h2, h3, h4⟩
theorem Wr.set {W : World} {base : Nat} {A : Option Addr} {n : Nat} (h : Wr W base A n) {g : Nat} {cur : Array Value} (hg : W.heap[g]? = some (.cells cur 3 (0, 0))) (j : Nat) (v : Value) : Wr (W.setCell ⟨g, j, none⟩ v) base A n := fun hp => by
  obtain ⟨g', cur', h1, h2, h3, h4⟩ := h hp
  rw [setCell_eq_setRow W g j cur 3 (0, 0) v hg]
  by_cases e : g' = g
  · subst e
    rw [h3] at hg
    injection hg with hg
    injection hg with hg
    subst hg
    exact ⟨g', _, h1, h2, setRow_heap W g' cur' _ 3 (0, 0) h3, by rw [Array.size_setIfInBounds]; exact h4⟩
  · exact ⟨g', cur', h1, h2, (setRow_other W g g' _ e).trans h3, h4⟩
theorem Wr.frame {W0 W : World} {base : Nat} (hb : Below base W0 W) {g : Nat} {cur : Array Value} (hg : W.heap[g]? = some (.cells cur 3 (0, 0))) (hB : base ≤ g) (j : Nat) (v : Value) : Below base W0 (W.setCell ⟨g, j, none⟩ v) := by
  rw [setCell_eq_setRow W g j cur 3 (0, 0) v hg]
  exact below_setRow hb hB _
theorem Ints.same (xs : List Int) (hl : xs.length ≤ 1000000) : ∀ d j : Nat, d + j = xs.length → cohortref00_Ints.l0 (d + 1) xs xs (j : Int) = some true
  | 0, j, h => by
    rw [cohortref00_Ints.l0, if_neg (by omega)]
  | d + 1, j, h => by
    rw [cohortref00_Ints.l0, if_pos (by omega), if_pos (by omega), if_pos (by omega), if_pos rfl, show wrap64 ((j : Int) + 1) = ((j + 1 : Nat) : Int) by unfold wrap64; omega]
    exact Ints.same xs hl d (j + 1) (by omega)
theorem Ints.refl_ (xs : List Int) (hl : xs.length ≤ 1000000) : cohortref00_Ints.f (xs.length + 1) xs xs = some true := by
  unfold cohortref00_Ints.f
  rw [if_pos rfl]
  exact Ints.same xs hl xs.length 0 (by omega)

/-- whatever the key: the table goes on, by one thing at most -/
theorem Add.any (gt B : Nat) (v : Value) (xs : List S64) (k : Int) (w : World) (hT : Tab w gt 40 B v xs) (hl : xs.length < 40) : Calls Try.prog 15 #[.pointer (some ⟨gt, 0, none⟩), .int .i64 k, .string ⟨#[120]⟩] w fun e w' => ∃ r v' xs', e = .returned (.int .i64 r) ∧ Tab w' gt 40 B v' xs' ∧ xs'.length ≤ xs.length + 1 ∧ Below B w w' ∧ w.heap.size ≤ w'.heap.size := by
  cases hk : hit xs k with
  | true =>
    refine (Add.twice gt 40 B v xs k ⟨#[120]⟩ w hT hk).mono ?_
    rintro e w' ⟨rfl, hb⟩
    exact ⟨_, v, xs, rfl, hT.below hb, Nat.le_succ _, hb.mono hT.base, hb.size⟩
  | false =>
    refine (Add.ok gt 40 B v xs k ⟨#[120]⟩ w hT hk (by omega)).mono ?_
    rintro e w' ⟨v', rfl, ht, hb, hf, hs⟩
    exact ⟨_, v', _, rfl, ht, Nat.le_of_eq (ins_len xs _ _ (ix_le xs k)), hb, hs⟩

end Go.Proofs.Ytghgadfcnggapaa.GA
