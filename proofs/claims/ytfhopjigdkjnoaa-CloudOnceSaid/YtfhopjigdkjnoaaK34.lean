/- CloudOnce, walked. No condition. -/
import Derived.Test.YtfhopjigdkjnoaaK33
import Derived.Laws.CopyOwn
import Derived.Laws.CopyRow
import Derived.ChangeKeysEq
import Derived.Deep.RegionHeld3
import Derived.Deep.MidRow
import Derived.Shelf.Abstract
import Derived.Maps.OwnSet
import Derived.Maps.AppendAt
import Derived.WalkSpells
import Derived.Deep.DeepCutAuto
import Derived.Deep.LoopGhost
namespace Go.Proofs.Ytfhopjigdkjnoaa.GA
open Go.RowKit Go.Shelf Go.Proofs.YtfhopjigdkjnoaaW.PrintWords Go.Proofs.YtfhopjigdkjnoaaW.PrintLast Go.Proofs.YtfhopjigdkjnoaaW.PrintMore
set_option linter.unusedVariables false
set_option linter.unusedSimpArgs false

theorem Post.take {w w' : World} {gc mb B : Nat} {vl vw : Value} {s : CS} (h : Post w w' gc mb B vl vw s) : ∃ vl' vw', Cl w' gc mb B vl' vw' s ∧ Nw w vl vl' ∧ Nw w vw vw' ∧ Below B w w' ∧ Fr w w' gc mb vl vw := h
theorem wrap_k {k : Nat} (h : k < 1000000) : wrap64 ((k : Int) + 1) = (k : Int) + 1 := wrap_ok (by omega) (by omega)
theorem wrap_k2 {k : Nat} (h : k < 1000000) : IntKind.u64.wrap ((k : Int) + 1) = (k : Int) + 1 := wrap_u _ (by omega) (by omega)
theorem was_reads {w : World} {B n c : Nat} {A : Option Addr} {vl : Value} {L : List S50} (h : Was w B (.slice A n c) L vl) : Kd.C k50 w A L.length L := by
  obtain ⟨A', c', e, _, hK⟩ := h.slice
  injection e with e1 e2 e3
  subst e1
  exact hK
def cnt (L : List S50) (k : Nat) : Int := ((told (L.take k)).length : Int)
theorem cnt_all (L : List S50) : cnt L L.length = ((told L).length : Int) := by unfold cnt; rw [List.take_length]
theorem cnt_le (L : List S50) (k : Nat) : cnt L k ≤ (k : Int) := by have := told_le L k; unfold cnt; omega
theorem cnt_nonneg (L : List S50) (k : Nat) : 0 ≤ cnt L k := by unfold cnt; omega
theorem cnt_step (L : List S50) (k : Nat) (hk : k < L.length) : cnt L (k + 1) = if (at50 L k).f3 = 4 then cnt L k else cnt L k + 1 := by
  unfold cnt
  rw [told_snoc L k hk, rd50]
  split
  · rfl
  · rw [List.length_append]; simp
theorem wtok_ne {s : CS} (h : Ok s) {m k : Nat} (hm : m < k) (hk : k < s.W.length) : (at27 s.W m).f1 ≠ (at27 s.W k).f1 := by
  have h1 := List.pairwise_iff_getElem.1 h.wtok m k (by rw [List.length_map]; omega) (by rw [List.length_map]; omega) hm
  rw [List.getElem_map, List.getElem_map] at h1
  rw [at27_eq (by omega), at27_eq hk]
  exact h1
def CloudOnce.T16 : Bool × List (List Nat × List Nat) := (true, [([], []), ([], []), ([0, 1], [0, 1]), ([2], [2]), ([3], [3]), ([], []), ([5], [5]), ([6], [6]), ([4, 7], [4, 7]), ([8], [8]), ([9], [9]), ([9], [9]), ([11, 9], [9, 11]), ([10, 12, 9], [9, 10, 12]), ([13, 9, 9], [9, 13]), ([14], [14]), ([14], [14]), ([15, 16, 14], [14, 15, 16]), ([17, 14], [14, 17]), ([18, 14], [14, 18]), ([14], [14]), ([14], [14]), ([20, 21, 14], [14, 20, 21]), ([22, 14], [14, 22]), ([23, 14], [14, 23]), ([19, 24, 14], [14, 19, 24]), ([25, 14, 14], [14, 25]), ([26], [26]), ([26], [26]), ([27, 28, 26], [26, 27, 28]), ([29, 26], [26, 29]), ([30, 26], [26, 30]), ([26], [26]), ([26], [26]), ([32, 33, 26], [26, 32, 33]), ([34, 26], [26, 34]), ([35, 26], [26, 35]), ([31, 36, 26], [26, 31, 36]), ([26, 37, 14], [14, 26, 37]), ([38, 26, 14], [14, 38]), ([39], [39]), ([39], [39]), ([40, 41, 39], [39, 40, 41]), ([42, 39], [39, 42]), ([43, 39], [39, 43]), ([44, 39], [39, 44]), ([45, 39, 39], [39, 45]), ([46], [46]), ([46], [46]), ([47, 48, 46], [46, 47, 48]), ([49, 46], [46, 49]), ([46], [46]), ([46], [46]), ([51, 52, 46], [46, 51, 52]), ([53, 46], [46, 53]), ([50, 54, 46], [46, 50, 54]), ([46, 55, 39], [39, 46, 55]), ([39, 56, 14], [14, 39, 56]), ([14, 57, 9], [9, 14, 57]), ([9, 58], [9, 58])])
def CloudOnce.B16 : List Nat := [0, 0, 3, 7, 15, 0, 32, 96, 255, 511, 1023, 1023, 3071, 8191, 16383, 32767, 32767, 131071, 262143, 524287, 32767, 32767, 3178495, 7372799, 15761407, 33554431, 67108863, 134217727, 134217727, 536870911, 1073741823, 2147483647, 134217727, 134217727, 13019119615, 30198988799, 64558727167, 137438953471, 274877906943, 549755813887, 1099511627775, 1099511627775, 4398046511103, 8796093022207, 17592186044415, 35184372088831, 70368744177663, 140737488355327, 140737488355327, 562949953421311, 1125899906842623, 140737488355327, 140737488355327, 6896136929411071, 15903336184152063, 36028797018963967, 72057594037927935, 144115188075855871, 288230376151711743, 576460752303423487]
theorem CloudOnce.tab16 : rtab .any (opsOf Try.f4 16) = CloudOnce.T16 := by kernel_rfl
theorem CloudOnce.bits16 : waitsOk CloudOnce.T16.2 CloudOnce.B16 = true := by kernel_rfl
def CloudOnce.T21 : Bool × List (List Nat × List Nat) := (true, [([], []), ([], []), ([0, 1], [0, 1]), ([2], [2]), ([3], [3]), ([], []), ([], []), ([5, 6], [5, 6]), ([7], [7]), ([8], [8]), ([4, 9], [4, 9])])
def CloudOnce.B21 : List Nat := [0, 0, 3, 7, 15, 0, 0, 96, 224, 480, 1023]
theorem CloudOnce.tab21 : rtab .any (opsOf Try.f4 21) = CloudOnce.T21 := by kernel_rfl
theorem CloudOnce.bits21 : waitsOk CloudOnce.T21.2 CloudOnce.B21 = true := by kernel_rfl
def CloudOnce.T34 : Bool × List (List Nat × List Nat) := (true, [([], []), ([], []), ([0, 1], [0, 1]), ([2], [2]), ([3], [3]), ([], []), ([], []), ([5, 6], [5, 6]), ([7], [7]), ([8], [8]), ([4, 9], [4, 9])])
def CloudOnce.B34 : List Nat := [0, 0, 3, 7, 15, 0, 0, 96, 224, 480, 1023]
theorem CloudOnce.tab34 : rtab .any (opsOf Try.f4 34) = CloudOnce.T34 := by kernel_rfl
theorem CloudOnce.bits34 : waitsOk CloudOnce.T34.2 CloudOnce.B34 = true := by kernel_rfl
def q0 : Array Bool := #[false, false, false, false, false, false, false, false, false, false, false, false, false, false, false, false, false, false, false, false, false, false, false, false, false, false, false, false, false, false, false, false, false, false, false, false, false, false, false, false, false, false, false, false, false, false, false, false, false, false, false, false, false, false, false, false, false, false, false, false]
def q1 : Array Bool := #[true, false, false, false, false, false, false, false, false, false, false, false, false, false, false, false, false, false, false, false, false, false, false, false, false, false, false, false, false, false, false, false, false, false, false, false, false, false, false, false, false, false, false, false, false, false, false, false, false, false, false, false, false, false, false, false, false, false, false, false]
def q2 : Array Bool := #[true, true, false, false, false, false, false, false, false, false, false, false, false, false, false, false, false, false, false, false, false, false, false, false, false, false, false, false, false, false, false, false, false, false, false, false, false, false, false, false, false, false, false, false, false, false, false, false, false, false, false, false, false, false, false, false, false, false, false, false]
def q3 : Array Bool := #[true, true, true, false, false, false, false, false, false, false, false, false, false, false, false, false, false, false, false, false, false, false, false, false, false, false, false, false, false, false, false, false, false, false, false, false, false, false, false, false, false, false, false, false, false, false, false, false, false, false, false, false, false, false, false, false, false, false, false, false]
def q4 : Array Bool := #[true, true, true, true, false, false, false, false, false, false, false, false, false, false, false, false, false, false, false, false, false, false, false, false, false, false, false, false, false, false, false, false, false, false, false, false, false, false, false, false, false, false, false, false, false, false, false, false, false, false, false, false, false, false, false, false, false, false, false, false]
def q5 : Array Bool := #[true, true, true, true, false, true, false, false, false, false, false, false, false, false, false, false, false, false, false, false, false, false, false, false, false, false, false, false, false, false, false, false, false, false, false, false, false, false, false, false, false, false, false, false, false, false, false, false, false, false, false, false, false, false, false, false, false, false, false, false]
def q6 : Array Bool := #[true, true, true, true, false, true, true, false, false, false, false, false, false, false, false, false, false, false, false, false, false, false, false, false, false, false, false, false, false, false, false, false, false, false, false, false, false, false, false, false, false, false, false, false, false, false, false, false, false, false, false, false, false, false, false, false, false, false, false, false]
def q7 : Array Bool := #[true, true, true, true, false, true, true, true, false, false, false, false, false, false, false, false, false, false, false, false, false, false, false, false, false, false, false, false, false, false, false, false, false, false, false, false, false, false, false, false, false, false, false, false, false, false, false, false, false, false, false, false, false, false, false, false, false, false, false, false]
def q8 : Array Bool := #[true, true, true, true, true, true, true, true, false, false, false, false, false, false, false, false, false, false, false, false, false, false, false, false, false, false, false, false, false, false, false, false, false, false, false, false, false, false, false, false, false, false, false, false, false, false, false, false, false, false, false, false, false, false, false, false, false, false, false, false]
def q9 : Array Bool := #[true, true, true, true, true, true, true, true, true, false, false, false, false, false, false, false, false, false, false, false, false, false, false, false, false, false, false, false, false, false, false, false, false, false, false, false, false, false, false, false, false, false, false, false, false, false, false, false, false, false, false, false, false, false, false, false, false, false, false, false]
def q10 : Array Bool := #[true, true, true, true, true, true, true, true, true, true, false, false, false, false, false, false, false, false, false, false, false, false, false, false, false, false, false, false, false, false, false, false, false, false, false, false, false, false, false, false, false, false, false, false, false, false, false, false, false, false, false, false, false, false, false, false, false, false, false, false]
def q11 : Array Bool := #[true, true, true, true, true, true, true, true, true, true, true, false, false, false, false, false, false, false, false, false, false, false, false, false, false, false, false, false, false, false, false, false, false, false, false, false, false, false, false, false, false, false, false, false, false, false, false, false, false, false, false, false, false, false, false, false, false, false, false, false]
def q12 : Array Bool := #[true, true, true, true, true, true, true, true, true, true, true, true, false, false, false, false, false, false, false, false, false, false, false, false, false, false, false, false, false, false, false, false, false, false, false, false, false, false, false, false, false, false, false, false, false, false, false, false, false, false, false, false, false, false, false, false, false, false, false, false]
def q13 : Array Bool := #[true, true, true, true, true, true, true, true, true, true, true, true, true, false, false, false, false, false, false, false, false, false, false, false, false, false, false, false, false, false, false, false, false, false, false, false, false, false, false, false, false, false, false, false, false, false, false, false, false, false, false, false, false, false, false, false, false, false, false, false]
def q14 : Array Bool := #[true, true, true, true, true, true, true, true, true, true, true, true, true, true, false, false, false, false, false, false, false, false, false, false, false, false, false, false, false, false, false, false, false, false, false, false, false, false, false, false, false, false, false, false, false, false, false, false, false, false, false, false, false, false, false, false, false, false, false, false]
def q15 : Array Bool := #[true, true, true, true, true, true, true, true, true, true, true, true, true, true, true, false, false, false, false, false, false, false, false, false, false, false, false, false, false, false, false, false, false, false, false, false, false, false, false, false, false, false, false, false, false, false, false, false, false, false, false, false, false, false, false, false, false, false, false, false]
def q16 : Array Bool := #[true, true, true, true, true, true, true, true, true, true, true, true, true, true, true, true, false, false, false, false, false, false, false, false, false, false, false, false, false, false, false, false, false, false, false, false, false, false, false, false, false, false, false, false, false, false, false, false, false, false, false, false, false, false, false, false, false, false, false, false]
def q17 : Array Bool := #[true, true, true, true, true, true, true, true, true, true, true, true, true, true, true, true, true, false, false, false, false, false, false, false, false, false, false, false, false, false, false, false, false, false, false, false, false, false, false, false, false, false, false, false, false, false, false, false, false, false, false, false, false, false, false, false, false, false, false, false]
def q18 : Array Bool := #[true, true, true, true, true, true, true, true, true, true, true, true, true, true, true, true, true, true, false, false, false, false, false, false, false, false, false, false, false, false, false, false, false, false, false, false, false, false, false, false, false, false, false, false, false, false, false, false, false, false, false, false, false, false, false, false, false, false, false, false]
def q19 : Array Bool := #[true, true, true, true, true, true, true, true, true, true, true, true, true, true, true, true, true, true, true, false, false, false, false, false, false, false, false, false, false, false, false, false, false, false, false, false, false, false, false, false, false, false, false, false, false, false, false, false, false, false, false, false, false, false, false, false, false, false, false, false]
def q20 : Array Bool := #[true, true, true, true, true, true, true, true, true, true, true, true, true, true, true, true, true, true, true, false, true, false, false, false, false, false, false, false, false, false, false, false, false, false, false, false, false, false, false, false, false, false, false, false, false, false, false, false, false, false, false, false, false, false, false, false, false, false, false, false]
def q21 : Array Bool := #[true, true, true, true, true, true, true, true, true, true, true, true, true, true, true, true, true, true, true, false, true, true, false, false, false, false, false, false, false, false, false, false, false, false, false, false, false, false, false, false, false, false, false, false, false, false, false, false, false, false, false, false, false, false, false, false, false, false, false, false]
def q22 : Array Bool := #[true, true, true, true, true, true, true, true, true, true, true, true, true, true, true, true, true, true, true, false, true, true, true, false, false, false, false, false, false, false, false, false, false, false, false, false, false, false, false, false, false, false, false, false, false, false, false, false, false, false, false, false, false, false, false, false, false, false, false, false]
def q23 : Array Bool := #[true, true, true, true, true, true, true, true, true, true, true, true, true, true, true, true, true, true, true, false, true, true, true, true, false, false, false, false, false, false, false, false, false, false, false, false, false, false, false, false, false, false, false, false, false, false, false, false, false, false, false, false, false, false, false, false, false, false, false, false]
def q24 : Array Bool := #[true, true, true, true, true, true, true, true, true, true, true, true, true, true, true, true, true, true, true, true, true, true, true, true, false, false, false, false, false, false, false, false, false, false, false, false, false, false, false, false, false, false, false, false, false, false, false, false, false, false, false, false, false, false, false, false, false, false, false, false]
def q25 : Array Bool := #[true, true, true, true, true, true, true, true, true, true, true, true, true, true, true, true, true, true, true, true, true, true, true, true, true, false, false, false, false, false, false, false, false, false, false, false, false, false, false, false, false, false, false, false, false, false, false, false, false, false, false, false, false, false, false, false, false, false, false, false]
def q26 : Array Bool := #[true, true, true, true, true, true, true, true, true, true, true, true, true, true, true, true, true, true, true, true, true, true, true, true, true, true, false, false, false, false, false, false, false, false, false, false, false, false, false, false, false, false, false, false, false, false, false, false, false, false, false, false, false, false, false, false, false, false, false, false]
def q27 : Array Bool := #[true, true, true, true, true, true, true, true, true, true, true, true, true, true, true, true, true, true, true, true, true, true, true, true, true, true, true, false, false, false, false, false, false, false, false, false, false, false, false, false, false, false, false, false, false, false, false, false, false, false, false, false, false, false, false, false, false, false, false, false]
def q28 : Array Bool := #[true, true, true, true, true, true, true, true, true, true, true, true, true, true, true, true, true, true, true, true, true, true, true, true, true, true, true, true, false, false, false, false, false, false, false, false, false, false, false, false, false, false, false, false, false, false, false, false, false, false, false, false, false, false, false, false, false, false, false, false]
def q29 : Array Bool := #[true, true, true, true, true, true, true, true, true, true, true, true, true, true, true, true, true, true, true, true, true, true, true, true, true, true, true, true, true, false, false, false, false, false, false, false, false, false, false, false, false, false, false, false, false, false, false, false, false, false, false, false, false, false, false, false, false, false, false, false]
def q30 : Array Bool := #[true, true, true, true, true, true, true, true, true, true, true, true, true, true, true, true, true, true, true, true, true, true, true, true, true, true, true, true, true, true, false, false, false, false, false, false, false, false, false, false, false, false, false, false, false, false, false, false, false, false, false, false, false, false, false, false, false, false, false, false]
def q31 : Array Bool := #[true, true, true, true, true, true, true, true, true, true, true, true, true, true, true, true, true, true, true, true, true, true, true, true, true, true, true, true, true, true, true, false, false, false, false, false, false, false, false, false, false, false, false, false, false, false, false, false, false, false, false, false, false, false, false, false, false, false, false, false]
def q32 : Array Bool := #[true, true, true, true, true, true, true, true, true, true, true, true, true, true, true, true, true, true, true, true, true, true, true, true, true, true, true, true, true, true, true, false, true, false, false, false, false, false, false, false, false, false, false, false, false, false, false, false, false, false, false, false, false, false, false, false, false, false, false, false]
def q33 : Array Bool := #[true, true, true, true, true, true, true, true, true, true, true, true, true, true, true, true, true, true, true, true, true, true, true, true, true, true, true, true, true, true, true, false, true, true, false, false, false, false, false, false, false, false, false, false, false, false, false, false, false, false, false, false, false, false, false, false, false, false, false, false]
def q34 : Array Bool := #[true, true, true, true, true, true, true, true, true, true, true, true, true, true, true, true, true, true, true, true, true, true, true, true, true, true, true, true, true, true, true, false, true, true, true, false, false, false, false, false, false, false, false, false, false, false, false, false, false, false, false, false, false, false, false, false, false, false, false, false]
def q35 : Array Bool := #[true, true, true, true, true, true, true, true, true, true, true, true, true, true, true, true, true, true, true, true, true, true, true, true, true, true, true, true, true, true, true, false, true, true, true, true, false, false, false, false, false, false, false, false, false, false, false, false, false, false, false, false, false, false, false, false, false, false, false, false]
def q36 : Array Bool := #[true, true, true, true, true, true, true, true, true, true, true, true, true, true, true, true, true, true, true, true, true, true, true, true, true, true, true, true, true, true, true, true, true, true, true, true, false, false, false, false, false, false, false, false, false, false, false, false, false, false, false, false, false, false, false, false, false, false, false, false]
def q37 : Array Bool := #[true, true, true, true, true, true, true, true, true, true, true, true, true, true, true, true, true, true, true, true, true, true, true, true, true, true, true, true, true, true, true, true, true, true, true, true, true, false, false, false, false, false, false, false, false, false, false, false, false, false, false, false, false, false, false, false, false, false, false, false]
def q38 : Array Bool := #[true, true, true, true, true, true, true, true, true, true, true, true, true, true, true, true, true, true, true, true, true, true, true, true, true, true, true, true, true, true, true, true, true, true, true, true, true, true, false, false, false, false, false, false, false, false, false, false, false, false, false, false, false, false, false, false, false, false, false, false]
def q39 : Array Bool := #[true, true, true, true, true, true, true, true, true, true, true, true, true, true, true, true, true, true, true, true, true, true, true, true, true, true, true, true, true, true, true, true, true, true, true, true, true, true, true, false, false, false, false, false, false, false, false, false, false, false, false, false, false, false, false, false, false, false, false, false]
def q40 : Array Bool := #[true, true, true, true, true, true, true, true, true, true, true, true, true, true, true, true, true, true, true, true, true, true, true, true, true, true, true, true, true, true, true, true, true, true, true, true, true, true, true, true, false, false, false, false, false, false, false, false, false, false, false, false, false, false, false, false, false, false, false, false]
def q41 : Array Bool := #[true, true, true, true, true, true, true, true, true, true, true, true, true, true, true, true, true, true, true, true, true, true, true, true, true, true, true, true, true, true, true, true, true, true, true, true, true, true, true, true, true, false, false, false, false, false, false, false, false, false, false, false, false, false, false, false, false, false, false, false]
def q42 : Array Bool := #[true, true, true, true, true, true, true, true, true, true, true, true, true, true, true, true, true, true, true, true, true, true, true, true, true, true, true, true, true, true, true, true, true, true, true, true, true, true, true, true, true, true, false, false, false, false, false, false, false, false, false, false, false, false, false, false, false, false, false, false]
def q43 : Array Bool := #[true, true, true, true, true, true, true, true, true, true, true, true, true, true, true, true, true, true, true, true, true, true, true, true, true, true, true, true, true, true, true, true, true, true, true, true, true, true, true, true, true, true, true, false, false, false, false, false, false, false, false, false, false, false, false, false, false, false, false, false]
def q44 : Array Bool := #[true, true, true, true, true, true, true, true, true, true, true, true, true, true, true, true, true, true, true, true, true, true, true, true, true, true, true, true, true, true, true, true, true, true, true, true, true, true, true, true, true, true, true, true, false, false, false, false, false, false, false, false, false, false, false, false, false, false, false, false]
def q45 : Array Bool := #[true, true, true, true, true, true, true, true, true, true, true, true, true, true, true, true, true, true, true, true, true, true, true, true, true, true, true, true, true, true, true, true, true, true, true, true, true, true, true, true, true, true, true, true, true, false, false, false, false, false, false, false, false, false, false, false, false, false, false, false]
def q46 : Array Bool := #[true, true, true, true, true, true, true, true, true, true, true, true, true, true, true, true, true, true, true, true, true, true, true, true, true, true, true, true, true, true, true, true, true, true, true, true, true, true, true, true, true, true, true, true, true, true, false, false, false, false, false, false, false, false, false, false, false, false, false, false]
def q47 : Array Bool := #[true, true, true, true, true, true, true, true, true, true, true, true, true, true, true, true, true, true, true, true, true, true, true, true, true, true, true, true, true, true, true, true, true, true, true, true, true, true, true, true, true, true, true, true, true, true, true, false, false, false, false, false, false, false, false, false, false, false, false, false]
def q48 : Array Bool := #[true, true, true, true, true, true, true, true, true, true, true, true, true, true, true, true, true, true, true, true, true, true, true, true, true, true, true, true, true, true, true, true, true, true, true, true, true, true, true, true, true, true, true, true, true, true, true, true, false, false, false, false, false, false, false, false, false, false, false, false]
def q49 : Array Bool := #[true, true, true, true, true, true, true, true, true, true, true, true, true, true, true, true, true, true, true, true, true, true, true, true, true, true, true, true, true, true, true, true, true, true, true, true, true, true, true, true, true, true, true, true, true, true, true, true, true, false, false, false, false, false, false, false, false, false, false, false]
def q50 : Array Bool := #[true, true, true, true, true, true, true, true, true, true, true, true, true, true, true, true, true, true, true, true, true, true, true, true, true, true, true, true, true, true, true, true, true, true, true, true, true, true, true, true, true, true, true, true, true, true, true, true, true, true, false, false, false, false, false, false, false, false, false, false]
def q51 : Array Bool := #[true, true, true, true, true, true, true, true, true, true, true, true, true, true, true, true, true, true, true, true, true, true, true, true, true, true, true, true, true, true, true, true, true, true, true, true, true, true, true, true, true, true, true, true, true, true, true, true, true, true, false, true, false, false, false, false, false, false, false, false]
def q52 : Array Bool := #[true, true, true, true, true, true, true, true, true, true, true, true, true, true, true, true, true, true, true, true, true, true, true, true, true, true, true, true, true, true, true, true, true, true, true, true, true, true, true, true, true, true, true, true, true, true, true, true, true, true, false, true, true, false, false, false, false, false, false, false]
def q53 : Array Bool := #[true, true, true, true, true, true, true, true, true, true, true, true, true, true, true, true, true, true, true, true, true, true, true, true, true, true, true, true, true, true, true, true, true, true, true, true, true, true, true, true, true, true, true, true, true, true, true, true, true, true, false, true, true, true, false, false, false, false, false, false]
def q54 : Array Bool := #[true, true, true, true, true, true, true, true, true, true, true, true, true, true, true, true, true, true, true, true, true, true, true, true, true, true, true, true, true, true, true, true, true, true, true, true, true, true, true, true, true, true, true, true, true, true, true, true, true, true, true, true, true, true, false, false, false, false, false, false]
def q55 : Array Bool := #[true, true, true, true, true, true, true, true, true, true, true, true, true, true, true, true, true, true, true, true, true, true, true, true, true, true, true, true, true, true, true, true, true, true, true, true, true, true, true, true, true, true, true, true, true, true, true, true, true, true, true, true, true, true, true, false, false, false, false, false]
def q56 : Array Bool := #[true, true, true, true, true, true, true, true, true, true, true, true, true, true, true, true, true, true, true, true, true, true, true, true, true, true, true, true, true, true, true, true, true, true, true, true, true, true, true, true, true, true, true, true, true, true, true, true, true, true, true, true, true, true, true, true, false, false, false, false]
def q57 : Array Bool := #[true, true, true, true, true, true, true, true, true, true, true, true, true, true, true, true, true, true, true, true, true, true, true, true, true, true, true, true, true, true, true, true, true, true, true, true, true, true, true, true, true, true, true, true, true, true, true, true, true, true, true, true, true, true, true, true, true, false, false, false]
def q58 : Array Bool := #[true, true, true, true, true, true, true, true, true, true, true, true, true, true, true, true, true, true, true, true, true, true, true, true, true, true, true, true, true, true, true, true, true, true, true, true, true, true, true, true, true, true, true, true, true, true, true, true, true, true, true, true, true, true, true, true, true, true, false, false]
def q59 : Array Bool := #[true, true, true, true, true, true, true, true, true, true, true, true, true, true, true, true, true, true, true, true, true, true, true, true, true, true, true, true, true, true, true, true, true, true, true, true, true, true, true, true, true, true, true, true, true, true, true, true, true, true, true, true, true, true, true, true, true, true, true, false]
def q60 : Array Bool := #[true, true, true, true, true, true, true, true, true, true, true, true, true, true, true, true, true, true, true, true, true, true, true, true, true, true, true, true, true, true, true, true, true, true, true, true, true, true, true, true, true, true, true, true, true, true, true, true, true, true, true, true, true, true, true, true, true, true, true, true]
def q61 : Array Bool := #[true, true, true, true, true, true, true, true, true, true, true, true, true, true, true, true, true, true, true, true, true, true, true, true, true, true, true, true, true, true, true, true, true, true, true, true, true, true, true, true, true, true, true, true, true, true, true, true, true, true, true, false, false, false, false, false, false, false, false, false]
def q62 : Array Bool := #[true, true, true, true, true, true, true, true, true, true, true, true, true, true, true, true, true, true, true, true, true, true, true, true, true, true, true, true, true, true, true, true, true, true, true, true, true, true, true, true, true, true, true, true, true, true, true, true, true, true, true, true, false, false, false, false, false, false, false, false]
def q63 : Array Bool := #[true, true, true, true, true, true, true, true, true, true, true, true, true, true, true, true, true, true, true, true, true, true, true, true, true, true, true, true, true, true, true, true, true, true, true, true, true, true, true, true, true, true, true, true, true, true, true, true, true, true, true, true, true, false, false, false, false, false, false, false]
def q64 : Array Bool := #[true, true, true, true, true, true, true, true, true, true, true, true, true, true, true, true, true, true, true, true, false, false, false, false, false, false, false, false, false, false, false, false, false, false, false, false, false, false, false, false, false, false, false, false, false, false, false, false, false, false, false, false, false, false, false, false, false, false, false, false]
def q65 : Array Bool := #[true, true, true, true, true, true, true, true, true, true, true, true, true, true, true, true, true, true, true, true, true, false, false, false, false, false, false, false, false, false, false, false, false, false, false, false, false, false, false, false, false, false, false, false, false, false, false, false, false, false, false, false, false, false, false, false, false, false, false, false]
def q66 : Array Bool := #[true, true, true, true, true, true, true, true, true, true, true, true, true, true, true, true, true, true, true, true, true, true, false, false, false, false, false, false, false, false, false, false, false, false, false, false, false, false, false, false, false, false, false, false, false, false, false, false, false, false, false, false, false, false, false, false, false, false, false, false]
def q67 : Array Bool := #[true, true, true, true, true, true, true, true, true, true, true, true, true, true, true, true, true, true, true, true, true, true, true, false, false, false, false, false, false, false, false, false, false, false, false, false, false, false, false, false, false, false, false, false, false, false, false, false, false, false, false, false, false, false, false, false, false, false, false, false]
def q68 : Array Bool := #[true, true, true, true, true, true, true, true, true, true, true, true, true, true, true, true, true, true, true, true, true, true, true, true, true, true, true, true, true, true, true, true, false, false, false, false, false, false, false, false, false, false, false, false, false, false, false, false, false, false, false, false, false, false, false, false, false, false, false, false]
def q69 : Array Bool := #[true, true, true, true, true, true, true, true, true, true, true, true, true, true, true, true, true, true, true, true, true, true, true, true, true, true, true, true, true, true, true, true, true, false, false, false, false, false, false, false, false, false, false, false, false, false, false, false, false, false, false, false, false, false, false, false, false, false, false, false]
def q70 : Array Bool := #[true, true, true, true, true, true, true, true, true, true, true, true, true, true, true, true, true, true, true, true, true, true, true, true, true, true, true, true, true, true, true, true, true, true, false, false, false, false, false, false, false, false, false, false, false, false, false, false, false, false, false, false, false, false, false, false, false, false, false, false]
def q71 : Array Bool := #[true, true, true, true, true, true, true, true, true, true, true, true, true, true, true, true, true, true, true, true, true, true, true, true, true, true, true, true, true, true, true, true, true, true, true, false, false, false, false, false, false, false, false, false, false, false, false, false, false, false, false, false, false, false, false, false, false, false, false, false]
def q72 : Array Bool := #[false, false, false, false, false, false, false, false, false, false, false]
def q73 : Array Bool := #[true, false, false, false, false, false, false, false, false, false, false]
def q74 : Array Bool := #[true, true, false, false, false, false, false, false, false, false, false]
def q75 : Array Bool := #[true, true, true, false, false, false, false, false, false, false, false]
def q76 : Array Bool := #[true, true, true, true, false, false, false, false, false, false, false]
def q77 : Array Bool := #[true, true, true, true, false, true, false, false, false, false, false]
def q78 : Array Bool := #[true, true, true, true, false, true, true, false, false, false, false]
def q79 : Array Bool := #[true, true, true, true, false, true, true, true, false, false, false]
def q80 : Array Bool := #[true, true, true, true, false, true, true, true, true, false, false]
def q81 : Array Bool := #[true, true, true, true, true, true, true, true, true, false, false]
def q82 : Array Bool := #[true, true, true, true, true, true, true, true, true, true, false]
def q83 : Array Bool := #[true, true, true, true, true, true, true, true, true, true, true]
set_option maxHeartbeats 8000000 in
set_option maxRecDepth 100000 in
theorem CloudOnce.calls (A : Option Addr) (c : Nat) (l : List S34) (w : World) (hr : Kd.C k34 w A l.length l) (hc : l.length ≤ c) (hl : ∀ d ∈ l, deedOk d) : Calls Try.prog 4 #[.slice A l.length c] w fun e w' => e = .returned (.bool true) ∧ Below w.heap.size w w' := by
  have HL := Aside0.mk hr
  have HD : Aside0 (∀ d ∈ l, deedOk d) := ⟨hl⟩
  clear hr hl
  go_enter Try.func4, Try.ntmps4
  go_upto_region 2 with (go_at_call 6; with_reducible refine (New.calls _).mono ?_; rintro e w1 ⟨gc, mb, rfl, h1, h2⟩; have HC := Aside0.mk h1; have HB := Aside0.mk h2; clear h1 h2)
  go_wp2
  go_loopg [4, 5] l.length (fun kq v4 v5 w' => ∃ i : Nat, i + kq = l.length ∧ i ≤ 80 ∧ v5 = .int .i64 i ∧ ∃ vl vw, Aside0 (Cl w' gc mb w.heap.size vl vw (runS emp (l.take i))) ∧ Aside0 (Was w' w.heap.size v4 (runS emp (l.take i)).L vl) ∧ Aside0 (Below w.heap.size w w'))
  case atStart => exact ⟨0, by omega, by omega, rfl, _, _, HC, ⟨Was.nil_ _ _ _⟩, HB⟩
  case round =>
    clear HB HC
    obtain ⟨i, hi, h80, rfl, vl, vw, HC, HW, HB⟩ := hrel
    by_cases hlt : i < l.length
    · have d1 : decide ((i : Int) < (l.length : Int)) = true := decide_eq_true (by omega)
      by_cases h8 : i < 80
      · have d2 : decide ((i : Int) < 80) = true := decide_eq_true (by omega)
        have i1 : (0 : Int) ≤ (i : Int) := by omega
        have i2 : (i : Int) < (l.length : Int) := by omega
        obtain ⟨ad, e, x0, x1, x2, x3, x4, x5, x6, x7, x8, x9, x10⟩ := at_T34 (Kd.C_below HL.out HB.out) (i : Int) (by omega) (by omega)
        cases e
        simp only [Int.toNat_natCast] at x0 x1 x2 x3 x4 x5 x6 x7 x8 x9 x10
        obtain ⟨hk0, hst, hk1, hL, hW⟩ := once_step HD.out hlt
        have HT := Aside0.mk (runS_snoc emp l i hlt)
        have HD1 := Aside0.mk (deed_at HD.out hlt)
        obtain ⟨dd, hdd⟩ : ∃ dd, dd = rd_T34 l (i : Int) := ⟨_, rfl⟩
        obtain ⟨s, hs⟩ : ∃ s, s = runS emp (l.take i) := ⟨_, rfl⟩
        obtain ⟨t, ht⟩ : ∃ t, t = doS s dd := ⟨_, rfl⟩
        rw [← hdd] at x0 x1 x2 x3 x4 x5 x6 x7 x8 x9 x10 hst hk1 HT HD1
        rw [← hs] at hk0 hst hk1 hL hW HT HC HW
        rw [← ht] at hst hk1 HT
        have HK0 := Aside0.mk hk0
        have HST := Aside0.mk hst
        have HK1 := Aside0.mk hk1
        have HN1 : Aside0 (s.W.length ≤ 1000000) := ⟨by omega⟩
        have HN2 : Aside0 (s.L.length < 8192) := ⟨by omega⟩
        have HNT : Aside0 (t.L.length ≤ 1000000) := ⟨by have := hst.le1; omega⟩
        have HNW : Aside0 (t.W.length ≤ 1000000) := ⟨by have := hst.wl; omega⟩
        have HTD := Aside0.mk ht
        clear hdd hs ht hk0 hst hk1 hL hW
        obtain ⟨A4, c4, e4, hc4, hK4⟩ := HW.out.slice
        subst e4
        clear hK4
        obtain ⟨ak, hak⟩ : ∃ ak, dd.ask = ak := ⟨_, rfl⟩
        rw [hak] at x0
        have HAK := Aside0.mk hak
        clear hak
        go_upto_if 28 with fail
        go_cut [5] (fun v5 wc => v5 = .int .i64 (i : Int) ∧ ∃ vl' vw', Aside0 (Cl wc gc mb w.heap.size vl' vw' t) ∧ Aside0 (Was wc w.heap.size (.slice A4 s.L.length c4) s.L vl') ∧ Aside0 (Below w.heap.size w wc))
        case first =>
         as_aux_lemma =>
          cases ak
          · go_wp2_with (go_at_call 8; with_reducible refine (DoAct.calls _ gc mb _ vl vw s dd HC.out HK0.out HD1.out HN1.out HN2.out HAK.out).mono ?_; rintro e w2 ⟨v2, rfl, hp⟩; obtain ⟨vl2, vw2, h1, h2, -, h4, h5⟩ := Post.take hp; clear hp; have kW := Aside0.mk (HW.out.next (B' := w.heap.size) HC.out h5 h2); have kB := Aside0.mk (HB.out.trans h4); clear HB HW HC h2 h4 h5; have HC := Aside0.mk h1; have HW := kW; have HB := kB; clear h1 kW kB)
            go_meet
            case rel => exact ⟨rfl, vl2, vw2, ⟨by rw [HTD.out]; exact HC.out⟩, HW, HB⟩
          · go_wp2_with (go_at_call 7; with_reducible refine (DoAsk.calls _ gc mb _ vl vw s dd HC.out HK0.out HD1.out HN1.out HN2.out HAK.out).mono ?_; rintro e w2 ⟨v2, rfl, hp⟩; obtain ⟨vl2, vw2, h1, h2, -, h4, h5⟩ := Post.take hp; clear hp; have kW := Aside0.mk (HW.out.next (B' := w.heap.size) HC.out h5 h2); have kB := Aside0.mk (HB.out.trans h4); clear HB HW HC h2 h4 h5; have HC := Aside0.mk h1; have HW := kW; have HB := kB; clear h1 kW kB)
            go_meet
            case rel => exact ⟨rfl, vl2, vw2, ⟨by rw [HTD.out]; exact HC.out⟩, HW, HB⟩
        case rest =>
          clear x0 x1 x2 x3 x4 x5 x6 x7 x8 x9 x10 HC HW HB HAK HK0 HN1 HN2 HTD HD1
          obtain ⟨rfl, vl, vw, HC, HW, HB⟩ := hcut
          have H4 : Aside0 (Kd.C k50 wc A4 s.L.length s.L) := ⟨was_reads HW.out⟩
          clear HW
          have q1 : decide ((t.L.length : Int) < (s.L.length : Int)) = false := decide_eq_false (by have := HST.out.le; omega)
          have q2 : decide ((t.L.length : Int) > (s.L.length : Int) + 1) = false := decide_eq_false (by have := HST.out.le1; omega)
          have q3 : decide ((s.L.length : Int) + 1 < (t.L.length : Int)) = false := decide_eq_false (by have := HST.out.le1; omega)
          have q4 : wrap64 ((s.L.length : Int) + 1) = (s.L.length : Int) + 1 := wrap_ok (by omega) (by have := HNT.out; have := HST.out.le; omega)
          have n1 : s.L.length ≤ t.L.length := HST.out.le
          have n2 : t.L.length ≤ s.L.length + 1 := HST.out.le1
          have n3 : (t.L.length : Int) ≤ (s.L.length : Int) + 1 := by omega
          go_upto_region 12 with (go_at_call 12; with_reducible refine (Grants.calls _ gc mb _ vl vw t HC.out HNT.out).mono ?_; rintro e w3 ⟨v3, rfl, hr, hb⟩; obtain ⟨A6, c6, e6, hc6, hK6⟩ := hr.slice; subst e6; have N6 := Aside0.mk (Was.of (B := w.heap.size) HC.out hr); have H6 := Aside0.mk hK6; have k1 := Aside0.mk (HC.out.below hb); have k2 := Aside0.mk (Kd.C_below H4.out hb); have k3 := Aside0.mk (HB.out.trans (Below.mono hb HC.out.base)); clear HC H4 HB hr hK6 hb; have HC := k1; have H4 := k2; have HB := k3; clear k1 k2 k3)
          clear q1 q2 q3 q4 n1 n2 n3
          go_wp2
          have H3 := Aside0.mk (Below.refl w3.heap.size w3)
          go_loopg [7, 8] t.L.length (fun kr v7 v8 w' => ∃ k : Nat, k + kr = t.L.length ∧ v8 = .int .i64 k ∧ v7 = .int .i64 (cnt t.L k) ∧ Aside0 (Below w3.heap.size w3 w'))
          case atStart => exact ⟨0, by omega, rfl, rfl, H3⟩
          case round =>
            clear H3
            obtain ⟨k, hk, rfl, rfl, H3⟩ := hrel
            by_cases hkl : k < t.L.length
            · have d3 : decide ((k : Int) < (t.L.length : Int)) = true := decide_eq_true (by omega)
              have i1 : (0 : Int) ≤ (k : Int) := by omega
              have i2 : (k : Int) < (t.L.length : Int) := by omega
              go_upto_region 16 with fail
              go_cut [123] (fun v123 wc => v123 = .bool false ∧ Aside0 (Below w3.heap.size w3 wc))
              case first =>
                have hk6 : k < 1000000 := by have := HNT.out; omega
                obtain ⟨X, hX⟩ : ∃ x, x = at50 t.L k := ⟨_, rfl⟩
                obtain ⟨ad6, e, y0, y1, y2, y3, y4⟩ := at_T50 (Kd.C_below H6.out H3.out) (k : Int) (by omega) (by omega)
                cases e
                simp only [Int.toNat_natCast] at y0 y1 y2 y3 y4
                rw [rd50, ← hX] at y0 y1 y2 y3 y4
                have f0 : X.f0 = (k : Int) + 1 := by rw [hX]; exact HK1.out.ids k hkl
                rw [f0] at y0
                by_cases hks : k < s.L.length
                · have d4 : decide ((k : Int) < (s.L.length : Int)) = true := decide_eq_true (by omega)
                  have i3 : (k : Int) < (s.L.length : Int) := by omega
                  obtain ⟨Z, hZ⟩ : ∃ x, x = at50 s.L k := ⟨_, rfl⟩
                  obtain ⟨ad4, e, z0, z1, z2, z3, z4⟩ := at_T50 (Kd.C_below H4.out H3.out) (k : Int) (by omega) (by omega)
                  cases e
                  simp only [Int.toNat_natCast] at z0 z1 z2 z3 z4
                  rw [rd50, ← hZ] at z0 z1 z2 z3 z4
                  have hsm := HST.out.same k hks
                  rw [← hX, ← hZ] at hsm
                  obtain ⟨b1, b2, b3⟩ := hsm
                  by_cases h4 : Z.f3 = 4
                  · have fz : Z.f0 = (k : Int) + 1 := by rw [← b3 h4]; exact f0
                    rw [fz] at z0
                    obtain rfl := b3 h4
                    have f4 : (X.f3 == 4) = true := by rw [h4]; rfl
                    clear hX hZ b1 b2 b3 h4 f0 fz
                    as_aux_lemma =>
                      have g0 : wrap64 ((k : Int) + 1) = (k : Int) + 1 := wrap_k hk6
                      have g1 : IntKind.u64.wrap ((k : Int) + 1) = (k : Int) + 1 := wrap_k2 hk6
                      clear hk6
                      refine start_ (n := 60) (S := fun w' => w'.cell? (ad6.add (k * 5)) = some (.int .u64 ((k : Int) + 1)) ∧ w'.cell? ⟨(ad6.add (k * 5)).block, (ad6.add (k * 5)).off + 1, none⟩ = some (.int .u64 X.f1) ∧ w'.cell? ⟨(ad6.add (k * 5)).block, (ad6.add (k * 5)).off + 2, none⟩ = some (.int .i64 X.f2) ∧ w'.cell? ⟨(ad6.add (k * 5)).block, (ad6.add (k * 5)).off + 3, none⟩ = some (.int .u8 X.f3) ∧ w'.cell? ⟨(ad6.add (k * 5)).block, (ad6.add (k * 5)).off + 4, none⟩ = some (.int .u64 X.f4) ∧ w'.cell? (ad4.add (k * 5)) = some (.int .u64 ((k : Int) + 1)) ∧ w'.cell? ⟨(ad4.add (k * 5)).block, (ad4.add (k * 5)).off + 1, none⟩ = some (.int .u64 X.f1) ∧ w'.cell? ⟨(ad4.add (k * 5)).block, (ad4.add (k * 5)).off + 2, none⟩ = some (.int .i64 X.f2) ∧ w'.cell? ⟨(ad4.add (k * 5)).block, (ad4.add (k * 5)).off + 3, none⟩ = some (.int .u8 X.f3) ∧ w'.cell? ⟨(ad4.add (k * 5)).block, (ad4.add (k * 5)).off + 4, none⟩ = some (.int .u64 X.f4)) (ds := []) q0 (by kernel_rfl) rfl rfl ⟨y0, y1, y2, y3, y4, z0, z1, z2, z3, z4⟩ (fun hHeld => ?_)
                      refine with_tabW CloudOnce.tab16 CloudOnce.bits16 (fun HT_ HW_ => ?_)
                      refine pure_ (i := 0) (N := some 64) (v := ?_) (a' := ?_) q1 rfl rfl (any_of HT_.out (by kernel_rfl)) (fun _ _ _ h => h) (Or.inl ⟨by rfl, ?_⟩) ?_ ?_
                      rotate_left
                      · (intro w'; go_simp; with_reducible rfl)
                      rotate_left
                      · (simp only [Act.put, List.setIfInBounds_toArray, List.set_cons_zero, List.set_cons_succ, i64_w, i32_w]; rfl)
                      refine pure_ (i := 1) (N := some 65) (v := ?_) (a' := ?_) q2 rfl rfl (any_of HT_.out (by kernel_rfl)) (fun _ _ _ h => h) (Or.inl ⟨by rfl, ?_⟩) ?_ ?_
                      rotate_left
                      · (intro w'; go_simp; with_reducible rfl)
                      rotate_left
                      · (simp only [Act.put, List.setIfInBounds_toArray, List.set_cons_zero, List.set_cons_succ, i64_w, i32_w]; rfl)
                      refine pure_ (i := 2) (N := some 66) (v := ?_) (a' := ?_) q3 rfl rfl (any_of HT_.out (by kernel_rfl)) (fun _ _ _ h => h) (Or.inl ⟨by rfl, ?_⟩) ?_ ?_
                      rotate_left
                      · (intro w'; go_simp; with_reducible rfl)
                      rotate_left
                      · (simp only [Act.put, List.setIfInBounds_toArray, List.set_cons_zero, List.set_cons_succ, i64_w, i32_w]; rfl)
                      refine pure_ (i := 3) (N := some 67) (v := ?_) (a' := ?_) q4 rfl rfl (any_of HT_.out (by kernel_rfl)) (fun _ _ _ h => h) (Or.inl ⟨by rfl, ?_⟩) ?_ ?_
                      rotate_left
                      · (intro w'; go_simp; with_reducible rfl)
                      rotate_left
                      · (simp only [Act.put, List.setIfInBounds_toArray, List.set_cons_zero, List.set_cons_succ, i64_w, i32_w]; rfl)
                      refine pure_ (i := 5) (N := some 69) (v := ?_) (a' := ?_) q5 rfl rfl (any_of HT_.out (by kernel_rfl)) (fun _ _ _ h => h) (Or.inl ⟨by rfl, ?_⟩) ?_ ?_
                      rotate_left
                      · (intro w'; go_simp; with_reducible rfl)
                      rotate_left
                      · (simp only [Act.put, List.setIfInBounds_toArray, List.set_cons_zero, List.set_cons_succ, i64_w, i32_w]; rfl)
                      refine pure_ (i := 6) (N := some 70) (v := ?_) (a' := ?_) q6 rfl rfl (any_of HT_.out (by kernel_rfl)) (fun _ _ _ h => h) (Or.inl ⟨by rfl, ?_⟩) ?_ ?_
                      rotate_left
                      · (intro w'; go_simp; with_reducible rfl)
                      rotate_left
                      · (simp only [Act.put, List.setIfInBounds_toArray, List.set_cons_zero, List.set_cons_succ, i64_w, i32_w]; rfl)
                      refine pure_ (i := 7) (N := some 71) (v := ?_) (a' := ?_) q7 rfl rfl (any_of HT_.out (by kernel_rfl)) (fun _ _ _ h => h) (Or.inl ⟨by rfl, ?_⟩) ?_ ?_
                      rotate_left
                      · (intro w'; go_simp; with_reducible rfl)
                      rotate_left
                      · (simp only [Act.put, List.setIfInBounds_toArray, List.set_cons_zero, List.set_cons_succ, i64_w, i32_w]; rfl)
                      refine take_ (i := 4) (N := some 68) (v := ?_) (a' := ?_) q8 rfl rfl (take_ofW HT_.out HW_.out (by kernel_rfl)) (fun _ _ _ h => h) (Or.inl ⟨by rfl, ?_⟩) hHeld ?_ ?_
                      rotate_left
                      · (rintro w' ⟨s0, s1, s2, s3, s4, s5, s6, s7, s8, s9⟩; go_simp; with_reducible rfl)
                      rotate_left
                      · (simp only [Act.put, List.setIfInBounds_toArray, List.set_cons_zero, List.set_cons_succ, i64_w, i32_w]; rfl)
                      refine pure_ (i := 8) (N := some 72) (v := ?_) (a' := ?_) q9 rfl rfl (any_of HT_.out (by kernel_rfl)) (fun _ _ _ h => h) (Or.inl ⟨by rfl, ?_⟩) ?_ ?_
                      rotate_left
                      · (intro w'; go_simp; with_reducible rfl)
                      rotate_left
                      · (simp only [Act.put, List.setIfInBounds_toArray, List.set_cons_zero, List.set_cons_succ, i64_w, i32_w]; rfl)
                      refine pure_ (i := 9) (N := some 73) (v := ?_) (a' := ?_) q10 rfl rfl (any_of HT_.out (by kernel_rfl)) (fun _ _ _ h => h) (Or.inl ⟨by rfl, ?_⟩) ?_ ?_
                      rotate_left
                      · (intro w'; go_simp; with_reducible rfl)
                      rotate_left
                      · (simp only [Act.put, List.setIfInBounds_toArray, List.set_cons_zero, List.set_cons_succ, i64_w, i32_w]; rfl)
                      refine pure_ (i := 10) (N := some 74) (v := ?_) (a' := ?_) q11 rfl rfl (any_of HT_.out (by kernel_rfl)) (fun _ _ _ h => h) (Or.inl ⟨by rfl, ?_⟩) ?_ ?_
                      rotate_left
                      · (intro w'; go_simp; with_reducible rfl)
                      rotate_left
                      · (simp only [Act.put, List.setIfInBounds_toArray, List.set_cons_zero, List.set_cons_succ, i64_w, i32_w]; rfl)
                      refine pure_ (i := 11) (N := some 75) (v := ?_) (a' := ?_) q12 rfl rfl (any_of HT_.out (by kernel_rfl)) (fun _ _ _ h => h) (Or.inl ⟨by rfl, ?_⟩) ?_ ?_
                      rotate_left
                      · (intro w'; go_simp; with_reducible rfl)
                      rotate_left
                      · (simp only [Act.put, List.setIfInBounds_toArray, List.set_cons_zero, List.set_cons_succ, i64_w, i32_w]; rfl)
                      refine pure_ (i := 12) (N := some 76) (v := ?_) (a' := ?_) q13 rfl rfl (any_of HT_.out (by kernel_rfl)) (fun _ _ _ h => h) (Or.inl ⟨by rfl, ?_⟩) ?_ ?_
                      rotate_left
                      · (intro w'; go_simp; with_reducible rfl)
                      rotate_left
                      · (simp only [Act.put, List.setIfInBounds_toArray, List.set_cons_zero, List.set_cons_succ, i64_w, i32_w]; rfl)
                      refine pure_ (i := 13) (N := some 77) (v := ?_) (a' := ?_) q14 rfl rfl (any_of HT_.out (by kernel_rfl)) (fun _ _ _ h => h) (Or.inl ⟨by rfl, ?_⟩) ?_ ?_
                      rotate_left
                      · (intro w'; go_simp; with_reducible rfl)
                      rotate_left
                      · (simp only [Act.put, List.setIfInBounds_toArray, List.set_cons_zero, List.set_cons_succ, i64_w, i32_w]; rfl)
                      refine pure_ (i := 14) (N := some 78) (v := ?_) (a' := ?_) q15 rfl rfl (any_of HT_.out (by kernel_rfl)) (fun _ _ _ h => h) (Or.inl ⟨by rfl, ?_⟩) ?_ ?_
                      rotate_left
                      · (intro w'; go_simp; with_reducible rfl)
                      rotate_left
                      · (simp only [Act.put, List.setIfInBounds_toArray, List.set_cons_zero, List.set_cons_succ, i64_w, i32_w]; rfl)
                      refine pure_ (i := 15) (N := some 79) (v := ?_) (a' := ?_) q16 rfl rfl (any_of HT_.out (by kernel_rfl)) (fun _ _ _ h => h) (Or.inl ⟨by rfl, ?_⟩) ?_ ?_
                      rotate_left
                      · (intro w'; go_simp; with_reducible rfl)
                      rotate_left
                      · (simp only [Act.put, List.setIfInBounds_toArray, List.set_cons_zero, List.set_cons_succ, i64_w, i32_w]; rfl)
                      refine pure_ (i := 16) (N := some 80) (v := ?_) (a' := ?_) q17 rfl rfl (any_of HT_.out (by kernel_rfl)) (fun _ _ _ h => h) (Or.inl ⟨by rfl, ?_⟩) ?_ ?_
                      rotate_left
                      · (intro w'; go_simp; with_reducible rfl)
                      rotate_left
                      · (simp only [Act.put, List.setIfInBounds_toArray, List.set_cons_zero, List.set_cons_succ, i64_w, i32_w]; rfl)
                      refine pure_ (i := 17) (N := some 81) (v := ?_) (a' := ?_) q18 rfl rfl (any_of HT_.out (by kernel_rfl)) (fun _ _ _ h => h) (Or.inl ⟨by rfl, ?_⟩) ?_ ?_
                      rotate_left
                      · (intro w'; go_simp; with_reducible rfl)
                      rotate_left
                      · (simp only [Act.put, List.setIfInBounds_toArray, List.set_cons_zero, List.set_cons_succ, i64_w, i32_w]; rfl)
                      refine pure_ (i := 18) (N := some 82) (v := ?_) (a' := ?_) q19 rfl rfl (any_of HT_.out (by kernel_rfl)) (fun _ _ _ h => h) (Or.inl ⟨by rfl, ?_⟩) ?_ ?_
                      rotate_left
                      · (intro w'; go_simp; with_reducible rfl)
                      rotate_left
                      · (simp only [Act.put, List.setIfInBounds_toArray, List.set_cons_zero, List.set_cons_succ, i64_w, i32_w]; rfl)
                      refine pure_ (i := 20) (N := some 84) (v := ?_) (a' := ?_) q20 rfl rfl (any_of HT_.out (by kernel_rfl)) (fun _ _ _ h => h) (Or.inl ⟨by rfl, ?_⟩) ?_ ?_
                      rotate_left
                      · (intro w'; go_simp; with_reducible rfl)
                      rotate_left
                      · (simp only [Act.put, List.setIfInBounds_toArray, List.set_cons_zero, List.set_cons_succ, i64_w, i32_w]; rfl)
                      refine pure_ (i := 21) (N := some 85) (v := ?_) (a' := ?_) q21 rfl rfl (any_of HT_.out (by kernel_rfl)) (fun _ _ _ h => h) (Or.inl ⟨by rfl, ?_⟩) ?_ ?_
                      rotate_left
                      · (intro w'; go_simp; with_reducible rfl)
                      rotate_left
                      · (simp only [Act.put, List.setIfInBounds_toArray, List.set_cons_zero, List.set_cons_succ, i64_w, i32_w]; rfl)
                      refine pure_ (i := 22) (N := some 86) (v := ?_) (a' := ?_) q22 rfl rfl (any_of HT_.out (by kernel_rfl)) (fun _ _ _ h => h) (Or.inl ⟨by rfl, ?_⟩) ?_ ?_
                      rotate_left
                      · (intro w'; go_simp; with_reducible rfl)
                      rotate_left
                      · (simp only [Act.put, List.setIfInBounds_toArray, List.set_cons_zero, List.set_cons_succ, i64_w, i32_w]; rfl)
                      refine pure_ (i := 23) (N := some 87) (v := ?_) (a' := ?_) q23 rfl rfl (any_of HT_.out (by kernel_rfl)) (fun _ _ _ h => h) (Or.inl ⟨by rfl, ?_⟩) ?_ ?_
                      rotate_left
                      · (intro w'; go_simp; with_reducible rfl)
                      rotate_left
                      · (simp only [Act.put, List.setIfInBounds_toArray, List.set_cons_zero, List.set_cons_succ, i64_w, i32_w]; rfl)
                      refine take_ (i := 19) (N := some 83) (v := ?_) (a' := ?_) q24 rfl rfl (take_ofW HT_.out HW_.out (by kernel_rfl)) (fun _ _ _ h => h) (Or.inl ⟨by rfl, ?_⟩) hHeld ?_ ?_
                      rotate_left
                      · (rintro w' ⟨s0, s1, s2, s3, s4, s5, s6, s7, s8, s9⟩; go_simp; with_reducible rfl)
                      rotate_left
                      · (simp only [Act.put, List.setIfInBounds_toArray, List.set_cons_zero, List.set_cons_succ, i64_w, i32_w]; rfl)
                      refine take_ (i := 24) (N := some 88) (v := ?_) (a' := ?_) q25 rfl rfl (take_ofW HT_.out HW_.out (by kernel_rfl)) (fun _ _ _ h => h) (Or.inl ⟨by rfl, ?_⟩) hHeld ?_ ?_
                      rotate_left
                      · (rintro w' ⟨s0, s1, s2, s3, s4, s5, s6, s7, s8, s9⟩; go_simp; with_reducible rfl)
                      rotate_left
                      · (simp only [Act.put, List.setIfInBounds_toArray, List.set_cons_zero, List.set_cons_succ, i64_w, i32_w]; rfl)
                      refine pure_ (i := 25) (N := some 89) (v := ?_) (a' := ?_) q26 rfl rfl (any_of HT_.out (by kernel_rfl)) (fun _ _ _ h => h) (Or.inl ⟨by rfl, ?_⟩) ?_ ?_
                      rotate_left
                      · (intro w'; go_simp; with_reducible rfl)
                      rotate_left
                      · (simp only [Act.put, List.setIfInBounds_toArray, List.set_cons_zero, List.set_cons_succ, i64_w, i32_w]; rfl)
                      refine pure_ (i := 26) (N := some 90) (v := ?_) (a' := ?_) q27 rfl rfl (any_of HT_.out (by kernel_rfl)) (fun _ _ _ h => h) (Or.inl ⟨by rfl, ?_⟩) ?_ ?_
                      rotate_left
                      · (intro w'; go_simp; with_reducible rfl)
                      rotate_left
                      · (simp only [Act.put, List.setIfInBounds_toArray, List.set_cons_zero, List.set_cons_succ, i64_w, i32_w]; rfl)
                      refine pure_ (i := 27) (N := some 91) (v := ?_) (a' := ?_) q28 rfl rfl (any_of HT_.out (by kernel_rfl)) (fun _ _ _ h => h) (Or.inl ⟨by rfl, ?_⟩) ?_ ?_
                      rotate_left
                      · (intro w'; go_simp; with_reducible rfl)
                      rotate_left
                      · (simp only [Act.put, List.setIfInBounds_toArray, List.set_cons_zero, List.set_cons_succ, i64_w, i32_w]; rfl)
                      refine pure_ (i := 28) (N := some 92) (v := ?_) (a' := ?_) q29 rfl rfl (any_of HT_.out (by kernel_rfl)) (fun _ _ _ h => h) (Or.inl ⟨by rfl, ?_⟩) ?_ ?_
                      rotate_left
                      · (intro w'; go_simp; with_reducible rfl)
                      rotate_left
                      · (simp only [Act.put, List.setIfInBounds_toArray, List.set_cons_zero, List.set_cons_succ, i64_w, i32_w]; rfl)
                      refine pure_ (i := 29) (N := some 93) (v := ?_) (a' := ?_) q30 rfl rfl (any_of HT_.out (by kernel_rfl)) (fun _ _ _ h => h) (Or.inl ⟨by rfl, ?_⟩) ?_ ?_
                      rotate_left
                      · (intro w'; go_simp; with_reducible rfl)
                      rotate_left
                      · (simp only [Act.put, List.setIfInBounds_toArray, List.set_cons_zero, List.set_cons_succ, i64_w, i32_w]; rfl)
                      refine pure_ (i := 30) (N := some 94) (v := ?_) (a' := ?_) q31 rfl rfl (any_of HT_.out (by kernel_rfl)) (fun _ _ _ h => h) (Or.inl ⟨by rfl, ?_⟩) ?_ ?_
                      rotate_left
                      · (intro w'; go_simp; with_reducible rfl)
                      rotate_left
                      · (simp only [Act.put, List.setIfInBounds_toArray, List.set_cons_zero, List.set_cons_succ, i64_w, i32_w]; rfl)
                      refine pure_ (i := 32) (N := some 96) (v := ?_) (a' := ?_) q32 rfl rfl (any_of HT_.out (by kernel_rfl)) (fun _ _ _ h => h) (Or.inl ⟨by rfl, ?_⟩) ?_ ?_
                      rotate_left
                      · (intro w'; go_simp; with_reducible rfl)
                      rotate_left
                      · (simp only [Act.put, List.setIfInBounds_toArray, List.set_cons_zero, List.set_cons_succ, i64_w, i32_w]; rfl)
                      refine pure_ (i := 33) (N := some 97) (v := ?_) (a' := ?_) q33 rfl rfl (any_of HT_.out (by kernel_rfl)) (fun _ _ _ h => h) (Or.inl ⟨by rfl, ?_⟩) ?_ ?_
                      rotate_left
                      · (intro w'; go_simp; with_reducible rfl)
                      rotate_left
                      · (simp only [Act.put, List.setIfInBounds_toArray, List.set_cons_zero, List.set_cons_succ, i64_w, i32_w]; rfl)
                      refine pure_ (i := 34) (N := some 98) (v := ?_) (a' := ?_) q34 rfl rfl (any_of HT_.out (by kernel_rfl)) (fun _ _ _ h => h) (Or.inl ⟨by rfl, ?_⟩) ?_ ?_
                      rotate_left
                      · (intro w'; go_simp; with_reducible rfl)
                      rotate_left
                      · (simp only [Act.put, List.setIfInBounds_toArray, List.set_cons_zero, List.set_cons_succ, i64_w, i32_w]; rfl)
                      refine pure_ (i := 35) (N := some 99) (v := ?_) (a' := ?_) q35 rfl rfl (any_of HT_.out (by kernel_rfl)) (fun _ _ _ h => h) (Or.inl ⟨by rfl, ?_⟩) ?_ ?_
                      rotate_left
                      · (intro w'; go_simp; with_reducible rfl)
                      rotate_left
                      · (simp only [Act.put, List.setIfInBounds_toArray, List.set_cons_zero, List.set_cons_succ, i64_w, i32_w]; rfl)
                      refine take_ (i := 31) (N := some 95) (v := ?_) (a' := ?_) q36 rfl rfl (take_ofW HT_.out HW_.out (by kernel_rfl)) (fun _ _ _ h => h) (Or.inl ⟨by rfl, ?_⟩) hHeld ?_ ?_
                      rotate_left
                      · (rintro w' ⟨s0, s1, s2, s3, s4, s5, s6, s7, s8, s9⟩; go_simp; with_reducible rfl)
                      rotate_left
                      · (simp only [Act.put, List.setIfInBounds_toArray, List.set_cons_zero, List.set_cons_succ, i64_w, i32_w]; rfl)
                      refine take_ (i := 36) (N := some 100) (v := ?_) (a' := ?_) q37 rfl rfl (take_ofW HT_.out HW_.out (by kernel_rfl)) (fun _ _ _ h => h) (Or.inl ⟨by rfl, ?_⟩) hHeld ?_ ?_
                      rotate_left
                      · (rintro w' ⟨s0, s1, s2, s3, s4, s5, s6, s7, s8, s9⟩; go_simp; with_reducible rfl)
                      rotate_left
                      · (simp only [Act.put, List.setIfInBounds_toArray, List.set_cons_zero, List.set_cons_succ, i64_w, i32_w]; rfl)
                      refine pure_ (i := 37) (N := some 101) (v := ?_) (a' := ?_) q38 rfl rfl (any_of HT_.out (by kernel_rfl)) (fun _ _ _ h => h) (Or.inl ⟨by rfl, ?_⟩) ?_ ?_
                      rotate_left
                      · (intro w'; go_simp; with_reducible rfl)
                      rotate_left
                      · (simp only [Act.put, List.setIfInBounds_toArray, List.set_cons_zero, List.set_cons_succ, i64_w, i32_w]; rfl)
                      refine pure_ (i := 38) (N := some 102) (v := ?_) (a' := ?_) q39 rfl rfl (any_of HT_.out (by kernel_rfl)) (fun _ _ _ h => h) (Or.inl ⟨by rfl, ?_⟩) ?_ ?_
                      rotate_left
                      · (intro w'; go_simp; with_reducible rfl)
                      rotate_left
                      · (simp only [Act.put, List.setIfInBounds_toArray, List.set_cons_zero, List.set_cons_succ, i64_w, i32_w]; rfl)
                      refine pure_ (i := 39) (N := some 103) (v := ?_) (a' := ?_) q40 rfl rfl (any_of HT_.out (by kernel_rfl)) (fun _ _ _ h => h) (Or.inl ⟨by rfl, ?_⟩) ?_ ?_
                      rotate_left
                      · (intro w'; go_simp; with_reducible rfl)
                      rotate_left
                      · (simp only [Act.put, List.setIfInBounds_toArray, List.set_cons_zero, List.set_cons_succ, i64_w, i32_w]; rfl)
                      refine pure_ (i := 40) (N := some 104) (v := ?_) (a' := ?_) q41 rfl rfl (any_of HT_.out (by kernel_rfl)) (fun _ _ _ h => h) (Or.inl ⟨by rfl, ?_⟩) ?_ ?_
                      rotate_left
                      · (intro w'; go_simp; with_reducible rfl)
                      rotate_left
                      · (simp only [Act.put, List.setIfInBounds_toArray, List.set_cons_zero, List.set_cons_succ, i64_w, i32_w]; rfl)
                      refine pure_ (i := 41) (N := some 105) (v := ?_) (a' := ?_) q42 rfl rfl (any_of HT_.out (by kernel_rfl)) (fun _ _ _ h => h) (Or.inl ⟨by rfl, ?_⟩) ?_ ?_
                      rotate_left
                      · (intro w'; go_simp; with_reducible rfl)
                      rotate_left
                      · (simp only [Act.put, List.setIfInBounds_toArray, List.set_cons_zero, List.set_cons_succ, i64_w, i32_w]; rfl)
                      refine pure_ (i := 42) (N := some 106) (v := ?_) (a' := ?_) q43 rfl rfl (any_of HT_.out (by kernel_rfl)) (fun _ _ _ h => h) (Or.inl ⟨by rfl, ?_⟩) ?_ ?_
                      rotate_left
                      · (intro w'; go_simp; with_reducible rfl)
                      rotate_left
                      · (simp only [Act.put, List.setIfInBounds_toArray, List.set_cons_zero, List.set_cons_succ, i64_w, i32_w]; rfl)
                      refine pure_ (i := 43) (N := some 107) (v := ?_) (a' := ?_) q44 rfl rfl (any_of HT_.out (by kernel_rfl)) (fun _ _ _ h => h) (Or.inl ⟨by rfl, ?_⟩) ?_ ?_
                      rotate_left
                      · (intro w'; go_simp; with_reducible rfl)
                      rotate_left
                      · (simp only [Act.put, List.setIfInBounds_toArray, List.set_cons_zero, List.set_cons_succ, i64_w, i32_w]; rfl)
                      refine take_ (i := 44) (N := some 108) (v := ?_) (a' := ?_) q45 rfl rfl (take_ofW HT_.out HW_.out (by kernel_rfl)) (fun _ _ _ h => h) (Or.inl ⟨by rfl, ?_⟩) hHeld ?_ ?_
                      rotate_left
                      · (rintro w' ⟨s0, s1, s2, s3, s4, s5, s6, s7, s8, s9⟩; go_simp; with_reducible rfl)
                      rotate_left
                      · (simp only [Act.put, List.setIfInBounds_toArray, List.set_cons_zero, List.set_cons_succ, i64_w, i32_w]; rfl)
                      refine pure_ (i := 45) (N := some 109) (v := ?_) (a' := ?_) q46 rfl rfl (any_of HT_.out (by kernel_rfl)) (fun _ _ _ h => h) (Or.inl ⟨by rfl, ?_⟩) ?_ ?_
                      rotate_left
                      · (intro w'; go_simp; with_reducible rfl)
                      rotate_left
                      · (simp only [Act.put, List.setIfInBounds_toArray, List.set_cons_zero, List.set_cons_succ, i64_w, i32_w]; rfl)
                      refine pure_ (i := 46) (N := some 110) (v := ?_) (a' := ?_) q47 rfl rfl (any_of HT_.out (by kernel_rfl)) (fun _ _ _ h => h) (Or.inl ⟨by rfl, ?_⟩) ?_ ?_
                      rotate_left
                      · (intro w'; go_simp; with_reducible rfl)
                      rotate_left
                      · (simp only [Act.put, List.setIfInBounds_toArray, List.set_cons_zero, List.set_cons_succ, i64_w, i32_w]; rfl)
                      refine pure_ (i := 47) (N := some 111) (v := ?_) (a' := ?_) q48 rfl rfl (any_of HT_.out (by kernel_rfl)) (fun _ _ _ h => h) (Or.inl ⟨by rfl, ?_⟩) ?_ ?_
                      rotate_left
                      · (intro w'; go_simp; with_reducible rfl)
                      rotate_left
                      · (simp only [Act.put, List.setIfInBounds_toArray, List.set_cons_zero, List.set_cons_succ, i64_w, i32_w]; rfl)
                      refine pure_ (i := 48) (N := some 112) (v := ?_) (a' := ?_) q49 rfl rfl (any_of HT_.out (by kernel_rfl)) (fun _ _ _ h => h) (Or.inl ⟨by rfl, ?_⟩) ?_ ?_
                      rotate_left
                      · (intro w'; go_simp; with_reducible rfl)
                      rotate_left
                      · (simp only [Act.put, List.setIfInBounds_toArray, List.set_cons_zero, List.set_cons_succ, i64_w, i32_w]; rfl)
                      refine pure_ (i := 49) (N := some 113) (v := ?_) (a' := ?_) q50 rfl rfl (any_of HT_.out (by kernel_rfl)) (fun _ _ _ h => h) (Or.inl ⟨by rfl, ?_⟩) ?_ ?_
                      rotate_left
                      · (intro w'; go_simp; with_reducible rfl)
                      rotate_left
                      · (simp only [Act.put, List.setIfInBounds_toArray, List.set_cons_zero, List.set_cons_succ, i64_w, i32_w]; rfl)
                      refine pure_ (i := 51) (N := some 115) (v := ?_) (a' := ?_) q51 rfl rfl (any_of HT_.out (by kernel_rfl)) (fun _ _ _ h => h) (Or.inl ⟨by rfl, ?_⟩) ?_ ?_
                      rotate_left
                      · (intro w'; go_simp; with_reducible rfl)
                      rotate_left
                      · (simp only [Act.put, List.setIfInBounds_toArray, List.set_cons_zero, List.set_cons_succ, i64_w, i32_w]; rfl)
                      refine pure_ (i := 52) (N := some 116) (v := ?_) (a' := ?_) q52 rfl rfl (any_of HT_.out (by kernel_rfl)) (fun _ _ _ h => h) (Or.inl ⟨by rfl, ?_⟩) ?_ ?_
                      rotate_left
                      · (intro w'; go_simp; with_reducible rfl)
                      rotate_left
                      · (simp only [Act.put, List.setIfInBounds_toArray, List.set_cons_zero, List.set_cons_succ, i64_w, i32_w]; rfl)
                      refine pure_ (i := 53) (N := some 117) (v := ?_) (a' := ?_) q53 rfl rfl (any_of HT_.out (by kernel_rfl)) (fun _ _ _ h => h) (Or.inl ⟨by rfl, ?_⟩) ?_ ?_
                      rotate_left
                      · (intro w'; go_simp; with_reducible rfl)
                      rotate_left
                      · (simp only [Act.put, List.setIfInBounds_toArray, List.set_cons_zero, List.set_cons_succ, i64_w, i32_w]; rfl)
                      refine take_ (i := 50) (N := some 114) (v := ?_) (a' := ?_) q54 rfl rfl (take_ofW HT_.out HW_.out (by kernel_rfl)) (fun _ _ _ h => h) (Or.inl ⟨by rfl, ?_⟩) hHeld ?_ ?_
                      rotate_left
                      · (rintro w' ⟨s0, s1, s2, s3, s4, s5, s6, s7, s8, s9⟩; go_simp; with_reducible rfl)
                      rotate_left
                      · (simp only [Act.put, List.setIfInBounds_toArray, List.set_cons_zero, List.set_cons_succ, i64_w, i32_w]; rfl)
                      refine take_ (i := 54) (N := some 118) (v := ?_) (a' := ?_) q55 rfl rfl (take_ofW HT_.out HW_.out (by kernel_rfl)) (fun _ _ _ h => h) (Or.inl ⟨by rfl, ?_⟩) hHeld ?_ ?_
                      rotate_left
                      · (rintro w' ⟨s0, s1, s2, s3, s4, s5, s6, s7, s8, s9⟩; go_simp; with_reducible rfl)
                      rotate_left
                      · (simp only [Act.put, List.setIfInBounds_toArray, List.set_cons_zero, List.set_cons_succ, i64_w, i32_w]; rfl)
                      refine pure_ (i := 55) (N := some 119) (v := ?_) (a' := ?_) q56 rfl rfl (any_of HT_.out (by kernel_rfl)) (fun _ _ _ h => h) (Or.inl ⟨by rfl, ?_⟩) ?_ ?_
                      rotate_left
                      · (intro w'; go_simp; with_reducible rfl)
                      rotate_left
                      · (simp only [Act.put, List.setIfInBounds_toArray, List.set_cons_zero, List.set_cons_succ, i64_w, i32_w]; rfl)
                      refine pure_ (i := 56) (N := some 120) (v := ?_) (a' := ?_) q57 rfl rfl (any_of HT_.out (by kernel_rfl)) (fun _ _ _ h => h) (Or.inl ⟨by rfl, ?_⟩) ?_ ?_
                      rotate_left
                      · (intro w'; go_simp; with_reducible rfl)
                      rotate_left
                      · (simp only [Act.put, List.setIfInBounds_toArray, List.set_cons_zero, List.set_cons_succ, i64_w, i32_w]; rfl)
                      refine pure_ (i := 57) (N := some 121) (v := ?_) (a' := ?_) q58 rfl rfl (any_of HT_.out (by kernel_rfl)) (fun _ _ _ h => h) (Or.inl ⟨by rfl, ?_⟩) ?_ ?_
                      rotate_left
                      · (intro w'; go_simp; with_reducible rfl)
                      rotate_left
                      · (simp only [Act.put, List.setIfInBounds_toArray, List.set_cons_zero, List.set_cons_succ, i64_w, i32_w]; rfl)
                      refine pure_ (i := 58) (N := some 122) (v := ?_) (a' := ?_) q59 rfl rfl (any_of HT_.out (by kernel_rfl)) (fun _ _ _ h => h) (Or.inl ⟨by rfl, ?_⟩) ?_ ?_
                      rotate_left
                      · (intro w'; go_simp; with_reducible rfl)
                      rotate_left
                      · (simp only [Act.put, List.setIfInBounds_toArray, List.set_cons_zero, List.set_cons_succ, i64_w, i32_w]; rfl)
                      refine pure_ (i := 59) (N := some 123) (v := ?_) (a' := ?_) q60 rfl rfl (any_of HT_.out (by kernel_rfl)) (fun _ _ _ h => h) (Or.inl ⟨by rfl, ?_⟩) ?_ ?_
                      rotate_left
                      · (intro w'; go_simp; with_reducible rfl)
                      rotate_left
                      · (simp only [Act.put, List.setIfInBounds_toArray, List.set_cons_zero, List.set_cons_succ, i64_w, i32_w]; rfl)
                      refine done_ (done_of HT_.out (by kernel_rfl)) ?_
                      clear g0 g1
                      have k3 := Aside0.mk H3.out.drew
                      clear H3
                      have H3 := k3
                      clear k3
                      go_wp2
                      go_meet
                      case rel => exact ⟨rfl, H3⟩

                  · have f4 : (Z.f3 == 4) = false := beq_false_of_ne h4
                    rw [b1] at y1
                    rw [b2] at y2
                    clear hX hZ b1 b2 b3 h4 f0
                    as_aux_lemma =>
                      have g0 : wrap64 ((k : Int) + 1) = (k : Int) + 1 := wrap_k hk6
                      have g1 : IntKind.u64.wrap ((k : Int) + 1) = (k : Int) + 1 := wrap_k2 hk6
                      clear hk6
                      refine start_ (n := 60) (S := fun w' => w'.cell? (ad6.add (k * 5)) = some (.int .u64 ((k : Int) + 1)) ∧ w'.cell? ⟨(ad6.add (k * 5)).block, (ad6.add (k * 5)).off + 1, none⟩ = some (.int .u64 Z.f1) ∧ w'.cell? ⟨(ad6.add (k * 5)).block, (ad6.add (k * 5)).off + 2, none⟩ = some (.int .i64 Z.f2) ∧ w'.cell? ⟨(ad4.add (k * 5)).block, (ad4.add (k * 5)).off + 1, none⟩ = some (.int .u64 Z.f1) ∧ w'.cell? ⟨(ad4.add (k * 5)).block, (ad4.add (k * 5)).off + 2, none⟩ = some (.int .i64 Z.f2) ∧ w'.cell? ⟨(ad4.add (k * 5)).block, (ad4.add (k * 5)).off + 3, none⟩ = some (.int .u8 Z.f3)) (ds := []) q0 (by kernel_rfl) rfl rfl ⟨y0, y1, y2, z1, z2, z3⟩ (fun hHeld => ?_)
                      refine with_tabW CloudOnce.tab16 CloudOnce.bits16 (fun HT_ HW_ => ?_)
                      refine pure_ (i := 0) (N := some 64) (v := ?_) (a' := ?_) q1 rfl rfl (any_of HT_.out (by kernel_rfl)) (fun _ _ _ h => h) (Or.inl ⟨by rfl, ?_⟩) ?_ ?_
                      rotate_left
                      · (intro w'; go_simp; with_reducible rfl)
                      rotate_left
                      · (simp only [Act.put, List.setIfInBounds_toArray, List.set_cons_zero, List.set_cons_succ, i64_w, i32_w]; rfl)
                      refine pure_ (i := 1) (N := some 65) (v := ?_) (a' := ?_) q2 rfl rfl (any_of HT_.out (by kernel_rfl)) (fun _ _ _ h => h) (Or.inl ⟨by rfl, ?_⟩) ?_ ?_
                      rotate_left
                      · (intro w'; go_simp; with_reducible rfl)
                      rotate_left
                      · (simp only [Act.put, List.setIfInBounds_toArray, List.set_cons_zero, List.set_cons_succ, i64_w, i32_w]; rfl)
                      refine pure_ (i := 2) (N := some 66) (v := ?_) (a' := ?_) q3 rfl rfl (any_of HT_.out (by kernel_rfl)) (fun _ _ _ h => h) (Or.inl ⟨by rfl, ?_⟩) ?_ ?_
                      rotate_left
                      · (intro w'; go_simp; with_reducible rfl)
                      rotate_left
                      · (simp only [Act.put, List.setIfInBounds_toArray, List.set_cons_zero, List.set_cons_succ, i64_w, i32_w]; rfl)
                      refine pure_ (i := 3) (N := some 67) (v := ?_) (a' := ?_) q4 rfl rfl (any_of HT_.out (by kernel_rfl)) (fun _ _ _ h => h) (Or.inl ⟨by rfl, ?_⟩) ?_ ?_
                      rotate_left
                      · (intro w'; go_simp; with_reducible rfl)
                      rotate_left
                      · (simp only [Act.put, List.setIfInBounds_toArray, List.set_cons_zero, List.set_cons_succ, i64_w, i32_w]; rfl)
                      refine pure_ (i := 5) (N := some 69) (v := ?_) (a' := ?_) q5 rfl rfl (any_of HT_.out (by kernel_rfl)) (fun _ _ _ h => h) (Or.inl ⟨by rfl, ?_⟩) ?_ ?_
                      rotate_left
                      · (intro w'; go_simp; with_reducible rfl)
                      rotate_left
                      · (simp only [Act.put, List.setIfInBounds_toArray, List.set_cons_zero, List.set_cons_succ, i64_w, i32_w]; rfl)
                      refine pure_ (i := 6) (N := some 70) (v := ?_) (a' := ?_) q6 rfl rfl (any_of HT_.out (by kernel_rfl)) (fun _ _ _ h => h) (Or.inl ⟨by rfl, ?_⟩) ?_ ?_
                      rotate_left
                      · (intro w'; go_simp; with_reducible rfl)
                      rotate_left
                      · (simp only [Act.put, List.setIfInBounds_toArray, List.set_cons_zero, List.set_cons_succ, i64_w, i32_w]; rfl)
                      refine pure_ (i := 7) (N := some 71) (v := ?_) (a' := ?_) q7 rfl rfl (any_of HT_.out (by kernel_rfl)) (fun _ _ _ h => h) (Or.inl ⟨by rfl, ?_⟩) ?_ ?_
                      rotate_left
                      · (intro w'; go_simp; with_reducible rfl)
                      rotate_left
                      · (simp only [Act.put, List.setIfInBounds_toArray, List.set_cons_zero, List.set_cons_succ, i64_w, i32_w]; rfl)
                      refine take_ (i := 4) (N := some 68) (v := ?_) (a' := ?_) q8 rfl rfl (take_ofW HT_.out HW_.out (by kernel_rfl)) (fun _ _ _ h => h) (Or.inl ⟨by rfl, ?_⟩) hHeld ?_ ?_
                      rotate_left
                      · (rintro w' ⟨s0, s1, s2, s3, s4, s5⟩; go_simp; with_reducible rfl)
                      rotate_left
                      · (simp only [Act.put, List.setIfInBounds_toArray, List.set_cons_zero, List.set_cons_succ, i64_w, i32_w]; rfl)
                      refine pure_ (i := 8) (N := some 72) (v := ?_) (a' := ?_) q9 rfl rfl (any_of HT_.out (by kernel_rfl)) (fun _ _ _ h => h) (Or.inl ⟨by rfl, ?_⟩) ?_ ?_
                      rotate_left
                      · (intro w'; go_simp; with_reducible rfl)
                      rotate_left
                      · (simp only [Act.put, List.setIfInBounds_toArray, List.set_cons_zero, List.set_cons_succ, i64_w, i32_w]; rfl)
                      refine pure_ (i := 9) (N := some 73) (v := ?_) (a' := ?_) q10 rfl rfl (any_of HT_.out (by kernel_rfl)) (fun _ _ _ h => h) (Or.inl ⟨by rfl, ?_⟩) ?_ ?_
                      rotate_left
                      · (intro w'; go_simp; with_reducible rfl)
                      rotate_left
                      · (simp only [Act.put, List.setIfInBounds_toArray, List.set_cons_zero, List.set_cons_succ, i64_w, i32_w]; rfl)
                      refine pure_ (i := 10) (N := some 74) (v := ?_) (a' := ?_) q11 rfl rfl (any_of HT_.out (by kernel_rfl)) (fun _ _ _ h => h) (Or.inl ⟨by rfl, ?_⟩) ?_ ?_
                      rotate_left
                      · (intro w'; go_simp; with_reducible rfl)
                      rotate_left
                      · (simp only [Act.put, List.setIfInBounds_toArray, List.set_cons_zero, List.set_cons_succ, i64_w, i32_w]; rfl)
                      refine pure_ (i := 11) (N := some 75) (v := ?_) (a' := ?_) q12 rfl rfl (any_of HT_.out (by kernel_rfl)) (fun _ _ _ h => h) (Or.inl ⟨by rfl, ?_⟩) ?_ ?_
                      rotate_left
                      · (intro w'; go_simp; with_reducible rfl)
                      rotate_left
                      · (simp only [Act.put, List.setIfInBounds_toArray, List.set_cons_zero, List.set_cons_succ, i64_w, i32_w]; rfl)
                      refine pure_ (i := 12) (N := some 76) (v := ?_) (a' := ?_) q13 rfl rfl (any_of HT_.out (by kernel_rfl)) (fun _ _ _ h => h) (Or.inl ⟨by rfl, ?_⟩) ?_ ?_
                      rotate_left
                      · (intro w'; go_simp; with_reducible rfl)
                      rotate_left
                      · (simp only [Act.put, List.setIfInBounds_toArray, List.set_cons_zero, List.set_cons_succ, i64_w, i32_w]; rfl)
                      refine pure_ (i := 13) (N := some 77) (v := ?_) (a' := ?_) q14 rfl rfl (any_of HT_.out (by kernel_rfl)) (fun _ _ _ h => h) (Or.inl ⟨by rfl, ?_⟩) ?_ ?_
                      rotate_left
                      · (intro w'; go_simp; with_reducible rfl)
                      rotate_left
                      · (simp only [Act.put, List.setIfInBounds_toArray, List.set_cons_zero, List.set_cons_succ, i64_w, i32_w]; rfl)
                      refine pure_ (i := 14) (N := some 78) (v := ?_) (a' := ?_) q15 rfl rfl (any_of HT_.out (by kernel_rfl)) (fun _ _ _ h => h) (Or.inl ⟨by rfl, ?_⟩) ?_ ?_
                      rotate_left
                      · (intro w'; go_simp; with_reducible rfl)
                      rotate_left
                      · (simp only [Act.put, List.setIfInBounds_toArray, List.set_cons_zero, List.set_cons_succ, i64_w, i32_w]; rfl)
                      refine pure_ (i := 15) (N := some 79) (v := ?_) (a' := ?_) q16 rfl rfl (any_of HT_.out (by kernel_rfl)) (fun _ _ _ h => h) (Or.inl ⟨by rfl, ?_⟩) ?_ ?_
                      rotate_left
                      · (intro w'; go_simp; with_reducible rfl)
                      rotate_left
                      · (simp only [Act.put, List.setIfInBounds_toArray, List.set_cons_zero, List.set_cons_succ, i64_w, i32_w]; rfl)
                      refine pure_ (i := 16) (N := some 80) (v := ?_) (a' := ?_) q17 rfl rfl (any_of HT_.out (by kernel_rfl)) (fun _ _ _ h => h) (Or.inl ⟨by rfl, ?_⟩) ?_ ?_
                      rotate_left
                      · (intro w'; go_simp; with_reducible rfl)
                      rotate_left
                      · (simp only [Act.put, List.setIfInBounds_toArray, List.set_cons_zero, List.set_cons_succ, i64_w, i32_w]; rfl)
                      refine pure_ (i := 17) (N := some 81) (v := ?_) (a' := ?_) q18 rfl rfl (any_of HT_.out (by kernel_rfl)) (fun _ _ _ h => h) (Or.inl ⟨by rfl, ?_⟩) ?_ ?_
                      rotate_left
                      · (intro w'; go_simp; with_reducible rfl)
                      rotate_left
                      · (simp only [Act.put, List.setIfInBounds_toArray, List.set_cons_zero, List.set_cons_succ, i64_w, i32_w]; rfl)
                      refine pure_ (i := 18) (N := some 82) (v := ?_) (a' := ?_) q19 rfl rfl (any_of HT_.out (by kernel_rfl)) (fun _ _ _ h => h) (Or.inl ⟨by rfl, ?_⟩) ?_ ?_
                      rotate_left
                      · (intro w'; go_simp; with_reducible rfl)
                      rotate_left
                      · (simp only [Act.put, List.setIfInBounds_toArray, List.set_cons_zero, List.set_cons_succ, i64_w, i32_w]; rfl)
                      refine pure_ (i := 20) (N := some 84) (v := ?_) (a' := ?_) q20 rfl rfl (any_of HT_.out (by kernel_rfl)) (fun _ _ _ h => h) (Or.inl ⟨by rfl, ?_⟩) ?_ ?_
                      rotate_left
                      · (intro w'; go_simp; with_reducible rfl)
                      rotate_left
                      · (simp only [Act.put, List.setIfInBounds_toArray, List.set_cons_zero, List.set_cons_succ, i64_w, i32_w]; rfl)
                      refine pure_ (i := 21) (N := some 85) (v := ?_) (a' := ?_) q21 rfl rfl (any_of HT_.out (by kernel_rfl)) (fun _ _ _ h => h) (Or.inl ⟨by rfl, ?_⟩) ?_ ?_
                      rotate_left
                      · (intro w'; go_simp; with_reducible rfl)
                      rotate_left
                      · (simp only [Act.put, List.setIfInBounds_toArray, List.set_cons_zero, List.set_cons_succ, i64_w, i32_w]; rfl)
                      refine pure_ (i := 22) (N := some 86) (v := ?_) (a' := ?_) q22 rfl rfl (any_of HT_.out (by kernel_rfl)) (fun _ _ _ h => h) (Or.inl ⟨by rfl, ?_⟩) ?_ ?_
                      rotate_left
                      · (intro w'; go_simp; with_reducible rfl)
                      rotate_left
                      · (simp only [Act.put, List.setIfInBounds_toArray, List.set_cons_zero, List.set_cons_succ, i64_w, i32_w]; rfl)
                      refine pure_ (i := 23) (N := some 87) (v := ?_) (a' := ?_) q23 rfl rfl (any_of HT_.out (by kernel_rfl)) (fun _ _ _ h => h) (Or.inl ⟨by rfl, ?_⟩) ?_ ?_
                      rotate_left
                      · (intro w'; go_simp; with_reducible rfl)
                      rotate_left
                      · (simp only [Act.put, List.setIfInBounds_toArray, List.set_cons_zero, List.set_cons_succ, i64_w, i32_w]; rfl)
                      refine take_ (i := 19) (N := some 83) (v := ?_) (a' := ?_) q24 rfl rfl (take_ofW HT_.out HW_.out (by kernel_rfl)) (fun _ _ _ h => h) (Or.inl ⟨by rfl, ?_⟩) hHeld ?_ ?_
                      rotate_left
                      · (rintro w' ⟨s0, s1, s2, s3, s4, s5⟩; go_simp; with_reducible rfl)
                      rotate_left
                      · (simp only [Act.put, List.setIfInBounds_toArray, List.set_cons_zero, List.set_cons_succ, i64_w, i32_w]; rfl)
                      refine take_ (i := 24) (N := some 88) (v := ?_) (a' := ?_) q25 rfl rfl (take_ofW HT_.out HW_.out (by kernel_rfl)) (fun _ _ _ h => h) (Or.inl ⟨by rfl, ?_⟩) hHeld ?_ ?_
                      rotate_left
                      · (rintro w' ⟨s0, s1, s2, s3, s4, s5⟩; go_simp; with_reducible rfl)
                      rotate_left
                      · (simp only [Act.put, List.setIfInBounds_toArray, List.set_cons_zero, List.set_cons_succ, i64_w, i32_w]; rfl)
                      refine pure_ (i := 25) (N := some 89) (v := ?_) (a' := ?_) q26 rfl rfl (any_of HT_.out (by kernel_rfl)) (fun _ _ _ h => h) (Or.inl ⟨by rfl, ?_⟩) ?_ ?_
                      rotate_left
                      · (intro w'; go_simp; with_reducible rfl)
                      rotate_left
                      · (simp only [Act.put, List.setIfInBounds_toArray, List.set_cons_zero, List.set_cons_succ, i64_w, i32_w]; rfl)
                      refine pure_ (i := 26) (N := some 90) (v := ?_) (a' := ?_) q27 rfl rfl (any_of HT_.out (by kernel_rfl)) (fun _ _ _ h => h) (Or.inl ⟨by rfl, ?_⟩) ?_ ?_
                      rotate_left
                      · (intro w'; go_simp; with_reducible rfl)
                      rotate_left
                      · (simp only [Act.put, List.setIfInBounds_toArray, List.set_cons_zero, List.set_cons_succ, i64_w, i32_w]; rfl)
                      refine pure_ (i := 27) (N := some 91) (v := ?_) (a' := ?_) q28 rfl rfl (any_of HT_.out (by kernel_rfl)) (fun _ _ _ h => h) (Or.inl ⟨by rfl, ?_⟩) ?_ ?_
                      rotate_left
                      · (intro w'; go_simp; with_reducible rfl)
                      rotate_left
                      · (simp only [Act.put, List.setIfInBounds_toArray, List.set_cons_zero, List.set_cons_succ, i64_w, i32_w]; rfl)
                      refine pure_ (i := 28) (N := some 92) (v := ?_) (a' := ?_) q29 rfl rfl (any_of HT_.out (by kernel_rfl)) (fun _ _ _ h => h) (Or.inl ⟨by rfl, ?_⟩) ?_ ?_
                      rotate_left
                      · (intro w'; go_simp; with_reducible rfl)
                      rotate_left
                      · (simp only [Act.put, List.setIfInBounds_toArray, List.set_cons_zero, List.set_cons_succ, i64_w, i32_w]; rfl)
                      refine pure_ (i := 29) (N := some 93) (v := ?_) (a' := ?_) q30 rfl rfl (any_of HT_.out (by kernel_rfl)) (fun _ _ _ h => h) (Or.inl ⟨by rfl, ?_⟩) ?_ ?_
                      rotate_left
                      · (intro w'; go_simp; with_reducible rfl)
                      rotate_left
                      · (simp only [Act.put, List.setIfInBounds_toArray, List.set_cons_zero, List.set_cons_succ, i64_w, i32_w]; rfl)
                      refine pure_ (i := 30) (N := some 94) (v := ?_) (a' := ?_) q31 rfl rfl (any_of HT_.out (by kernel_rfl)) (fun _ _ _ h => h) (Or.inl ⟨by rfl, ?_⟩) ?_ ?_
                      rotate_left
                      · (intro w'; go_simp; with_reducible rfl)
                      rotate_left
                      · (simp only [Act.put, List.setIfInBounds_toArray, List.set_cons_zero, List.set_cons_succ, i64_w, i32_w]; rfl)
                      refine pure_ (i := 32) (N := some 96) (v := ?_) (a' := ?_) q32 rfl rfl (any_of HT_.out (by kernel_rfl)) (fun _ _ _ h => h) (Or.inl ⟨by rfl, ?_⟩) ?_ ?_
                      rotate_left
                      · (intro w'; go_simp; with_reducible rfl)
                      rotate_left
                      · (simp only [Act.put, List.setIfInBounds_toArray, List.set_cons_zero, List.set_cons_succ, i64_w, i32_w]; rfl)
                      refine pure_ (i := 33) (N := some 97) (v := ?_) (a' := ?_) q33 rfl rfl (any_of HT_.out (by kernel_rfl)) (fun _ _ _ h => h) (Or.inl ⟨by rfl, ?_⟩) ?_ ?_
                      rotate_left
                      · (intro w'; go_simp; with_reducible rfl)
                      rotate_left
                      · (simp only [Act.put, List.setIfInBounds_toArray, List.set_cons_zero, List.set_cons_succ, i64_w, i32_w]; rfl)
                      refine pure_ (i := 34) (N := some 98) (v := ?_) (a' := ?_) q34 rfl rfl (any_of HT_.out (by kernel_rfl)) (fun _ _ _ h => h) (Or.inl ⟨by rfl, ?_⟩) ?_ ?_
                      rotate_left
                      · (intro w'; go_simp; with_reducible rfl)
                      rotate_left
                      · (simp only [Act.put, List.setIfInBounds_toArray, List.set_cons_zero, List.set_cons_succ, i64_w, i32_w]; rfl)
                      refine pure_ (i := 35) (N := some 99) (v := ?_) (a' := ?_) q35 rfl rfl (any_of HT_.out (by kernel_rfl)) (fun _ _ _ h => h) (Or.inl ⟨by rfl, ?_⟩) ?_ ?_
                      rotate_left
                      · (intro w'; go_simp; with_reducible rfl)
                      rotate_left
                      · (simp only [Act.put, List.setIfInBounds_toArray, List.set_cons_zero, List.set_cons_succ, i64_w, i32_w]; rfl)
                      refine take_ (i := 31) (N := some 95) (v := ?_) (a' := ?_) q36 rfl rfl (take_ofW HT_.out HW_.out (by kernel_rfl)) (fun _ _ _ h => h) (Or.inl ⟨by rfl, ?_⟩) hHeld ?_ ?_
                      rotate_left
                      · (rintro w' ⟨s0, s1, s2, s3, s4, s5⟩; go_simp; with_reducible rfl)
                      rotate_left
                      · (simp only [Act.put, List.setIfInBounds_toArray, List.set_cons_zero, List.set_cons_succ, i64_w, i32_w]; rfl)
                      refine take_ (i := 36) (N := some 100) (v := ?_) (a' := ?_) q37 rfl rfl (take_ofW HT_.out HW_.out (by kernel_rfl)) (fun _ _ _ h => h) (Or.inl ⟨by rfl, ?_⟩) hHeld ?_ ?_
                      rotate_left
                      · (rintro w' ⟨s0, s1, s2, s3, s4, s5⟩; go_simp; with_reducible rfl)
                      rotate_left
                      · (simp only [Act.put, List.setIfInBounds_toArray, List.set_cons_zero, List.set_cons_succ, i64_w, i32_w]; rfl)
                      refine pure_ (i := 37) (N := some 101) (v := ?_) (a' := ?_) q38 rfl rfl (any_of HT_.out (by kernel_rfl)) (fun _ _ _ h => h) (Or.inl ⟨by rfl, ?_⟩) ?_ ?_
                      rotate_left
                      · (intro w'; go_simp; with_reducible rfl)
                      rotate_left
                      · (simp only [Act.put, List.setIfInBounds_toArray, List.set_cons_zero, List.set_cons_succ, i64_w, i32_w]; rfl)
                      refine pure_ (i := 38) (N := some 102) (v := ?_) (a' := ?_) q39 rfl rfl (any_of HT_.out (by kernel_rfl)) (fun _ _ _ h => h) (Or.inl ⟨by rfl, ?_⟩) ?_ ?_
                      rotate_left
                      · (intro w'; go_simp; with_reducible rfl)
                      rotate_left
                      · (simp only [Act.put, List.setIfInBounds_toArray, List.set_cons_zero, List.set_cons_succ, i64_w, i32_w]; rfl)
                      refine pure_ (i := 39) (N := some 103) (v := ?_) (a' := ?_) q40 rfl rfl (any_of HT_.out (by kernel_rfl)) (fun _ _ _ h => h) (Or.inl ⟨by rfl, ?_⟩) ?_ ?_
                      rotate_left
                      · (intro w'; go_simp; with_reducible rfl)
                      rotate_left
                      · (simp only [Act.put, List.setIfInBounds_toArray, List.set_cons_zero, List.set_cons_succ, i64_w, i32_w]; rfl)
                      refine pure_ (i := 40) (N := some 104) (v := ?_) (a' := ?_) q41 rfl rfl (any_of HT_.out (by kernel_rfl)) (fun _ _ _ h => h) (Or.inl ⟨by rfl, ?_⟩) ?_ ?_
                      rotate_left
                      · (intro w'; go_simp; with_reducible rfl)
                      rotate_left
                      · (simp only [Act.put, List.setIfInBounds_toArray, List.set_cons_zero, List.set_cons_succ, i64_w, i32_w]; rfl)
                      refine pure_ (i := 41) (N := some 105) (v := ?_) (a' := ?_) q42 rfl rfl (any_of HT_.out (by kernel_rfl)) (fun _ _ _ h => h) (Or.inl ⟨by rfl, ?_⟩) ?_ ?_
                      rotate_left
                      · (intro w'; go_simp; with_reducible rfl)
                      rotate_left
                      · (simp only [Act.put, List.setIfInBounds_toArray, List.set_cons_zero, List.set_cons_succ, i64_w, i32_w]; rfl)
                      refine pure_ (i := 42) (N := some 106) (v := ?_) (a' := ?_) q43 rfl rfl (any_of HT_.out (by kernel_rfl)) (fun _ _ _ h => h) (Or.inl ⟨by rfl, ?_⟩) ?_ ?_
                      rotate_left
                      · (intro w'; go_simp; with_reducible rfl)
                      rotate_left
                      · (simp only [Act.put, List.setIfInBounds_toArray, List.set_cons_zero, List.set_cons_succ, i64_w, i32_w]; rfl)
                      refine pure_ (i := 43) (N := some 107) (v := ?_) (a' := ?_) q44 rfl rfl (any_of HT_.out (by kernel_rfl)) (fun _ _ _ h => h) (Or.inl ⟨by rfl, ?_⟩) ?_ ?_
                      rotate_left
                      · (intro w'; go_simp; with_reducible rfl)
                      rotate_left
                      · (simp only [Act.put, List.setIfInBounds_toArray, List.set_cons_zero, List.set_cons_succ, i64_w, i32_w]; rfl)
                      refine take_ (i := 44) (N := some 108) (v := ?_) (a' := ?_) q45 rfl rfl (take_ofW HT_.out HW_.out (by kernel_rfl)) (fun _ _ _ h => h) (Or.inl ⟨by rfl, ?_⟩) hHeld ?_ ?_
                      rotate_left
                      · (rintro w' ⟨s0, s1, s2, s3, s4, s5⟩; go_simp; with_reducible rfl)
                      rotate_left
                      · (simp only [Act.put, List.setIfInBounds_toArray, List.set_cons_zero, List.set_cons_succ, i64_w, i32_w]; rfl)
                      refine pure_ (i := 45) (N := some 109) (v := ?_) (a' := ?_) q46 rfl rfl (any_of HT_.out (by kernel_rfl)) (fun _ _ _ h => h) (Or.inl ⟨by rfl, ?_⟩) ?_ ?_
                      rotate_left
                      · (intro w'; go_simp; with_reducible rfl)
                      rotate_left
                      · (simp only [Act.put, List.setIfInBounds_toArray, List.set_cons_zero, List.set_cons_succ, i64_w, i32_w]; rfl)
                      refine pure_ (i := 46) (N := some 110) (v := ?_) (a' := ?_) q47 rfl rfl (any_of HT_.out (by kernel_rfl)) (fun _ _ _ h => h) (Or.inl ⟨by rfl, ?_⟩) ?_ ?_
                      rotate_left
                      · (intro w'; go_simp; with_reducible rfl)
                      rotate_left
                      · (simp only [Act.put, List.setIfInBounds_toArray, List.set_cons_zero, List.set_cons_succ, i64_w, i32_w]; rfl)
                      refine pure_ (i := 47) (N := some 111) (v := undef) (a' := ?_) q48 rfl rfl (any_of HT_.out (by kernel_rfl)) (fun _ _ _ h => h) (Or.inr ⟨by rfl, rfl⟩) ?_ ?_
                      rotate_left
                      · (simp only [Act.put, List.setIfInBounds_toArray, List.set_cons_zero, List.set_cons_succ, i64_w, i32_w]; rfl)
                      refine pure_ (i := 48) (N := some 112) (v := undef) (a' := ?_) q49 rfl rfl (any_of HT_.out (by kernel_rfl)) (fun _ _ _ h => h) (Or.inr ⟨by rfl, rfl⟩) ?_ ?_
                      rotate_left
                      · (simp only [Act.put, List.setIfInBounds_toArray, List.set_cons_zero, List.set_cons_succ, i64_w, i32_w]; rfl)
                      refine pure_ (i := 49) (N := some 113) (v := undef) (a' := ?_) q50 rfl rfl (any_of HT_.out (by kernel_rfl)) (fun _ _ _ h => h) (Or.inr ⟨by rfl, rfl⟩) ?_ ?_
                      rotate_left
                      · (simp only [Act.put, List.setIfInBounds_toArray, List.set_cons_zero, List.set_cons_succ, i64_w, i32_w]; rfl)
                      refine pure_ (i := 50) (N := some 114) (v := undef) (a' := ?_) q61 rfl rfl (any_of HT_.out (by kernel_rfl)) (fun _ _ _ h => h) (Or.inr ⟨by rfl, rfl⟩) ?_ ?_
                      rotate_left
                      · (simp only [Act.put, List.setIfInBounds_toArray, List.set_cons_zero, List.set_cons_succ, i64_w, i32_w]; rfl)
                      refine pure_ (i := 51) (N := some 115) (v := undef) (a' := ?_) q62 rfl rfl (any_of HT_.out (by kernel_rfl)) (fun _ _ _ h => h) (Or.inr ⟨by rfl, rfl⟩) ?_ ?_
                      rotate_left
                      · (simp only [Act.put, List.setIfInBounds_toArray, List.set_cons_zero, List.set_cons_succ, i64_w, i32_w]; rfl)
                      refine pure_ (i := 52) (N := some 116) (v := undef) (a' := ?_) q63 rfl rfl (any_of HT_.out (by kernel_rfl)) (fun _ _ _ h => h) (Or.inr ⟨by rfl, rfl⟩) ?_ ?_
                      rotate_left
                      · (simp only [Act.put, List.setIfInBounds_toArray, List.set_cons_zero, List.set_cons_succ, i64_w, i32_w]; rfl)
                      refine pure_ (i := 53) (N := some 117) (v := undef) (a' := ?_) q54 rfl rfl (any_of HT_.out (by kernel_rfl)) (fun _ _ _ h => h) (Or.inr ⟨by rfl, rfl⟩) ?_ ?_
                      rotate_left
                      · (simp only [Act.put, List.setIfInBounds_toArray, List.set_cons_zero, List.set_cons_succ, i64_w, i32_w]; rfl)
                      refine pure_ (i := 54) (N := some 118) (v := undef) (a' := ?_) q55 rfl rfl (any_of HT_.out (by kernel_rfl)) (fun _ _ _ h => h) (Or.inr ⟨by rfl, rfl⟩) ?_ ?_
                      rotate_left
                      · (simp only [Act.put, List.setIfInBounds_toArray, List.set_cons_zero, List.set_cons_succ, i64_w, i32_w]; rfl)
                      refine pure_ (i := 55) (N := some 119) (v := undef) (a' := ?_) q56 rfl rfl (any_of HT_.out (by kernel_rfl)) (fun _ _ _ h => h) (Or.inr ⟨by rfl, rfl⟩) ?_ ?_
                      rotate_left
                      · (simp only [Act.put, List.setIfInBounds_toArray, List.set_cons_zero, List.set_cons_succ, i64_w, i32_w]; rfl)
                      refine pure_ (i := 56) (N := some 120) (v := ?_) (a' := ?_) q57 rfl rfl (any_of HT_.out (by kernel_rfl)) (fun _ _ _ h => h) (Or.inl ⟨by rfl, ?_⟩) ?_ ?_
                      rotate_left
                      · (intro w'; go_simp; with_reducible rfl)
                      rotate_left
                      · (simp only [Act.put, List.setIfInBounds_toArray, List.set_cons_zero, List.set_cons_succ, i64_w, i32_w]; rfl)
                      refine pure_ (i := 57) (N := some 121) (v := ?_) (a' := ?_) q58 rfl rfl (any_of HT_.out (by kernel_rfl)) (fun _ _ _ h => h) (Or.inl ⟨by rfl, ?_⟩) ?_ ?_
                      rotate_left
                      · (intro w'; go_simp; with_reducible rfl)
                      rotate_left
                      · (simp only [Act.put, List.setIfInBounds_toArray, List.set_cons_zero, List.set_cons_succ, i64_w, i32_w]; rfl)
                      refine pure_ (i := 58) (N := some 122) (v := ?_) (a' := ?_) q59 rfl rfl (any_of HT_.out (by kernel_rfl)) (fun _ _ _ h => h) (Or.inl ⟨by rfl, ?_⟩) ?_ ?_
                      rotate_left
                      · (intro w'; go_simp; with_reducible rfl)
                      rotate_left
                      · (simp only [Act.put, List.setIfInBounds_toArray, List.set_cons_zero, List.set_cons_succ, i64_w, i32_w]; rfl)
                      refine pure_ (i := 59) (N := some 123) (v := ?_) (a' := ?_) q60 rfl rfl (any_of HT_.out (by kernel_rfl)) (fun _ _ _ h => h) (Or.inl ⟨by rfl, ?_⟩) ?_ ?_
                      rotate_left
                      · (intro w'; go_simp; with_reducible rfl)
                      rotate_left
                      · (simp only [Act.put, List.setIfInBounds_toArray, List.set_cons_zero, List.set_cons_succ, i64_w, i32_w]; rfl)
                      refine done_ (done_of HT_.out (by kernel_rfl)) ?_
                      clear g0 g1
                      have k3 := Aside0.mk H3.out.drew
                      clear H3
                      have H3 := k3
                      clear k3
                      go_wp2
                      go_meet
                      case rel => exact ⟨rfl, H3⟩

                · have d4 : decide ((k : Int) < (s.L.length : Int)) = false := decide_eq_false (by omega)
                  clear hX f0
                  as_aux_lemma =>
                    have g0 : wrap64 ((k : Int) + 1) = (k : Int) + 1 := wrap_k hk6
                    have g1 : IntKind.u64.wrap ((k : Int) + 1) = (k : Int) + 1 := wrap_k2 hk6
                    clear hk6
                    refine start_ (n := 60) (S := fun w' => w'.cell? (ad6.add (k * 5)) = some (.int .u64 ((k : Int) + 1))) (ds := []) q0 (by kernel_rfl) rfl rfl (y0) (fun hHeld => ?_)
                    refine with_tabW CloudOnce.tab16 CloudOnce.bits16 (fun HT_ HW_ => ?_)
                    refine pure_ (i := 0) (N := some 64) (v := ?_) (a' := ?_) q1 rfl rfl (any_of HT_.out (by kernel_rfl)) (fun _ _ _ h => h) (Or.inl ⟨by rfl, ?_⟩) ?_ ?_
                    rotate_left
                    · (intro w'; go_simp; with_reducible rfl)
                    rotate_left
                    · (simp only [Act.put, List.setIfInBounds_toArray, List.set_cons_zero, List.set_cons_succ, i64_w, i32_w]; rfl)
                    refine pure_ (i := 1) (N := some 65) (v := ?_) (a' := ?_) q2 rfl rfl (any_of HT_.out (by kernel_rfl)) (fun _ _ _ h => h) (Or.inl ⟨by rfl, ?_⟩) ?_ ?_
                    rotate_left
                    · (intro w'; go_simp; with_reducible rfl)
                    rotate_left
                    · (simp only [Act.put, List.setIfInBounds_toArray, List.set_cons_zero, List.set_cons_succ, i64_w, i32_w]; rfl)
                    refine pure_ (i := 2) (N := some 66) (v := ?_) (a' := ?_) q3 rfl rfl (any_of HT_.out (by kernel_rfl)) (fun _ _ _ h => h) (Or.inl ⟨by rfl, ?_⟩) ?_ ?_
                    rotate_left
                    · (intro w'; go_simp; with_reducible rfl)
                    rotate_left
                    · (simp only [Act.put, List.setIfInBounds_toArray, List.set_cons_zero, List.set_cons_succ, i64_w, i32_w]; rfl)
                    refine pure_ (i := 3) (N := some 67) (v := ?_) (a' := ?_) q4 rfl rfl (any_of HT_.out (by kernel_rfl)) (fun _ _ _ h => h) (Or.inl ⟨by rfl, ?_⟩) ?_ ?_
                    rotate_left
                    · (intro w'; go_simp; with_reducible rfl)
                    rotate_left
                    · (simp only [Act.put, List.setIfInBounds_toArray, List.set_cons_zero, List.set_cons_succ, i64_w, i32_w]; rfl)
                    refine pure_ (i := 5) (N := some 69) (v := ?_) (a' := ?_) q5 rfl rfl (any_of HT_.out (by kernel_rfl)) (fun _ _ _ h => h) (Or.inl ⟨by rfl, ?_⟩) ?_ ?_
                    rotate_left
                    · (intro w'; go_simp; with_reducible rfl)
                    rotate_left
                    · (simp only [Act.put, List.setIfInBounds_toArray, List.set_cons_zero, List.set_cons_succ, i64_w, i32_w]; rfl)
                    refine pure_ (i := 6) (N := some 70) (v := ?_) (a' := ?_) q6 rfl rfl (any_of HT_.out (by kernel_rfl)) (fun _ _ _ h => h) (Or.inl ⟨by rfl, ?_⟩) ?_ ?_
                    rotate_left
                    · (intro w'; go_simp; with_reducible rfl)
                    rotate_left
                    · (simp only [Act.put, List.setIfInBounds_toArray, List.set_cons_zero, List.set_cons_succ, i64_w, i32_w]; rfl)
                    refine pure_ (i := 7) (N := some 71) (v := ?_) (a' := ?_) q7 rfl rfl (any_of HT_.out (by kernel_rfl)) (fun _ _ _ h => h) (Or.inl ⟨by rfl, ?_⟩) ?_ ?_
                    rotate_left
                    · (intro w'; go_simp; with_reducible rfl)
                    rotate_left
                    · (simp only [Act.put, List.setIfInBounds_toArray, List.set_cons_zero, List.set_cons_succ, i64_w, i32_w]; rfl)
                    refine take_ (i := 4) (N := some 68) (v := ?_) (a' := ?_) q8 rfl rfl (take_ofW HT_.out HW_.out (by kernel_rfl)) (fun _ _ _ h => h) (Or.inl ⟨by rfl, ?_⟩) hHeld ?_ ?_
                    rotate_left
                    · intro w' s0
                      go_simp
                      with_reducible rfl
                    rotate_left
                    · (simp only [Act.put, List.setIfInBounds_toArray, List.set_cons_zero, List.set_cons_succ, i64_w, i32_w]; rfl)
                    refine pure_ (i := 8) (N := some 72) (v := ?_) (a' := ?_) q9 rfl rfl (any_of HT_.out (by kernel_rfl)) (fun _ _ _ h => h) (Or.inl ⟨by rfl, ?_⟩) ?_ ?_
                    rotate_left
                    · (intro w'; go_simp; with_reducible rfl)
                    rotate_left
                    · (simp only [Act.put, List.setIfInBounds_toArray, List.set_cons_zero, List.set_cons_succ, i64_w, i32_w]; rfl)
                    refine pure_ (i := 9) (N := some 73) (v := ?_) (a' := ?_) q10 rfl rfl (any_of HT_.out (by kernel_rfl)) (fun _ _ _ h => h) (Or.inl ⟨by rfl, ?_⟩) ?_ ?_
                    rotate_left
                    · (intro w'; go_simp; with_reducible rfl)
                    rotate_left
                    · (simp only [Act.put, List.setIfInBounds_toArray, List.set_cons_zero, List.set_cons_succ, i64_w, i32_w]; rfl)
                    refine pure_ (i := 10) (N := some 74) (v := ?_) (a' := ?_) q11 rfl rfl (any_of HT_.out (by kernel_rfl)) (fun _ _ _ h => h) (Or.inl ⟨by rfl, ?_⟩) ?_ ?_
                    rotate_left
                    · (intro w'; go_simp; with_reducible rfl)
                    rotate_left
                    · (simp only [Act.put, List.setIfInBounds_toArray, List.set_cons_zero, List.set_cons_succ, i64_w, i32_w]; rfl)
                    refine pure_ (i := 11) (N := some 75) (v := ?_) (a' := ?_) q12 rfl rfl (any_of HT_.out (by kernel_rfl)) (fun _ _ _ h => h) (Or.inl ⟨by rfl, ?_⟩) ?_ ?_
                    rotate_left
                    · (intro w'; go_simp; with_reducible rfl)
                    rotate_left
                    · (simp only [Act.put, List.setIfInBounds_toArray, List.set_cons_zero, List.set_cons_succ, i64_w, i32_w]; rfl)
                    refine pure_ (i := 12) (N := some 76) (v := ?_) (a' := ?_) q13 rfl rfl (any_of HT_.out (by kernel_rfl)) (fun _ _ _ h => h) (Or.inl ⟨by rfl, ?_⟩) ?_ ?_
                    rotate_left
                    · (intro w'; go_simp; with_reducible rfl)
                    rotate_left
                    · (simp only [Act.put, List.setIfInBounds_toArray, List.set_cons_zero, List.set_cons_succ, i64_w, i32_w]; rfl)
                    refine pure_ (i := 13) (N := some 77) (v := ?_) (a' := ?_) q14 rfl rfl (any_of HT_.out (by kernel_rfl)) (fun _ _ _ h => h) (Or.inl ⟨by rfl, ?_⟩) ?_ ?_
                    rotate_left
                    · (intro w'; go_simp; with_reducible rfl)
                    rotate_left
                    · (simp only [Act.put, List.setIfInBounds_toArray, List.set_cons_zero, List.set_cons_succ, i64_w, i32_w]; rfl)
                    refine pure_ (i := 14) (N := some 78) (v := ?_) (a' := ?_) q15 rfl rfl (any_of HT_.out (by kernel_rfl)) (fun _ _ _ h => h) (Or.inl ⟨by rfl, ?_⟩) ?_ ?_
                    rotate_left
                    · (intro w'; go_simp; with_reducible rfl)
                    rotate_left
                    · (simp only [Act.put, List.setIfInBounds_toArray, List.set_cons_zero, List.set_cons_succ, i64_w, i32_w]; rfl)
                    refine pure_ (i := 15) (N := some 79) (v := undef) (a' := ?_) q16 rfl rfl (any_of HT_.out (by kernel_rfl)) (fun _ _ _ h => h) (Or.inr ⟨by rfl, rfl⟩) ?_ ?_
                    rotate_left
                    · (simp only [Act.put, List.setIfInBounds_toArray, List.set_cons_zero, List.set_cons_succ, i64_w, i32_w]; rfl)
                    refine pure_ (i := 16) (N := some 80) (v := undef) (a' := ?_) q17 rfl rfl (any_of HT_.out (by kernel_rfl)) (fun _ _ _ h => h) (Or.inr ⟨by rfl, rfl⟩) ?_ ?_
                    rotate_left
                    · (simp only [Act.put, List.setIfInBounds_toArray, List.set_cons_zero, List.set_cons_succ, i64_w, i32_w]; rfl)
                    refine pure_ (i := 17) (N := some 81) (v := undef) (a' := ?_) q18 rfl rfl (any_of HT_.out (by kernel_rfl)) (fun _ _ _ h => h) (Or.inr ⟨by rfl, rfl⟩) ?_ ?_
                    rotate_left
                    · (simp only [Act.put, List.setIfInBounds_toArray, List.set_cons_zero, List.set_cons_succ, i64_w, i32_w]; rfl)
                    refine pure_ (i := 18) (N := some 82) (v := undef) (a' := ?_) q19 rfl rfl (any_of HT_.out (by kernel_rfl)) (fun _ _ _ h => h) (Or.inr ⟨by rfl, rfl⟩) ?_ ?_
                    rotate_left
                    · (simp only [Act.put, List.setIfInBounds_toArray, List.set_cons_zero, List.set_cons_succ, i64_w, i32_w]; rfl)
                    refine pure_ (i := 19) (N := some 83) (v := undef) (a' := ?_) q64 rfl rfl (any_of HT_.out (by kernel_rfl)) (fun _ _ _ h => h) (Or.inr ⟨by rfl, rfl⟩) ?_ ?_
                    rotate_left
                    · (simp only [Act.put, List.setIfInBounds_toArray, List.set_cons_zero, List.set_cons_succ, i64_w, i32_w]; rfl)
                    refine pure_ (i := 20) (N := some 84) (v := undef) (a' := ?_) q65 rfl rfl (any_of HT_.out (by kernel_rfl)) (fun _ _ _ h => h) (Or.inr ⟨by rfl, rfl⟩) ?_ ?_
                    rotate_left
                    · (simp only [Act.put, List.setIfInBounds_toArray, List.set_cons_zero, List.set_cons_succ, i64_w, i32_w]; rfl)
                    refine pure_ (i := 21) (N := some 85) (v := undef) (a' := ?_) q66 rfl rfl (any_of HT_.out (by kernel_rfl)) (fun _ _ _ h => h) (Or.inr ⟨by rfl, rfl⟩) ?_ ?_
                    rotate_left
                    · (simp only [Act.put, List.setIfInBounds_toArray, List.set_cons_zero, List.set_cons_succ, i64_w, i32_w]; rfl)
                    refine pure_ (i := 22) (N := some 86) (v := undef) (a' := ?_) q67 rfl rfl (any_of HT_.out (by kernel_rfl)) (fun _ _ _ h => h) (Or.inr ⟨by rfl, rfl⟩) ?_ ?_
                    rotate_left
                    · (simp only [Act.put, List.setIfInBounds_toArray, List.set_cons_zero, List.set_cons_succ, i64_w, i32_w]; rfl)
                    refine pure_ (i := 23) (N := some 87) (v := undef) (a' := ?_) q24 rfl rfl (any_of HT_.out (by kernel_rfl)) (fun _ _ _ h => h) (Or.inr ⟨by rfl, rfl⟩) ?_ ?_
                    rotate_left
                    · (simp only [Act.put, List.setIfInBounds_toArray, List.set_cons_zero, List.set_cons_succ, i64_w, i32_w]; rfl)
                    refine pure_ (i := 24) (N := some 88) (v := undef) (a' := ?_) q25 rfl rfl (any_of HT_.out (by kernel_rfl)) (fun _ _ _ h => h) (Or.inr ⟨by rfl, rfl⟩) ?_ ?_
                    rotate_left
                    · (simp only [Act.put, List.setIfInBounds_toArray, List.set_cons_zero, List.set_cons_succ, i64_w, i32_w]; rfl)
                    refine pure_ (i := 25) (N := some 89) (v := undef) (a' := ?_) q26 rfl rfl (any_of HT_.out (by kernel_rfl)) (fun _ _ _ h => h) (Or.inr ⟨by rfl, rfl⟩) ?_ ?_
                    rotate_left
                    · (simp only [Act.put, List.setIfInBounds_toArray, List.set_cons_zero, List.set_cons_succ, i64_w, i32_w]; rfl)
                    refine pure_ (i := 26) (N := some 90) (v := undef) (a' := ?_) q27 rfl rfl (any_of HT_.out (by kernel_rfl)) (fun _ _ _ h => h) (Or.inr ⟨by rfl, rfl⟩) ?_ ?_
                    rotate_left
                    · (simp only [Act.put, List.setIfInBounds_toArray, List.set_cons_zero, List.set_cons_succ, i64_w, i32_w]; rfl)
                    refine pure_ (i := 27) (N := some 91) (v := undef) (a' := ?_) q28 rfl rfl (any_of HT_.out (by kernel_rfl)) (fun _ _ _ h => h) (Or.inr ⟨by rfl, rfl⟩) ?_ ?_
                    rotate_left
                    · (simp only [Act.put, List.setIfInBounds_toArray, List.set_cons_zero, List.set_cons_succ, i64_w, i32_w]; rfl)
                    refine pure_ (i := 28) (N := some 92) (v := undef) (a' := ?_) q29 rfl rfl (any_of HT_.out (by kernel_rfl)) (fun _ _ _ h => h) (Or.inr ⟨by rfl, rfl⟩) ?_ ?_
                    rotate_left
                    · (simp only [Act.put, List.setIfInBounds_toArray, List.set_cons_zero, List.set_cons_succ, i64_w, i32_w]; rfl)
                    refine pure_ (i := 29) (N := some 93) (v := undef) (a' := ?_) q30 rfl rfl (any_of HT_.out (by kernel_rfl)) (fun _ _ _ h => h) (Or.inr ⟨by rfl, rfl⟩) ?_ ?_
                    rotate_left
                    · (simp only [Act.put, List.setIfInBounds_toArray, List.set_cons_zero, List.set_cons_succ, i64_w, i32_w]; rfl)
                    refine pure_ (i := 30) (N := some 94) (v := undef) (a' := ?_) q31 rfl rfl (any_of HT_.out (by kernel_rfl)) (fun _ _ _ h => h) (Or.inr ⟨by rfl, rfl⟩) ?_ ?_
                    rotate_left
                    · (simp only [Act.put, List.setIfInBounds_toArray, List.set_cons_zero, List.set_cons_succ, i64_w, i32_w]; rfl)
                    refine pure_ (i := 31) (N := some 95) (v := undef) (a' := ?_) q68 rfl rfl (any_of HT_.out (by kernel_rfl)) (fun _ _ _ h => h) (Or.inr ⟨by rfl, rfl⟩) ?_ ?_
                    rotate_left
                    · (simp only [Act.put, List.setIfInBounds_toArray, List.set_cons_zero, List.set_cons_succ, i64_w, i32_w]; rfl)
                    refine pure_ (i := 32) (N := some 96) (v := undef) (a' := ?_) q69 rfl rfl (any_of HT_.out (by kernel_rfl)) (fun _ _ _ h => h) (Or.inr ⟨by rfl, rfl⟩) ?_ ?_
                    rotate_left
                    · (simp only [Act.put, List.setIfInBounds_toArray, List.set_cons_zero, List.set_cons_succ, i64_w, i32_w]; rfl)
                    refine pure_ (i := 33) (N := some 97) (v := undef) (a' := ?_) q70 rfl rfl (any_of HT_.out (by kernel_rfl)) (fun _ _ _ h => h) (Or.inr ⟨by rfl, rfl⟩) ?_ ?_
                    rotate_left
                    · (simp only [Act.put, List.setIfInBounds_toArray, List.set_cons_zero, List.set_cons_succ, i64_w, i32_w]; rfl)
                    refine pure_ (i := 34) (N := some 98) (v := undef) (a' := ?_) q71 rfl rfl (any_of HT_.out (by kernel_rfl)) (fun _ _ _ h => h) (Or.inr ⟨by rfl, rfl⟩) ?_ ?_
                    rotate_left
                    · (simp only [Act.put, List.setIfInBounds_toArray, List.set_cons_zero, List.set_cons_succ, i64_w, i32_w]; rfl)
                    refine pure_ (i := 35) (N := some 99) (v := undef) (a' := ?_) q36 rfl rfl (any_of HT_.out (by kernel_rfl)) (fun _ _ _ h => h) (Or.inr ⟨by rfl, rfl⟩) ?_ ?_
                    rotate_left
                    · (simp only [Act.put, List.setIfInBounds_toArray, List.set_cons_zero, List.set_cons_succ, i64_w, i32_w]; rfl)
                    refine pure_ (i := 36) (N := some 100) (v := undef) (a' := ?_) q37 rfl rfl (any_of HT_.out (by kernel_rfl)) (fun _ _ _ h => h) (Or.inr ⟨by rfl, rfl⟩) ?_ ?_
                    rotate_left
                    · (simp only [Act.put, List.setIfInBounds_toArray, List.set_cons_zero, List.set_cons_succ, i64_w, i32_w]; rfl)
                    refine pure_ (i := 37) (N := some 101) (v := undef) (a' := ?_) q38 rfl rfl (any_of HT_.out (by kernel_rfl)) (fun _ _ _ h => h) (Or.inr ⟨by rfl, rfl⟩) ?_ ?_
                    rotate_left
                    · (simp only [Act.put, List.setIfInBounds_toArray, List.set_cons_zero, List.set_cons_succ, i64_w, i32_w]; rfl)
                    refine pure_ (i := 38) (N := some 102) (v := undef) (a' := ?_) q39 rfl rfl (any_of HT_.out (by kernel_rfl)) (fun _ _ _ h => h) (Or.inr ⟨by rfl, rfl⟩) ?_ ?_
                    rotate_left
                    · (simp only [Act.put, List.setIfInBounds_toArray, List.set_cons_zero, List.set_cons_succ, i64_w, i32_w]; rfl)
                    refine pure_ (i := 39) (N := some 103) (v := undef) (a' := ?_) q40 rfl rfl (any_of HT_.out (by kernel_rfl)) (fun _ _ _ h => h) (Or.inr ⟨by rfl, rfl⟩) ?_ ?_
                    rotate_left
                    · (simp only [Act.put, List.setIfInBounds_toArray, List.set_cons_zero, List.set_cons_succ, i64_w, i32_w]; rfl)
                    refine pure_ (i := 40) (N := some 104) (v := undef) (a' := ?_) q41 rfl rfl (any_of HT_.out (by kernel_rfl)) (fun _ _ _ h => h) (Or.inr ⟨by rfl, rfl⟩) ?_ ?_
                    rotate_left
                    · (simp only [Act.put, List.setIfInBounds_toArray, List.set_cons_zero, List.set_cons_succ, i64_w, i32_w]; rfl)
                    refine pure_ (i := 41) (N := some 105) (v := undef) (a' := ?_) q42 rfl rfl (any_of HT_.out (by kernel_rfl)) (fun _ _ _ h => h) (Or.inr ⟨by rfl, rfl⟩) ?_ ?_
                    rotate_left
                    · (simp only [Act.put, List.setIfInBounds_toArray, List.set_cons_zero, List.set_cons_succ, i64_w, i32_w]; rfl)
                    refine pure_ (i := 42) (N := some 106) (v := undef) (a' := ?_) q43 rfl rfl (any_of HT_.out (by kernel_rfl)) (fun _ _ _ h => h) (Or.inr ⟨by rfl, rfl⟩) ?_ ?_
                    rotate_left
                    · (simp only [Act.put, List.setIfInBounds_toArray, List.set_cons_zero, List.set_cons_succ, i64_w, i32_w]; rfl)
                    refine pure_ (i := 43) (N := some 107) (v := undef) (a' := ?_) q44 rfl rfl (any_of HT_.out (by kernel_rfl)) (fun _ _ _ h => h) (Or.inr ⟨by rfl, rfl⟩) ?_ ?_
                    rotate_left
                    · (simp only [Act.put, List.setIfInBounds_toArray, List.set_cons_zero, List.set_cons_succ, i64_w, i32_w]; rfl)
                    refine pure_ (i := 44) (N := some 108) (v := undef) (a' := ?_) q45 rfl rfl (any_of HT_.out (by kernel_rfl)) (fun _ _ _ h => h) (Or.inr ⟨by rfl, rfl⟩) ?_ ?_
                    rotate_left
                    · (simp only [Act.put, List.setIfInBounds_toArray, List.set_cons_zero, List.set_cons_succ, i64_w, i32_w]; rfl)
                    refine pure_ (i := 45) (N := some 109) (v := undef) (a' := ?_) q46 rfl rfl (any_of HT_.out (by kernel_rfl)) (fun _ _ _ h => h) (Or.inr ⟨by rfl, rfl⟩) ?_ ?_
                    rotate_left
                    · (simp only [Act.put, List.setIfInBounds_toArray, List.set_cons_zero, List.set_cons_succ, i64_w, i32_w]; rfl)
                    refine pure_ (i := 46) (N := some 110) (v := undef) (a' := ?_) q47 rfl rfl (any_of HT_.out (by kernel_rfl)) (fun _ _ _ h => h) (Or.inr ⟨by rfl, rfl⟩) ?_ ?_
                    rotate_left
                    · (simp only [Act.put, List.setIfInBounds_toArray, List.set_cons_zero, List.set_cons_succ, i64_w, i32_w]; rfl)
                    refine pure_ (i := 47) (N := some 111) (v := undef) (a' := ?_) q48 rfl rfl (any_of HT_.out (by kernel_rfl)) (fun _ _ _ h => h) (Or.inr ⟨by rfl, rfl⟩) ?_ ?_
                    rotate_left
                    · (simp only [Act.put, List.setIfInBounds_toArray, List.set_cons_zero, List.set_cons_succ, i64_w, i32_w]; rfl)
                    refine pure_ (i := 48) (N := some 112) (v := undef) (a' := ?_) q49 rfl rfl (any_of HT_.out (by kernel_rfl)) (fun _ _ _ h => h) (Or.inr ⟨by rfl, rfl⟩) ?_ ?_
                    rotate_left
                    · (simp only [Act.put, List.setIfInBounds_toArray, List.set_cons_zero, List.set_cons_succ, i64_w, i32_w]; rfl)
                    refine pure_ (i := 49) (N := some 113) (v := undef) (a' := ?_) q50 rfl rfl (any_of HT_.out (by kernel_rfl)) (fun _ _ _ h => h) (Or.inr ⟨by rfl, rfl⟩) ?_ ?_
                    rotate_left
                    · (simp only [Act.put, List.setIfInBounds_toArray, List.set_cons_zero, List.set_cons_succ, i64_w, i32_w]; rfl)
                    refine pure_ (i := 50) (N := some 114) (v := undef) (a' := ?_) q61 rfl rfl (any_of HT_.out (by kernel_rfl)) (fun _ _ _ h => h) (Or.inr ⟨by rfl, rfl⟩) ?_ ?_
                    rotate_left
                    · (simp only [Act.put, List.setIfInBounds_toArray, List.set_cons_zero, List.set_cons_succ, i64_w, i32_w]; rfl)
                    refine pure_ (i := 51) (N := some 115) (v := undef) (a' := ?_) q62 rfl rfl (any_of HT_.out (by kernel_rfl)) (fun _ _ _ h => h) (Or.inr ⟨by rfl, rfl⟩) ?_ ?_
                    rotate_left
                    · (simp only [Act.put, List.setIfInBounds_toArray, List.set_cons_zero, List.set_cons_succ, i64_w, i32_w]; rfl)
                    refine pure_ (i := 52) (N := some 116) (v := undef) (a' := ?_) q63 rfl rfl (any_of HT_.out (by kernel_rfl)) (fun _ _ _ h => h) (Or.inr ⟨by rfl, rfl⟩) ?_ ?_
                    rotate_left
                    · (simp only [Act.put, List.setIfInBounds_toArray, List.set_cons_zero, List.set_cons_succ, i64_w, i32_w]; rfl)
                    refine pure_ (i := 53) (N := some 117) (v := undef) (a' := ?_) q54 rfl rfl (any_of HT_.out (by kernel_rfl)) (fun _ _ _ h => h) (Or.inr ⟨by rfl, rfl⟩) ?_ ?_
                    rotate_left
                    · (simp only [Act.put, List.setIfInBounds_toArray, List.set_cons_zero, List.set_cons_succ, i64_w, i32_w]; rfl)
                    refine pure_ (i := 54) (N := some 118) (v := undef) (a' := ?_) q55 rfl rfl (any_of HT_.out (by kernel_rfl)) (fun _ _ _ h => h) (Or.inr ⟨by rfl, rfl⟩) ?_ ?_
                    rotate_left
                    · (simp only [Act.put, List.setIfInBounds_toArray, List.set_cons_zero, List.set_cons_succ, i64_w, i32_w]; rfl)
                    refine pure_ (i := 55) (N := some 119) (v := undef) (a' := ?_) q56 rfl rfl (any_of HT_.out (by kernel_rfl)) (fun _ _ _ h => h) (Or.inr ⟨by rfl, rfl⟩) ?_ ?_
                    rotate_left
                    · (simp only [Act.put, List.setIfInBounds_toArray, List.set_cons_zero, List.set_cons_succ, i64_w, i32_w]; rfl)
                    refine pure_ (i := 56) (N := some 120) (v := undef) (a' := ?_) q57 rfl rfl (any_of HT_.out (by kernel_rfl)) (fun _ _ _ h => h) (Or.inr ⟨by rfl, rfl⟩) ?_ ?_
                    rotate_left
                    · (simp only [Act.put, List.setIfInBounds_toArray, List.set_cons_zero, List.set_cons_succ, i64_w, i32_w]; rfl)
                    refine pure_ (i := 57) (N := some 121) (v := undef) (a' := ?_) q58 rfl rfl (any_of HT_.out (by kernel_rfl)) (fun _ _ _ h => h) (Or.inr ⟨by rfl, rfl⟩) ?_ ?_
                    rotate_left
                    · (simp only [Act.put, List.setIfInBounds_toArray, List.set_cons_zero, List.set_cons_succ, i64_w, i32_w]; rfl)
                    refine pure_ (i := 58) (N := some 122) (v := ?_) (a' := ?_) q59 rfl rfl (any_of HT_.out (by kernel_rfl)) (fun _ _ _ h => h) (Or.inl ⟨by rfl, ?_⟩) ?_ ?_
                    rotate_left
                    · (intro w'; go_simp; with_reducible rfl)
                    rotate_left
                    · (simp only [Act.put, List.setIfInBounds_toArray, List.set_cons_zero, List.set_cons_succ, i64_w, i32_w]; rfl)
                    refine pure_ (i := 59) (N := some 123) (v := ?_) (a' := ?_) q60 rfl rfl (any_of HT_.out (by kernel_rfl)) (fun _ _ _ h => h) (Or.inl ⟨by rfl, ?_⟩) ?_ ?_
                    rotate_left
                    · (intro w'; go_simp; with_reducible rfl)
                    rotate_left
                    · (simp only [Act.put, List.setIfInBounds_toArray, List.set_cons_zero, List.set_cons_succ, i64_w, i32_w]; rfl)
                    refine done_ (done_of HT_.out (by kernel_rfl)) ?_
                    clear g0 g1
                    have k3 := Aside0.mk H3.out.drew
                    clear H3
                    have H3 := k3
                    clear k3
                    go_wp2
                    go_meet
                    case rel => exact ⟨rfl, H3⟩

              case rest =>
                clear H3
                obtain ⟨rfl, H3⟩ := hcut
                as_aux_lemma =>
                  go_wp2
                  go_loopg [9] k (fun kp v9 w' => ∃ m : Nat, m + kp = k ∧ v9 = .int .i64 m ∧ Aside0 (Below w3.heap.size w3 w'))
                  case atStart => exact ⟨0, by omega, rfl, H3⟩
                  case round =>
                    clear H3
                    obtain ⟨m, hm, rfl, H3⟩ := hrel
                    by_cases hmk : m < k
                    · have e1 : decide ((m : Int) < (k : Int)) = true := decide_eq_true (by omega)
                      have j1 : (0 : Int) ≤ (m : Int) := by omega
                      have j2 : (m : Int) < (t.L.length : Int) := by omega
                      obtain ⟨Xm, hXm⟩ : ∃ x, x = at50 t.L m := ⟨_, rfl⟩
                      obtain ⟨X, hX⟩ : ∃ x, x = at50 t.L k := ⟨_, rfl⟩
                      obtain ⟨ad6, e, y0, y1, y2, y3, y4⟩ := at_T50 (Kd.C_below H6.out H3.out) (k : Int) (by omega) (by omega)
                      cases e
                      simp only [Int.toNat_natCast] at y0 y1 y2 y3 y4
                      rw [rd50, ← hX] at y0 y1 y2 y3 y4
                      obtain ⟨ad6, e, u0, u1, u2, u3, u4⟩ := at_T50 (Kd.C_below H6.out H3.out) (m : Int) (by omega) (by omega)
                      cases e
                      simp only [Int.toNat_natCast] at u0 u1 u2 u3 u4
                      rw [rd50, ← hXm] at u0 u1 u2 u3 u4
                      have f1 : (Xm.f1 == X.f1) = false := beq_false_of_ne (by rw [hXm, hX]; exact HK1.out.tok m k hmk hkl)
                      clear hXm hX y0 y2 y3 y4 u0 u2 u3 u4
                      go_upto_region 21 with fail
                      refine start_ (n := 11) (S := fun w' => w'.cell? ⟨(ad6.add (m * 5)).block, (ad6.add (m * 5)).off + 1, none⟩ = some (.int .u64 Xm.f1) ∧ w'.cell? ⟨(ad6.add (k * 5)).block, (ad6.add (k * 5)).off + 1, none⟩ = some (.int .u64 X.f1)) (ds := []) q72 (by kernel_rfl) rfl rfl ⟨u1, y1⟩ (fun hHeld => ?_)
                      refine with_tabW CloudOnce.tab21 CloudOnce.bits21 (fun HT_ HW_ => ?_)
                      refine pure_ (i := 0) (N := some 129) (v := ?_) (a' := ?_) q73 rfl rfl (any_of HT_.out (by kernel_rfl)) (fun _ _ _ h => h) (Or.inl ⟨by rfl, ?_⟩) ?_ ?_
                      rotate_left
                      · (intro w'; go_simp; with_reducible rfl)
                      rotate_left
                      · (simp only [Act.put, List.setIfInBounds_toArray, List.set_cons_zero, List.set_cons_succ, i64_w, i32_w]; rfl)
                      refine pure_ (i := 1) (N := some 130) (v := ?_) (a' := ?_) q74 rfl rfl (any_of HT_.out (by kernel_rfl)) (fun _ _ _ h => h) (Or.inl ⟨by rfl, ?_⟩) ?_ ?_
                      rotate_left
                      · (intro w'; go_simp; with_reducible rfl)
                      rotate_left
                      · (simp only [Act.put, List.setIfInBounds_toArray, List.set_cons_zero, List.set_cons_succ, i64_w, i32_w]; rfl)
                      refine pure_ (i := 2) (N := some 131) (v := ?_) (a' := ?_) q75 rfl rfl (any_of HT_.out (by kernel_rfl)) (fun _ _ _ h => h) (Or.inl ⟨by rfl, ?_⟩) ?_ ?_
                      rotate_left
                      · (intro w'; go_simp; with_reducible rfl)
                      rotate_left
                      · (simp only [Act.put, List.setIfInBounds_toArray, List.set_cons_zero, List.set_cons_succ, i64_w, i32_w]; rfl)
                      refine pure_ (i := 3) (N := some 132) (v := ?_) (a' := ?_) q76 rfl rfl (any_of HT_.out (by kernel_rfl)) (fun _ _ _ h => h) (Or.inl ⟨by rfl, ?_⟩) ?_ ?_
                      rotate_left
                      · (intro w'; go_simp; with_reducible rfl)
                      rotate_left
                      · (simp only [Act.put, List.setIfInBounds_toArray, List.set_cons_zero, List.set_cons_succ, i64_w, i32_w]; rfl)
                      refine pure_ (i := 5) (N := some 134) (v := ?_) (a' := ?_) q77 rfl rfl (any_of HT_.out (by kernel_rfl)) (fun _ _ _ h => h) (Or.inl ⟨by rfl, ?_⟩) ?_ ?_
                      rotate_left
                      · (intro w'; go_simp; with_reducible rfl)
                      rotate_left
                      · (simp only [Act.put, List.setIfInBounds_toArray, List.set_cons_zero, List.set_cons_succ, i64_w, i32_w]; rfl)
                      refine pure_ (i := 6) (N := some 135) (v := ?_) (a' := ?_) q78 rfl rfl (any_of HT_.out (by kernel_rfl)) (fun _ _ _ h => h) (Or.inl ⟨by rfl, ?_⟩) ?_ ?_
                      rotate_left
                      · (intro w'; go_simp; with_reducible rfl)
                      rotate_left
                      · (simp only [Act.put, List.setIfInBounds_toArray, List.set_cons_zero, List.set_cons_succ, i64_w, i32_w]; rfl)
                      refine pure_ (i := 7) (N := some 136) (v := ?_) (a' := ?_) q79 rfl rfl (any_of HT_.out (by kernel_rfl)) (fun _ _ _ h => h) (Or.inl ⟨by rfl, ?_⟩) ?_ ?_
                      rotate_left
                      · (intro w'; go_simp; with_reducible rfl)
                      rotate_left
                      · (simp only [Act.put, List.setIfInBounds_toArray, List.set_cons_zero, List.set_cons_succ, i64_w, i32_w]; rfl)
                      refine pure_ (i := 8) (N := some 137) (v := ?_) (a' := ?_) q80 rfl rfl (any_of HT_.out (by kernel_rfl)) (fun _ _ _ h => h) (Or.inl ⟨by rfl, ?_⟩) ?_ ?_
                      rotate_left
                      · (intro w'; go_simp; with_reducible rfl)
                      rotate_left
                      · (simp only [Act.put, List.setIfInBounds_toArray, List.set_cons_zero, List.set_cons_succ, i64_w, i32_w]; rfl)
                      refine take_ (i := 4) (N := some 133) (v := ?_) (a' := ?_) q81 rfl rfl (take_ofW HT_.out HW_.out (by kernel_rfl)) (fun _ _ _ h => h) (Or.inl ⟨by rfl, ?_⟩) hHeld ?_ ?_
                      rotate_left
                      · (rintro w' ⟨s0, s1⟩; go_simp; with_reducible rfl)
                      rotate_left
                      · (simp only [Act.put, List.setIfInBounds_toArray, List.set_cons_zero, List.set_cons_succ, i64_w, i32_w]; rfl)
                      refine take_ (i := 9) (N := some 138) (v := ?_) (a' := ?_) q82 rfl rfl (take_ofW HT_.out HW_.out (by kernel_rfl)) (fun _ _ _ h => h) (Or.inl ⟨by rfl, ?_⟩) hHeld ?_ ?_
                      rotate_left
                      · (rintro w' ⟨s0, s1⟩; go_simp; with_reducible rfl)
                      rotate_left
                      · (simp only [Act.put, List.setIfInBounds_toArray, List.set_cons_zero, List.set_cons_succ, i64_w, i32_w]; rfl)
                      refine pure_ (i := 10) (N := some 139) (v := ?_) (a' := ?_) q83 rfl rfl (any_of HT_.out (by kernel_rfl)) (fun _ _ _ h => h) (Or.inl ⟨by rfl, ?_⟩) ?_ ?_
                      rotate_left
                      · (intro w'; go_simp; with_reducible rfl)
                      rotate_left
                      · (simp only [Act.put, List.setIfInBounds_toArray, List.set_cons_zero, List.set_cons_succ, i64_w, i32_w]; rfl)
                      refine done_ (done_of HT_.out (by kernel_rfl)) ?_
                      have k3 := Aside0.mk H3.out.drew
                      clear H3 u1 y1 hHeld
                      have H3 := k3
                      clear k3
                      go_wp2
                      go_roundg (k - (m + 1))
                      case measure => omega
                      case rel => exact ⟨m + 1, by omega, (by first | with_reducible rfl | (simp; done) | (rw [wrap_k (show m < 1000000 by have := HNT.out; omega)]; simp; done) | (rw [wrap_k (show m < 1000000 by have := HNT.out; omega)]; rfl)), H3⟩
                    · have e1 : decide ((m : Int) < (k : Int)) = false := decide_eq_false (by omega)
                      obtain ⟨X, hX⟩ : ∃ x, x = at50 t.L k := ⟨_, rfl⟩
                      obtain ⟨ad6, e, y0, y1, y2, y3, y4⟩ := at_T50 (Kd.C_below H6.out H3.out) (k : Int) (by omega) (by omega)
                      cases e
                      simp only [Int.toNat_natCast] at y0 y1 y2 y3 y4
                      rw [rd50, ← hX] at y0 y1 y2 y3 y4
                      have CS := Aside0.mk (cnt_step t.L k hkl)
                      rw [← hX] at CS
                      clear hX
                      by_cases h4 : X.f3 = 4
                      · have f4 : (X.f3 != 4) = false := by rw [h4]; rfl
                        rw [if_pos h4] at CS
                        clear h4 y0 y1 y2 y4
                        go_wp2
                        go_roundg (t.L.length - (k + 1))
                        case measure => omega
                        case rel => exact ⟨k + 1, by omega, (by first | with_reducible rfl | (simp; done) | (rw [wrap_k (show k < 1000000 by have := HNT.out; omega)]; simp; done) | (rw [wrap_k (show k < 1000000 by have := HNT.out; omega)]; rfl)), by rw [CS.out], H3⟩
                      · have f4 : (X.f3 != 4) = true := by simp [h4]
                        rw [if_neg h4] at CS
                        have CB := Aside0.mk (cnt_le t.L k)
                        clear h4 y0 y1 y2 y4
                        go_wp2
                        go_roundg (t.L.length - (k + 1))
                        case measure => omega
                        case rel => exact ⟨k + 1, by omega, (by first | with_reducible rfl | (simp; done) | (rw [wrap_k (show k < 1000000 by have := HNT.out; omega)]; simp; done) | (rw [wrap_k (show k < 1000000 by have := HNT.out; omega)]; rfl)), (by rw [CS.out]; first | rfl | (rw [wrap_ok (by have := CB.out; have := cnt_nonneg t.L k; omega) (by have := CB.out; have := cnt_nonneg t.L k; have := HNT.out; omega)])), H3⟩

            · have d3 : decide ((k : Int) < (t.L.length : Int)) = false := decide_eq_false (by omega)
              obtain rfl : k = t.L.length := by omega
              rw [cnt_all]
              as_aux_lemma =>
                go_wp2_with (go_at_call 9; with_reducible refine (Waits.calls _ gc mb _ vl vw t (HC.out.below H3.out) HNW.out).mono ?_; rintro e w4 ⟨v4, rfl, hr, hb⟩; obtain ⟨A10, c10, e10, hc10, hK10⟩ := hr.slice; subst e10; have H10 := Aside0.mk hK10; have hb3 := H3.out.trans (Below.mono hb H3.out.size); have k1 := Aside0.mk (HC.out.below hb3); have k2 := Aside0.mk (N6.out.below hb3); have k4 := Aside0.mk (Kd.C_below H6.out hb3); have k3 := Aside0.mk (HB.out.trans (Below.mono hb3 HC.out.base)); clear HC N6 H6 HB H3 hr hK10 hb hb3; have HC := k1; have N6 := k2; have H6 := k4; have HB := k3; clear k1 k2 k3 k4)
                have H3 := Aside0.mk (Below.refl w4.heap.size w4)
                go_loopg [11] t.W.length (fun kr v11 w' => ∃ k : Nat, k + kr = t.W.length ∧ v11 = .int .i64 k ∧ Aside0 (Below w4.heap.size w4 w'))
                case atStart => exact ⟨0, by omega, rfl, H3⟩
                case round =>
                  clear H3
                  obtain ⟨k, hk, rfl, H3⟩ := hrel
                  by_cases hkl : k < t.W.length
                  · have d3 : decide ((k : Int) < (t.W.length : Int)) = true := decide_eq_true (by omega)
                    have i1 : (0 : Int) ≤ (k : Int) := by omega
                    have i2 : (k : Int) < (t.W.length : Int) := by omega
                    go_upto_region 29 with fail
                    go_cut [193] (fun v193 wc => v193 = .bool false ∧ Aside0 (Below w4.heap.size w4 wc))
                    case first =>
                      obtain ⟨Y, hY⟩ : ∃ x, x = at27 t.W k := ⟨_, rfl⟩
                      obtain ⟨ad10, e, y0, y1, y2, y3, y4⟩ := at_T27 (Kd.C_below H10.out H3.out) (k : Int) (by omega) (by omega)
                      cases e
                      simp only [Int.toNat_natCast] at y0 y1 y2 y3 y4
                      rw [rd27, ← hY] at y0 y1 y2 y3 y4
                      by_cases h1 : Y.f0 = 1
                      · have f0 : (Y.f0 != 1) = false := by rw [h1]; rfl
                        clear hY h1 y1 y2 y3 y4
                        go_wp2
                        go_meet
                        case rel => exact ⟨rfl, H3⟩
                      · have f0 : (Y.f0 != 1) = true := by simp [h1]
                        obtain ⟨j, hj, e4, hg⟩ := HK1.out.wid Y (by rw [hY]; exact mem27 hkl) h1
                        have hj' : j ≤ 1000000 := by have := HNT.out; omega
                        have e5 : Y.f4 - 1 = (j : Int) := by omega
                        have g1 : decide (Y.f4 < 1) = false := decide_eq_false (by omega)
                        have g2 : decide (Y.f4 > (t.L.length : Int)) = false := decide_eq_false (by omega)
                        have g3 : decide ((t.L.length : Int) < Y.f4) = false := decide_eq_false (by omega)
                        have g4 : IntKind.u64.wrap (t.L.length : Int) = (t.L.length : Int) := wrap_u _ (by omega) (by have := HNT.out; omega)
                        have g5 : IntKind.u64.wrap (Y.f4 - 1) = (j : Int) := by rw [e5]; exact wrap_u _ (by omega) (by omega)
                        have j1 : (0 : Int) ≤ (j : Int) := by omega
                        have j2 : (j : Int) < (t.L.length : Int) := by omega
                        obtain ⟨X, hX⟩ : ∃ x, x = at50 t.L j := ⟨_, rfl⟩
                        obtain ⟨ad6, e, u0, u1, u2, u3, u4⟩ := at_T50 (Kd.C_below H6.out H3.out) (j : Int) (by omega) (by omega)
                        cases e
                        simp only [Int.toNat_natCast] at u0 u1 u2 u3 u4
                        rw [rd50, ← hX] at u0 u1 u2 u3 u4
                        rw [← hX] at hg
                        have f4 : (X.f3 == 4) = false := beq_false_of_ne hg
                        clear hY hX h1 e4 e5 hg y1 y2 y3 u0 u1 u2 u4
                        go_wp2
                        go_meet
                        case rel => exact ⟨rfl, H3⟩
                    case rest =>
                      clear H3
                      obtain ⟨rfl, H3⟩ := hcut
                      as_aux_lemma =>
                        go_wp2
                        go_loopg [12] k (fun kq v12 w' => ∃ m : Nat, m + kq = k ∧ v12 = .int .i64 m ∧ Aside0 (Below w4.heap.size w4 w'))
                        case atStart => exact ⟨0, by omega, rfl, H3⟩
                        case round =>
                          clear H3
                          obtain ⟨m, hm, rfl, H3⟩ := hrel
                          by_cases hmk : m < k
                          · have e1 : decide ((m : Int) < (k : Int)) = true := decide_eq_true (by omega)
                            have j1 : (0 : Int) ≤ (m : Int) := by omega
                            have j2 : (m : Int) < (t.W.length : Int) := by omega
                            obtain ⟨Ym, hYm⟩ : ∃ x, x = at27 t.W m := ⟨_, rfl⟩
                            obtain ⟨Y, hY⟩ : ∃ x, x = at27 t.W k := ⟨_, rfl⟩
                            obtain ⟨ad10, e, y0, y1, y2, y3, y4⟩ := at_T27 (Kd.C_below H10.out H3.out) (k : Int) (by omega) (by omega)
                            cases e
                            simp only [Int.toNat_natCast] at y0 y1 y2 y3 y4
                            rw [rd27, ← hY] at y0 y1 y2 y3 y4
                            obtain ⟨ad10, e, u0, u1, u2, u3, u4⟩ := at_T27 (Kd.C_below H10.out H3.out) (m : Int) (by omega) (by omega)
                            cases e
                            simp only [Int.toNat_natCast] at u0 u1 u2 u3 u4
                            rw [rd27, ← hYm] at u0 u1 u2 u3 u4
                            have f1 : (Ym.f1 == Y.f1) = false := beq_false_of_ne (by rw [hYm, hY]; exact wtok_ne HK1.out hmk hkl)
                            clear hYm hY y0 y2 y3 y4 u0 u2 u3 u4
                            go_upto_region 34 with fail
                            refine start_ (n := 11) (S := fun w' => w'.cell? ⟨(ad10.add (m * 5)).block, (ad10.add (m * 5)).off + 1, none⟩ = some (.int .u64 Ym.f1) ∧ w'.cell? ⟨(ad10.add (k * 5)).block, (ad10.add (k * 5)).off + 1, none⟩ = some (.int .u64 Y.f1)) (ds := []) q72 (by kernel_rfl) rfl rfl ⟨u1, y1⟩ (fun hHeld => ?_)
                            refine with_tabW CloudOnce.tab34 CloudOnce.bits34 (fun HT_ HW_ => ?_)
                            refine pure_ (i := 0) (N := some 199) (v := ?_) (a' := ?_) q73 rfl rfl (any_of HT_.out (by kernel_rfl)) (fun _ _ _ h => h) (Or.inl ⟨by rfl, ?_⟩) ?_ ?_
                            rotate_left
                            · (intro w'; go_simp; with_reducible rfl)
                            rotate_left
                            · (simp only [Act.put, List.setIfInBounds_toArray, List.set_cons_zero, List.set_cons_succ, i64_w, i32_w]; rfl)
                            refine pure_ (i := 1) (N := some 200) (v := ?_) (a' := ?_) q74 rfl rfl (any_of HT_.out (by kernel_rfl)) (fun _ _ _ h => h) (Or.inl ⟨by rfl, ?_⟩) ?_ ?_
                            rotate_left
                            · (intro w'; go_simp; with_reducible rfl)
                            rotate_left
                            · (simp only [Act.put, List.setIfInBounds_toArray, List.set_cons_zero, List.set_cons_succ, i64_w, i32_w]; rfl)
                            refine pure_ (i := 2) (N := some 201) (v := ?_) (a' := ?_) q75 rfl rfl (any_of HT_.out (by kernel_rfl)) (fun _ _ _ h => h) (Or.inl ⟨by rfl, ?_⟩) ?_ ?_
                            rotate_left
                            · (intro w'; go_simp; with_reducible rfl)
                            rotate_left
                            · (simp only [Act.put, List.setIfInBounds_toArray, List.set_cons_zero, List.set_cons_succ, i64_w, i32_w]; rfl)
                            refine pure_ (i := 3) (N := some 202) (v := ?_) (a' := ?_) q76 rfl rfl (any_of HT_.out (by kernel_rfl)) (fun _ _ _ h => h) (Or.inl ⟨by rfl, ?_⟩) ?_ ?_
                            rotate_left
                            · (intro w'; go_simp; with_reducible rfl)
                            rotate_left
                            · (simp only [Act.put, List.setIfInBounds_toArray, List.set_cons_zero, List.set_cons_succ, i64_w, i32_w]; rfl)
                            refine pure_ (i := 5) (N := some 204) (v := ?_) (a' := ?_) q77 rfl rfl (any_of HT_.out (by kernel_rfl)) (fun _ _ _ h => h) (Or.inl ⟨by rfl, ?_⟩) ?_ ?_
                            rotate_left
                            · (intro w'; go_simp; with_reducible rfl)
                            rotate_left
                            · (simp only [Act.put, List.setIfInBounds_toArray, List.set_cons_zero, List.set_cons_succ, i64_w, i32_w]; rfl)
                            refine pure_ (i := 6) (N := some 205) (v := ?_) (a' := ?_) q78 rfl rfl (any_of HT_.out (by kernel_rfl)) (fun _ _ _ h => h) (Or.inl ⟨by rfl, ?_⟩) ?_ ?_
                            rotate_left
                            · (intro w'; go_simp; with_reducible rfl)
                            rotate_left
                            · (simp only [Act.put, List.setIfInBounds_toArray, List.set_cons_zero, List.set_cons_succ, i64_w, i32_w]; rfl)
                            refine pure_ (i := 7) (N := some 206) (v := ?_) (a' := ?_) q79 rfl rfl (any_of HT_.out (by kernel_rfl)) (fun _ _ _ h => h) (Or.inl ⟨by rfl, ?_⟩) ?_ ?_
                            rotate_left
                            · (intro w'; go_simp; with_reducible rfl)
                            rotate_left
                            · (simp only [Act.put, List.setIfInBounds_toArray, List.set_cons_zero, List.set_cons_succ, i64_w, i32_w]; rfl)
                            refine pure_ (i := 8) (N := some 207) (v := ?_) (a' := ?_) q80 rfl rfl (any_of HT_.out (by kernel_rfl)) (fun _ _ _ h => h) (Or.inl ⟨by rfl, ?_⟩) ?_ ?_
                            rotate_left
                            · (intro w'; go_simp; with_reducible rfl)
                            rotate_left
                            · (simp only [Act.put, List.setIfInBounds_toArray, List.set_cons_zero, List.set_cons_succ, i64_w, i32_w]; rfl)
                            refine take_ (i := 4) (N := some 203) (v := ?_) (a' := ?_) q81 rfl rfl (take_ofW HT_.out HW_.out (by kernel_rfl)) (fun _ _ _ h => h) (Or.inl ⟨by rfl, ?_⟩) hHeld ?_ ?_
                            rotate_left
                            · (rintro w' ⟨s0, s1⟩; go_simp; with_reducible rfl)
                            rotate_left
                            · (simp only [Act.put, List.setIfInBounds_toArray, List.set_cons_zero, List.set_cons_succ, i64_w, i32_w]; rfl)
                            refine take_ (i := 9) (N := some 208) (v := ?_) (a' := ?_) q82 rfl rfl (take_ofW HT_.out HW_.out (by kernel_rfl)) (fun _ _ _ h => h) (Or.inl ⟨by rfl, ?_⟩) hHeld ?_ ?_
                            rotate_left
                            · (rintro w' ⟨s0, s1⟩; go_simp; with_reducible rfl)
                            rotate_left
                            · (simp only [Act.put, List.setIfInBounds_toArray, List.set_cons_zero, List.set_cons_succ, i64_w, i32_w]; rfl)
                            refine pure_ (i := 10) (N := some 209) (v := ?_) (a' := ?_) q83 rfl rfl (any_of HT_.out (by kernel_rfl)) (fun _ _ _ h => h) (Or.inl ⟨by rfl, ?_⟩) ?_ ?_
                            rotate_left
                            · (intro w'; go_simp; with_reducible rfl)
                            rotate_left
                            · (simp only [Act.put, List.setIfInBounds_toArray, List.set_cons_zero, List.set_cons_succ, i64_w, i32_w]; rfl)
                            refine done_ (done_of HT_.out (by kernel_rfl)) ?_
                            have k3 := Aside0.mk H3.out.drew
                            clear H3 u1 y1 hHeld
                            have H3 := k3
                            clear k3
                            go_wp2
                            go_roundg (k - (m + 1))
                            case measure => omega
                            case rel => exact ⟨m + 1, by omega, (by first | with_reducible rfl | (simp; done) | (rw [wrap_k (show m < 1000000 by have := HNW.out; omega)]; simp; done) | (rw [wrap_k (show m < 1000000 by have := HNW.out; omega)]; rfl)), H3⟩
                          · have e1 : decide ((m : Int) < (k : Int)) = false := decide_eq_false (by omega)
                            go_wp2
                            go_roundg (t.W.length - (k + 1))
                            case measure => omega
                            case rel => exact ⟨k + 1, by omega, (by first | with_reducible rfl | (simp; done) | (rw [wrap_k (show k < 1000000 by have := HNW.out; omega)]; simp; done) | (rw [wrap_k (show k < 1000000 by have := HNW.out; omega)]; rfl)), H3⟩

                  · have d3 : decide ((k : Int) < (t.W.length : Int)) = false := decide_eq_false (by omega)
                    obtain rfl : k = t.W.length := by omega
                    go_wp2_with (go_at_call 13; with_reducible refine (Tell.calls _ gc mb _ vl vw t (HC.out.below H3.out) HNT.out).mono ?_; rintro e w5 ⟨v5, rfl, hr, hb⟩; obtain ⟨A11, c11, e11, hc11, -⟩ := hr.slice; subst e11; have hb3 := H3.out.trans (Below.mono hb H3.out.size); have k1 := Aside0.mk (HC.out.below hb3); have k2 := Aside0.mk (N6.out.below hb3); have k3 := Aside0.mk (HB.out.trans (Below.mono hb3 HC.out.base)); clear HC N6 HB H3 hr hb hb3; have HC := k1; have N6 := k2; have HB := k3; clear k1 k2 k3)
                    go_roundg (l.length - (i + 1))
                    case measure => omega
                    case rel => exact ⟨i + 1, by omega, by omega, (by first | with_reducible rfl | (simp; done) | rfl | (rw [wrap_ok (by omega) (by omega)]; simp; done) | (rw [wrap_ok (by omega) (by omega)])), vl, vw, ⟨by rw [HT.out]; exact HC.out⟩, ⟨by rw [HT.out]; exact N6.out⟩, HB⟩

      · have d2 : decide ((i : Int) < 80) = false := decide_eq_false (by omega)
        go_wp2_with (go_at_call 10; with_reducible refine (lives.calls _).mono ?_; rintro e w9 ⟨rfl, hb⟩; have k3 := Aside0.mk (HB.out.trans (Below.mono hb HB.out.size)); clear HB hb; have HB := k3; clear k3)
        go_ret
        exact ⟨rfl, HB.out⟩
    · have d1 : decide ((i : Int) < (l.length : Int)) = false := decide_eq_false (by omega)
      go_wp2_with (go_at_call 10; with_reducible refine (lives.calls _).mono ?_; rintro e w9 ⟨rfl, hb⟩; have k3 := Aside0.mk (HB.out.trans (Below.mono hb HB.out.size)); clear HB hb; have HB := k3; clear k3)
      go_ret
      exact ⟨rfl, HB.out⟩

end Go.Proofs.Ytfhopjigdkjnoaa.GA
