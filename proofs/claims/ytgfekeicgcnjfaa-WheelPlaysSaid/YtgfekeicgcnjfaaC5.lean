/- WheelPlays, begun. No condition. -/
import Derived.Test.YtgfekeicgcnjfaaC4
import Derived.Laws.CopyOwn
import Derived.Laws.CopyRow
import Derived.ChangeKeysEq
import Derived.Deep.RegionHeld3
import Derived.Deep.MidRow
import Derived.Shelf.Abstract
import Derived.Lib.Overlaps
import Derived.Lib.AppendZerosOnto
import Derived.Shelf.Spec.SlicesInsertGrow
import Derived.Maps.OwnSet
import Derived.WalkSpells
namespace Go.Proofs.Ytgfekeicgcnjfaa.GA
open Go.RowKit Go.Shelf Go.Proofs.YtgfekeicgcnjfaaW.PrintWords Go.Proofs.YtgfekeicgcnjfaaW.PrintLast Go.Proofs.YtgfekeicgcnjfaaW.PrintMore
set_option linter.unusedVariables false
set_option linter.unusedSimpArgs false

theorem Rw.lower {w : World} {g B B' : Nat} {most : Int} {A : Option Addr} {c : Nat} {L : List S80} (h : Rw w g B' most A c L) (hB : B ≤ B') : Rw w g B most A c L := ⟨h.1, Kd.R_lower h.2.1 hB, Nat.le_trans hB h.2.2.1, h.2.2.2⟩
set_option maxHeartbeats 8000000 in
set_option maxRecDepth 100000 in
theorem WheelPlays.small (most : Int) (A : Option Addr) (c : Nat) (l : List S40) (w : World) (hr : Kd.C k40 w A l.length l) (hc : l.length ≤ c) (hok : ∀ y ∈ l, y.f1.size ≤ maxLen) (hm : most < 1) : Calls Try.prog 4 #[.int .i64 most, .slice A l.length c] w fun e w' => e = .returned (.bool true) ∧ Below w.heap.size w w' := by
  have d0 : decide (most < 1) = true := decide_eq_true hm
  have HB := Aside0.mk (Below.refl w.heap.size w)
  clear hr hc hok
  go_enter Try.func4, Try.ntmps4
  go_wp2_with (first | (go_at_call 12; with_reducible refine (New.none_ most _ hm).mono ?_; rintro e w' ⟨rfl, hb⟩; have n8_ := Aside0.mk (below_step (by repeat (first | (with_reducible first | exact HB.out | apply below_alloc | apply pw_below_drewN | apply below_drew1) | exact HB.out)) hb); clear HB hb; have HB := n8_; clear n8_) | (go_at_call 13; with_reducible refine (RNew.none_ most _ hm).mono ?_; rintro e w' ⟨rfl, hb⟩; have n8_ := Aside0.mk (below_step (by repeat (first | (with_reducible first | exact HB.out | apply below_alloc | apply pw_below_drewN | apply below_drew1) | exact HB.out)) hb); clear HB hb; have HB := n8_; clear n8_) | (go_at_call 11; with_reducible refine (lives.calls _).mono ?_; rintro e w' ⟨rfl, hb⟩; have n8_ := Aside0.mk (below_step (by repeat (first | (with_reducible first | exact HB.out | apply below_alloc | apply pw_below_drewN | apply below_drew1) | exact HB.out)) hb); clear HB hb; have HB := n8_; clear n8_))
  go_ret
  exact ⟨rfl, HB.out⟩
theorem Wp.later' {xs : List S71} {ord : Int} (h : Wp xs ord) (n : Int) : Wp (later xs n) ord := by
  have hs : (later xs n).Sublist xs := List.dropWhile_sublist _
  exact ⟨⟨h.1.1.sublist (hs.map _), fun y hy => h.1.2 y (hs.subset hy)⟩, h.2.1.sublist hs, fun y hy => h.2.2 y (hs.subset hy)⟩
def WheelPlays.T13 : Bool × List (List Nat × List Nat) := (true, [([], []), ([], []), ([1], [1]), ([0, 2], [0, 2]), ([], []), ([], []), ([5], [5]), ([4, 6, 3], [4, 6]), ([3, 7, 7], [3, 7]), ([8, 8, 0, 1, 2, 3, 4, 5, 6, 7, 8], [8])])
def WheelPlays.B13 : List Nat := [0, 0, 2, 7, 0, 0, 32, 127, 255, 511]
theorem WheelPlays.tab13 : rtab .any (opsOf Try.f4 13) = WheelPlays.T13 := by kernel_rfl
theorem WheelPlays.bits13 : waitsOk WheelPlays.T13.2 WheelPlays.B13 = true := by kernel_rfl
def WheelPlays.T15 : Bool × List (List Nat × List Nat) := (true, [([], []), ([], []), ([1], [1]), ([], []), ([3], [3]), ([0, 2, 4], [0, 2, 4]), ([], []), ([], []), ([7], [7]), ([], []), ([9], [9]), ([6, 8, 10, 5], [6, 8, 10]), ([5, 11], [5, 11]), ([12, 11, 0, 1, 2, 3, 4, 5, 6, 7, 8, 9, 10, 11, 12], [12])])
def WheelPlays.B15 : List Nat := [0, 0, 2, 0, 8, 31, 0, 0, 128, 0, 512, 2047, 4095, 8191]
theorem WheelPlays.tab15 : rtab .any (opsOf Try.f4 15) = WheelPlays.T15 := by kernel_rfl
theorem WheelPlays.bits15 : waitsOk WheelPlays.T15.2 WheelPlays.B15 = true := by kernel_rfl
def WheelPlays.T17 : Bool × List (List Nat × List Nat) := (true, [([], []), ([], []), ([1], [1]), ([0, 2], [0, 2]), ([], []), ([], []), ([5], [5]), ([4, 6, 3], [4, 6]), ([3, 7], [3, 7]), ([8, 7, 0, 1, 2, 3, 4, 5, 6, 7, 8], [8])])
def WheelPlays.B17 : List Nat := [0, 0, 2, 7, 0, 0, 32, 127, 255, 511]
theorem WheelPlays.tab17 : rtab .any (opsOf Try.f4 17) = WheelPlays.T17 := by kernel_rfl
theorem WheelPlays.bits17 : waitsOk WheelPlays.T17.2 WheelPlays.B17 = true := by kernel_rfl
def WheelPlays.T22 : Bool × List (List Nat × List Nat) := (true, [([], []), ([0], [0]), ([1], [1]), ([2], [2]), ([2], [2]), ([3, 4, 2], [2, 3, 4]), ([2, 5], [2, 5]), ([6, 2], [6]), ([7], [7]), ([7], [7]), ([8, 9, 7], [7, 8, 9]), ([7, 10], [7, 10]), ([11, 7], [11]), ([12], [12]), ([12], [12]), ([13, 14, 12], [12, 13, 14]), ([12, 15], [12, 15]), ([16, 12], [16]), ([17], [17]), ([17], [17]), ([18, 19, 17], [17, 18, 19]), ([17, 20], [17, 20]), ([21, 17], [21]), ([22], [22]), ([23, 22, 22], [22, 23]), ([22], [22]), ([25, 22], [22, 25]), ([26, 22], [22, 26]), ([27, 22], [22, 27]), ([28, 22], [22, 28]), ([24, 29, 22], [22, 24, 29]), ([22, 30], [22, 30])])
def WheelPlays.B22 : List Nat := [0, 1, 3, 7, 7, 31, 63, 127, 255, 255, 1023, 2047, 4095, 8191, 8191, 32767, 65535, 131071, 262143, 262143, 1048575, 2097151, 4194303, 8388607, 16777215, 8388607, 41943039, 109051903, 243269631, 511705087, 1073741823, 2147483647]
theorem WheelPlays.tab22 : rtab .any (opsOf Try.f4 22) = WheelPlays.T22 := by kernel_rfl
theorem WheelPlays.bits22 : waitsOk WheelPlays.T22.2 WheelPlays.B22 = true := by kernel_rfl

end Go.Proofs.Ytgfekeicgcnjfaa.GA
