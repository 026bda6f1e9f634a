/- WheelTimes, walked. No condition. -/
import Derived.Test.YtgfekeicgcnjfaaB15a
import Derived.Test.YtgfekeicgcnjfaaB15b
import Derived.Laws.CopyOwn
import Derived.Laws.CopyRow
import Derived.ChangeKeysEq
import Derived.Deep.RegionHeld3
import Derived.Deep.MidRow
import Derived.Shelf.Abstract
import Derived.Lib.Overlaps
import Derived.Lib.AppendZerosOnto
import Derived.Shelf.Spec.SlicesInsertGrow
import Derived.Maps.OwnSet
import Derived.WalkSpells
namespace Go.Proofs.Ytgfekeicgcnjfaa.GA.I
open Go.RowKit Go.Shelf Go.Proofs.YtgfekeicgcnjfaaW.PrintWords Go.Proofs.YtgfekeicgcnjfaaW.PrintLast Go.Proofs.YtgfekeicgcnjfaaW.PrintMore
set_option linter.unusedVariables false
set_option linter.unusedSimpArgs false

theorem WheelTimes.calls (A : Option Addr) (c : Nat) (l : List Int) (now0 later0 : Int) (w : World) (hr : Kd.C (Kd.int .u64) w A l.length l) (hc : l.length ≤ c) : Calls Try.prog 3 #[.slice A l.length c, .int .u64 now0, .int .u64 later0] w fun e w' => e = .returned (.bool true) ∧ Below w.heap.size w w' := by
  rcases Nat.lt_or_ge 40 l.length with hl | hl
  · exact WheelTimes.calls_b A c l now0 later0 w hr hc hl
  · exact WheelTimes.calls_a A c l now0 later0 w hr hc hl

end Go.Proofs.Ytgfekeicgcnjfaa.GA.I
