/- WheelPlays, walked. No condition. -/
import Derived.Test.YtgfekeicgcnjfaaC5a
import Derived.Test.YtgfekeicgcnjfaaC5b
import Derived.Laws.CopyOwn
import Derived.Laws.CopyRow
import Derived.ChangeKeysEq
import Derived.Deep.RegionHeld3
import Derived.Deep.MidRow
import Derived.Shelf.Abstract
import Derived.Lib.Overlaps
import Derived.Lib.AppendZerosOnto
import Derived.Shelf.Spec.SlicesInsertGrow
import Derived.Maps.OwnSet
import Derived.WalkSpells
namespace Go.Proofs.Ytgfekeicgcnjfaa.GA
open Go.RowKit Go.Shelf Go.Proofs.YtgfekeicgcnjfaaW.PrintWords Go.Proofs.YtgfekeicgcnjfaaW.PrintLast Go.Proofs.YtgfekeicgcnjfaaW.PrintMore
set_option linter.unusedVariables false
set_option linter.unusedSimpArgs false

theorem WheelPlays.calls (most : Int) (A : Option Addr) (c : Nat) (l : List S40) (w : World) (hr : Kd.C k40 w A l.length l) (hc : l.length ≤ c) (hok : ∀ y ∈ l, y.f1.size ≤ maxLen) : Calls Try.prog 4 #[.int .i64 most, .slice A l.length c] w fun e w' => e = .returned (.bool true) ∧ Below w.heap.size w w' := by
  rcases Int.lt_or_le most 1 with hm | hm
  · exact WheelPlays.small most A c l w hr hc hok hm
  · rcases Nat.lt_or_ge 60 l.length with hl | hl
    · exact WheelPlays.calls_b most A c l w hr hc hok hm hl
    · exact WheelPlays.calls_a most A c l w hr hc hok hm hl

end Go.Proofs.Ytgfekeicgcnjfaa.GA
