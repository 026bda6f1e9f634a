/- TableTexts, walked. No condition. -/
import Derived.Test.YtghgadfcnggapaaU9a
import Derived.Test.YtghgadfcnggapaaU9b
import Derived.Test.YtghgadfcnggapaaU9c
import Derived.Test.YtghgadfcnggapaaU9d
import Derived.Laws.CopyOwn
import Derived.Laws.CopyRow
import Derived.ChangeKeysEq
import Derived.Deep.RegionHeld3
import Derived.Deep.MidRow
import Derived.Shelf.Abstract
import Derived.Lib.Overlaps
import Derived.Lib.AppendZerosOnto
import Derived.Shelf.Spec.SlicesInsertGrow
namespace Go.Proofs.Ytghgadfcnggapaa.GA.U
open Go.RowKit Go.Shelf Go.Proofs.YtghgadfcnggapaaW.PrintWords Go.Proofs.YtghgadfcnggapaaW.PrintLast Go.Proofs.YtghgadfcnggapaaW.PrintMore
set_option linter.unusedVariables false
set_option linter.unusedSimpArgs false

theorem TableTexts.calls (A : Option Addr) (c : Nat) (l : List ByteArray) (A1 : Option Addr) (c1 : Nat) (g : List ByteArray) (w : World) (hr : Kd.C Kd.string w A l.length l) (hc : l.length ≤ c) (hr1 : Kd.C Kd.string w A1 g.length g) (hc1 : g.length ≤ c1)  : Calls Try.prog 3 #[.slice A l.length c, .slice A1 g.length c1] w fun e w' => e = .returned (.bool true) ∧ Below w.heap.size w w' := by
  rcases Nat.lt_or_ge 60 l.length with hl | hl
  · rcases Nat.lt_or_ge 60 g.length with hg | hg
    · exact TableTexts.calls_d A c l A1 c1 g w hr hc hr1 hc1 hl hg
    · exact TableTexts.calls_c A c l A1 c1 g w hr hc hr1 hc1 hl hg
  · rcases Nat.lt_or_ge 60 g.length with hg | hg
    · exact TableTexts.calls_b A c l A1 c1 g w hr hc hr1 hc1 hl hg
    · exact TableTexts.calls_a A c l A1 c1 g w hr hc hr1 hc1 hl hg

end Go.Proofs.Ytghgadfcnggapaa.GA.U
