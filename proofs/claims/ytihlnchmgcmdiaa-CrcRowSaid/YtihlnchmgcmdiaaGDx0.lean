/- Contracts: each call of a Go function answers what the Lean function of its name says; a law of the set follows. No condition but each theorem's own. Written by a program of this session's out of the translation, with the functions proved by hand let in. -/
import Derived.Test.YtihlnchmgcmdiaaProg
import Derived.Below
import Derived.Deep.Draws
import Derived.Deep.AppendLies
import Derived.Maps.AppendAt
import Derived.OwnWalk
import Derived.Laws.BytesArg
import Derived.Laws.MakeOwn
import Derived.Laws.OwnMore
import Derived.Deep.OwnRows
import Derived.Tactics
import Derived.Lib.ConvBytes
import Derived.Laws.Slices
import Derived.WalkKit
import Derived.KernelRfl
import Derived.RowKit3
import Derived.Deep.LoopGhost
import Derived.Deep.QuietTactic
import Derived.BigQuiet
import Derived.WideLaws
import Derived.Deep.DeepCutAuto
import Derived.Deep.CutBlock
import Derived.Deep.RegionHeld3
import Derived.Laws.Rows
import Derived.Lib.AppendStr
import Derived.ArgAppend
import Derived.Laws.IdiomCopy
import Derived.OrdersHeld
import Derived.Laws.BitsLemmas
import Derived.RowKit
import Derived.Lib.SliceRun
import Derived.LaidEql
import Derived.Stop.Asserts
import Derived.RowKitTokens
import Derived.Laws.BitsAllLaws
import Derived.Lib.SlBytesConst
import Derived.Test.YtihlnchmgcmdiaaWWords
import Derived.Test.YtihlnchmgcmdiaaWLast
import Derived.Test.YtihlnchmgcmdiaaWTab
import Derived.Test.YtihlnchmgcmdiaaWFour
import Derived.Test.YtihlnchmgcmdiaaWQPut
import Derived.Test.YtihlnchmgcmdiaaWApart
import Derived.Test.YtihlnchmgcmdiaaWArr
import Derived.Test.YtihlnchmgcmdiaaWZeros
import Derived.Test.YtihlnchmgcmdiaaWFoot
import Derived.Test.YtihlnchmgcmdiaaWKept
import Derived.Test.YtihlnchmgcmdiaaWShare
import Derived.Test.YtihlnchmgcmdiaaWN
import Derived.Test.YtihlnchmgcmdiaaWFootNe
import Derived.Test.YtihlnchmgcmdiaaWAt
import Derived.Test.YtihlnchmgcmdiaaWEqStruct
import Derived.Test.YtihlnchmgcmdiaaWRepsOne
import Derived.Test.YtihlnchmgcmdiaaWInv
import Derived.Test.YtihlnchmgcmdiaaWInvWords
import Derived.Test.YtihlnchmgcmdiaaWGuard
import Derived.Test.YtihlnchmgcmdiaaWNEv
import Derived.Test.YtihlnchmgcmdiaaWMore
namespace Go.Proofs.Ytihlnchmgcmdiaa.GD
open Go.RowKit Go.Proofs.YtihlnchmgcmdiaaW.PrintWords Go.Proofs.YtihlnchmgcmdiaaW.PrintLast Go.Proofs.YtihlnchmgcmdiaaW.PrintMore
attribute [local go_sem] max2_int min2_int max_two min_two max_three min_three max_four min_four   -- for this text's walks alone
set_option linter.unusedVariables false
set_option linter.unusedSimpArgs false



def errW : Option Int → Value
  | none => .nilIface
  | some c => .iface 0 (.int .i64 c)
theorem errW_none : errW none = .nilIface := rfl
theorem errW_some (c : Int) : errW (some c) = .iface 0 (.int .i64 c) := rfl

theorem info5 : (Try.prog.info? 5).map (fun i => (i.zero, i.size, i.bytes)) = some (some (.int .u8 0), 1, 1) := by kernel_rfl
-- the values' own types


end Go.Proofs.Ytihlnchmgcmdiaa.GD
