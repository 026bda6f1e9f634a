/- Contracts: each call of a Go function answers what the Lean function of its name says; a law of the set follows. No condition but each theorem's own. Written by a program of this session's out of the translation, with the functions proved by hand let in. -/
import Derived.Test.YtlnfdhcpnbhkdaaProg
import Derived.Below
import Derived.Deep.Draws
import Derived.Deep.AppendLies
import Derived.Maps.AppendAt
import Derived.OwnWalk
import Derived.Laws.BytesArg
import Derived.Laws.MakeOwn
import Derived.Laws.OwnMore
import Derived.Deep.OwnRows
import Derived.Tactics
import Derived.Lib.ConvBytes
import Derived.Laws.Slices
import Derived.WalkKit
import Derived.KernelRfl
import Derived.RowKit3
import Derived.Deep.LoopGhost
import Derived.Deep.QuietTactic
import Derived.BigQuiet
import Derived.WideLaws
import Derived.Deep.DeepCutAuto
import Derived.Deep.CutBlock
import Derived.Deep.RegionHeld3
import Derived.Laws.Rows
import Derived.Lib.AppendStr
import Derived.ArgAppend
import Derived.Laws.IdiomCopy
import Derived.OrdersHeld
import Derived.Laws.BitsLemmas
import Derived.RowKit
import Derived.Lib.SliceRun
import Derived.LaidEql
import Derived.Stop.Asserts
import Derived.RowKitTokens
import Derived.Laws.BitsAllLaws
import Derived.Lib.SlBytesConst
import Derived.Laws.CopyOwn
import Derived.Test.YtlnfdhcpnbhkdaaWWords
import Derived.Test.YtlnfdhcpnbhkdaaWLast
import Derived.Test.YtlnfdhcpnbhkdaaWTab
import Derived.Test.YtlnfdhcpnbhkdaaWFour
import Derived.Test.YtlnfdhcpnbhkdaaWQPut
import Derived.Test.YtlnfdhcpnbhkdaaWApart
import Derived.Test.YtlnfdhcpnbhkdaaWArr
import Derived.Test.YtlnfdhcpnbhkdaaWZeros
import Derived.Test.YtlnfdhcpnbhkdaaWFoot
import Derived.Test.YtlnfdhcpnbhkdaaWKept
import Derived.Test.YtlnfdhcpnbhkdaaWShare
import Derived.Test.YtlnfdhcpnbhkdaaWN
import Derived.Test.YtlnfdhcpnbhkdaaWFootNe
import Derived.Test.YtlnfdhcpnbhkdaaWAt
import Derived.Test.YtlnfdhcpnbhkdaaWEqStruct
import Derived.Test.YtlnfdhcpnbhkdaaWRepsOne
import Derived.Test.YtlnfdhcpnbhkdaaWInv
import Derived.Test.YtlnfdhcpnbhkdaaWInvWords
import Derived.Test.YtlnfdhcpnbhkdaaWGuard
import Derived.Test.YtlnfdhcpnbhkdaaWNEv
import Derived.Test.YtlnfdhcpnbhkdaaWMore
namespace Go.Proofs.Ytlnfdhcpnbhkdaa.GA
open Go.RowKit Go.Proofs.YtlnfdhcpnbhkdaaW.PrintWords Go.Proofs.YtlnfdhcpnbhkdaaW.PrintLast Go.Proofs.YtlnfdhcpnbhkdaaW.PrintMore
attribute [local go_sem] max2_int min2_int max_two min_two max_three min_three max_four min_four   -- for this text's walks alone
set_option linter.unusedVariables false
set_option linter.unusedSimpArgs false



def errW : Option Int → Value
  | none => .nilIface
  | some c => .iface 0 (.int .i64 c)
theorem errW_none : errW none = .nilIface := rfl
theorem errW_some (c : Int) : errW (some c) = .iface 0 (.int .i64 c) := rfl

-- the values' own types


end Go.Proofs.Ytlnfdhcpnbhkdaa.GA
