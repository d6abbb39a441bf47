-- Written by wip/tools/myprint.py (over the kit's printer) for this claim: machine side of the walks.
import Derived.Test.YtchiobhklbefjaaProg
import Derived.Below
import Derived.Deep.Draws
import Derived.Deep.AppendLies
import Derived.Maps.AppendAt
import Derived.OwnWalk
import Derived.Laws.BytesArg
import Derived.Laws.MakeOwn
import Derived.Laws.OwnMore
import Derived.Deep.OwnRows
import Derived.Tactics
import Derived.Lib.ConvBytes
import Derived.Laws.Slices
import Derived.WalkKit
import Derived.KernelRfl
import Derived.RowKit3
import Derived.Deep.LoopGhost
import Derived.Deep.QuietTactic
import Derived.BigQuiet
import Derived.WideLaws
import Derived.Deep.DeepCutAuto
import Derived.Deep.CutBlock
import Derived.Deep.RegionHeld3
import Derived.Laws.Rows
import Derived.Lib.AppendStr
import Derived.ArgAppend
import Derived.Laws.IdiomCopy
import Derived.OrdersHeld
import Derived.Laws.BitsLemmas
import Derived.RowKit
import Derived.Laws.EntriesVeiled
import Derived.Test.YtchiobhklbefjaaWWords
import Derived.Test.YtchiobhklbefjaaWLast
import Derived.Test.YtchiobhklbefjaaWTab
import Derived.Test.YtchiobhklbefjaaWFour
import Derived.Test.YtchiobhklbefjaaWQPut
import Derived.Test.YtchiobhklbefjaaWApart
import Derived.Test.YtchiobhklbefjaaWArr
import Derived.Test.YtchiobhklbefjaaWZeros
import Derived.Test.YtchiobhklbefjaaWFoot
import Derived.Test.YtchiobhklbefjaaWKept
import Derived.Test.YtchiobhklbefjaaWShare
import Derived.Test.YtchiobhklbefjaaWN
import Derived.Test.YtchiobhklbefjaaWFootNe
import Derived.Test.YtchiobhklbefjaaWAt
import Derived.Test.YtchiobhklbefjaaWEqStruct
import Derived.Test.YtchiobhklbefjaaWRepsOne
import Derived.Test.YtchiobhklbefjaaWInv
import Derived.Test.YtchiobhklbefjaaWInvWords
import Derived.Test.YtchiobhklbefjaaWGuard
import Derived.Test.YtchiobhklbefjaaWNEv
import Derived.Test.YtchiobhklbefjaaWMore
namespace Go.Proofs.Ytchiobhklbefjaa.E
open Go.RowKit Go.Proofs.YtchiobhklbefjaaW.PrintWords Go.Proofs.YtchiobhklbefjaaW.PrintLast Go.Proofs.YtchiobhklbefjaaW.PrintMore
attribute [local go_sem] max2_int min2_int max_two min_two max_three min_three max_four min_four   -- for this text's walks alone
set_option linter.unusedVariables false
set_option linter.unusedSimpArgs false



def errW : Option Int → Value
  | none => .nilIface
  | some c => .iface 0 (.int .i64 c)
theorem errW_none : errW none = .nilIface := rfl
theorem errW_some (c : Int) : errW (some c) = .iface 0 (.int .i64 c) := rfl

-- the values' own types

end Go.Proofs.Ytchiobhklbefjaa.E
