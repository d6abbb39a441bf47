-- Written by wip/tools/myprint.py (over the kit's printer) for this claim: machine side of the walks.
import Derived.Test.YtbfocfdnejddpaaProg
import Derived.Below
import Derived.Deep.Draws
import Derived.Deep.AppendLies
import Derived.Maps.AppendAt
import Derived.OwnWalk
import Derived.Laws.BytesArg
import Derived.Laws.MakeOwn
import Derived.Laws.OwnMore
import Derived.Deep.OwnRows
import Derived.Tactics
import Derived.Lib.ConvBytes
import Derived.Laws.Slices
import Derived.WalkKit
import Derived.KernelRfl
import Derived.RowKit3
import Derived.Deep.LoopGhost
import Derived.Deep.QuietTactic
import Derived.BigQuiet
import Derived.WideLaws
import Derived.Deep.DeepCutAuto
import Derived.Deep.CutBlock
import Derived.Deep.RegionHeld3
import Derived.Laws.Rows
import Derived.Lib.AppendStr
import Derived.ArgAppend
import Derived.Laws.IdiomCopy
import Derived.OrdersHeld
import Derived.Laws.BitsLemmas
import Derived.RowKit
import Derived.Laws.EntriesVeiled
import Derived.Test.YtbfocfdnejddpaaWWords
import Derived.Test.YtbfocfdnejddpaaWLast
import Derived.Test.YtbfocfdnejddpaaWTab
import Derived.Test.YtbfocfdnejddpaaWFour
import Derived.Test.YtbfocfdnejddpaaWQPut
import Derived.Test.YtbfocfdnejddpaaWApart
import Derived.Test.YtbfocfdnejddpaaWArr
import Derived.Test.YtbfocfdnejddpaaWZeros
import Derived.Test.YtbfocfdnejddpaaWFoot
import Derived.Test.YtbfocfdnejddpaaWKept
import Derived.Test.YtbfocfdnejddpaaWShare
import Derived.Test.YtbfocfdnejddpaaWN
import Derived.Test.YtbfocfdnejddpaaWFootNe
import Derived.Test.YtbfocfdnejddpaaWAt
import Derived.Test.YtbfocfdnejddpaaWEqStruct
import Derived.Test.YtbfocfdnejddpaaWRepsOne
import Derived.Test.YtbfocfdnejddpaaWInv
import Derived.Test.YtbfocfdnejddpaaWInvWords
import Derived.Test.YtbfocfdnejddpaaWGuard
import Derived.Test.YtbfocfdnejddpaaWNEv
import Derived.Test.YtbfocfdnejddpaaWMore
namespace Go.Proofs.Ytbfocfdnejddpaa.Q
open Go.RowKit Go.Proofs.YtbfocfdnejddpaaW.PrintWords Go.Proofs.YtbfocfdnejddpaaW.PrintLast Go.Proofs.YtbfocfdnejddpaaW.PrintMore
attribute [local go_sem] max2_int min2_int max_two min_two max_three min_three max_four min_four   -- for this text's walks alone
set_option linter.unusedVariables false
set_option linter.unusedSimpArgs false



def errW : Option Int → Value
  | none => .nilIface
  | some c => .iface 0 (.int .i64 c)
theorem errW_none : errW none = .nilIface := rfl
theorem errW_some (c : Int) : errW (some c) = .iface 0 (.int .i64 c) := rfl

theorem info21 : (Try.prog.info? 21).map (fun i => (i.zero, i.size, i.bytes)) = some (some (.int .i32 0), 1, 4) := by kernel_rfl
-- the values' own types

end Go.Proofs.Ytbfocfdnejddpaa.Q
