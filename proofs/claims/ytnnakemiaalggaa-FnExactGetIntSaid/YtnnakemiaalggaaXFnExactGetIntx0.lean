/- Each Go function that the law reaches as a Lean function, and that Go comes to just its answer; written by this session's xprint.py over the kit's printer. -/
import Derived.Test.YtnnakemiaalggaaProg
import Derived.Below
import Derived.Deep.Draws
import Derived.Deep.AppendLies
import Derived.Maps.AppendAt
import Derived.OwnWalk
import Derived.Laws.BytesArg
import Derived.Laws.MakeOwn
import Derived.Laws.OwnMore
import Derived.Deep.OwnRows
import Derived.Tactics
import Derived.Lib.ConvBytes
import Derived.Laws.Slices
import Derived.WalkKit
import Derived.KernelRfl
import Derived.RowKit3
import Derived.Deep.LoopGhost
import Derived.Deep.QuietTactic
import Derived.BigQuiet
import Derived.WideLaws
import Derived.Deep.DeepCutAuto
import Derived.Deep.CutBlock
import Derived.Deep.RegionHeld3
import Derived.Laws.Rows
import Derived.Lib.AppendStr
import Derived.ArgAppend
import Derived.Laws.IdiomCopy
import Derived.OrdersHeld
import Derived.Laws.BitsLemmas
import Derived.RowKit
import Derived.Test.YtnnakemiaalggaaWWords
import Derived.Test.YtnnakemiaalggaaWLast
import Derived.Test.YtnnakemiaalggaaWTab
import Derived.Test.YtnnakemiaalggaaWFour
import Derived.Test.YtnnakemiaalggaaWQPut
import Derived.Test.YtnnakemiaalggaaWApart
import Derived.Test.YtnnakemiaalggaaWArr
import Derived.Test.YtnnakemiaalggaaWZeros
import Derived.Test.YtnnakemiaalggaaWFoot
import Derived.Test.YtnnakemiaalggaaWKept
import Derived.Test.YtnnakemiaalggaaWShare
import Derived.Test.YtnnakemiaalggaaWN
import Derived.Test.YtnnakemiaalggaaWFootNe
import Derived.Test.YtnnakemiaalggaaWAt
import Derived.Test.YtnnakemiaalggaaWEqStruct
import Derived.Test.YtnnakemiaalggaaWRepsOne
import Derived.Test.YtnnakemiaalggaaWInv
import Derived.Test.YtnnakemiaalggaaWInvWords
import Derived.Test.YtnnakemiaalggaaWGuard
import Derived.Test.YtnnakemiaalggaaWNEv
import Derived.Test.YtnnakemiaalggaaWMore
namespace Go.Proofs.Ytnnakemiaalggaa.XFnExactGetInt
open Go.RowKit Go.Proofs.YtnnakemiaalggaaW.PrintWords Go.Proofs.YtnnakemiaalggaaW.PrintLast Go.Proofs.YtnnakemiaalggaaW.PrintMore
attribute [local go_sem] max2_int min2_int max_two min_two max_three min_three max_four min_four   -- for this text's walks alone
set_option linter.unusedVariables false
set_option linter.unusedSimpArgs false



def errW : Option Int → Value
 | none => .nilIface
 | some c => .iface 0 (.int .i64 c)
theorem errW_none : errW none = .nilIface := rfl
theorem errW_some (c : Int) : errW (some c) = .iface 0 (.int .i64 c) := rfl

theorem info5 : (Try.prog.info? 5).map (fun i => (i.zero, i.size, i.bytes)) = some (some (.int .u8 0), 1, 1) := by kernel_rfl
-- the values' own types

end Go.Proofs.Ytnnakemiaalggaa.XFnExactGetInt
