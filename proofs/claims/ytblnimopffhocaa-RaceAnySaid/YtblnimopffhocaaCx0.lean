/- The walks of the functions that a law reaches, or the law's row: printed by a program of this session (wip/xprint.py) that drives the kit's printer with contracts of its own. -/
import Derived.Test.YtblnimopffhocaaProg
import Derived.Below
import Derived.Deep.Draws
import Derived.Deep.AppendLies
import Derived.Maps.AppendAt
import Derived.OwnWalk
import Derived.Laws.BytesArg
import Derived.Laws.MakeOwn
import Derived.Laws.OwnMore
import Derived.Deep.OwnRows
import Derived.Tactics
import Derived.Lib.ConvBytes
import Derived.Laws.Slices
import Derived.WalkKit
import Derived.KernelRfl
import Derived.RowKit3
import Derived.Deep.LoopGhost
import Derived.Deep.QuietTactic
import Derived.BigQuiet
import Derived.WideLaws
import Derived.Deep.DeepCutAuto
import Derived.Deep.CutBlock
import Derived.Deep.RegionHeld3
import Derived.Laws.Rows
import Derived.Lib.AppendStr
import Derived.ArgAppend
import Derived.Laws.IdiomCopy
import Derived.OrdersHeld
import Derived.Laws.BitsLemmas
import Derived.RowKit
import Derived.Test.YtblnimopffhocaaXWords
import Derived.Test.YtblnimopffhocaaWWords
import Derived.Test.YtblnimopffhocaaWLast
import Derived.Test.YtblnimopffhocaaWTab
import Derived.Test.YtblnimopffhocaaWApart
import Derived.Test.YtblnimopffhocaaWFoot
import Derived.Test.YtblnimopffhocaaWKept
import Derived.Test.YtblnimopffhocaaWShare
import Derived.Test.YtblnimopffhocaaWN
import Derived.Test.YtblnimopffhocaaWEqStruct
import Derived.Test.YtblnimopffhocaaWRepsOne
import Derived.Test.YtblnimopffhocaaWGuard
import Derived.Test.YtblnimopffhocaaWMore
namespace Go.Proofs.Ytblnimopffhocaa.C
open Go.RowKit Go.Proofs.YtblnimopffhocaaW.PrintWords Go.Proofs.YtblnimopffhocaaW.PrintLast Go.Proofs.YtblnimopffhocaaW.PrintMore Go.Proofs.YtblnimopffhocaaX
attribute [local go_sem] max2_int min2_int max_two min_two max_three min_three max_four min_four
set_option linter.unusedVariables false
set_option linter.unusedSimpArgs false
def errW : Option Int → Value
 | none => .nilIface
 | some c => .iface 0 (.int .i64 c)
theorem errW_none : errW none = .nilIface := rfl
theorem errW_some (c : Int) : errW (some c) = .iface 0 (.int .i64 c) := rfl
theorem info3 : (Try.prog.info? 3).map (fun i => (i.zero, i.size, i.bytes)) = some (some (.int .i64 0), 1, 8) := by kernel_rfl
end Go.Proofs.Ytblnimopffhocaa.C
