/- The walks of the functions that a law reaches, or the law's row: printed by a program of this session (wip/xprint.py) that drives the kit's printer with contracts of its own. -/
import Derived.Test.YtlagfbkkcpgccaaProg
import Derived.Below
import Derived.Deep.Draws
import Derived.Deep.AppendLies
import Derived.Maps.AppendAt
import Derived.OwnWalk
import Derived.Laws.BytesArg
import Derived.Laws.MakeOwn
import Derived.Laws.OwnMore
import Derived.Deep.OwnRows
import Derived.Tactics
import Derived.Lib.ConvBytes
import Derived.Laws.Slices
import Derived.WalkKit
import Derived.KernelRfl
import Derived.RowKit3
import Derived.Deep.LoopGhost
import Derived.Deep.QuietTactic
import Derived.BigQuiet
import Derived.WideLaws
import Derived.Deep.DeepCutAuto
import Derived.Deep.CutBlock
import Derived.Deep.RegionHeld3
import Derived.Laws.Rows
import Derived.Lib.AppendStr
import Derived.ArgAppend
import Derived.Laws.IdiomCopy
import Derived.OrdersHeld
import Derived.Laws.BitsLemmas
import Derived.RowKit
import Derived.Test.YtlagfbkkcpgccaaXWords
import Derived.Test.YtlagfbkkcpgccaaWWords
import Derived.Test.YtlagfbkkcpgccaaWLast
import Derived.Test.YtlagfbkkcpgccaaWTab
import Derived.Test.YtlagfbkkcpgccaaWFour
import Derived.Test.YtlagfbkkcpgccaaWQPut
import Derived.Test.YtlagfbkkcpgccaaWApart
import Derived.Test.YtlagfbkkcpgccaaWArr
import Derived.Test.YtlagfbkkcpgccaaWZeros
import Derived.Test.YtlagfbkkcpgccaaWFoot
import Derived.Test.YtlagfbkkcpgccaaWKept
import Derived.Test.YtlagfbkkcpgccaaWShare
import Derived.Test.YtlagfbkkcpgccaaWN
import Derived.Test.YtlagfbkkcpgccaaWFootNe
import Derived.Test.YtlagfbkkcpgccaaWAt
import Derived.Test.YtlagfbkkcpgccaaWEqStruct
import Derived.Test.YtlagfbkkcpgccaaWRepsOne
import Derived.Test.YtlagfbkkcpgccaaWInv
import Derived.Test.YtlagfbkkcpgccaaWInvWords
import Derived.Test.YtlagfbkkcpgccaaWGuard
import Derived.Test.YtlagfbkkcpgccaaWNEv
import Derived.Test.YtlagfbkkcpgccaaWMore
namespace Go.Proofs.Ytlagfbkkcpgccaa.P
open Go.RowKit Go.Proofs.YtlagfbkkcpgccaaW.PrintWords Go.Proofs.YtlagfbkkcpgccaaW.PrintLast Go.Proofs.YtlagfbkkcpgccaaW.PrintMore Go.Proofs.YtlagfbkkcpgccaaX
attribute [local go_sem] max2_int min2_int max_two min_two max_three min_three max_four min_four   -- for this text's walks alone
set_option linter.unusedVariables false
set_option linter.unusedSimpArgs false



def errW : Option Int → Value
  | none => .nilIface
  | some c => .iface 0 (.int .i64 c)
theorem errW_none : errW none = .nilIface := rfl
theorem errW_some (c : Int) : errW (some c) = .iface 0 (.int .i64 c) := rfl

theorem info2 : (Try.prog.info? 2).map (fun i => (i.zero, i.size, i.bytes)) = some (some (.int .i64 0), 1, 8) := by kernel_rfl
theorem info3 : (Try.prog.info? 3).map (fun i => (i.zero, i.size, i.bytes)) = some (some (.int .i64 0), 1, 8) := by kernel_rfl
-- the values' own types

end Go.Proofs.Ytlagfbkkcpgccaa.P
