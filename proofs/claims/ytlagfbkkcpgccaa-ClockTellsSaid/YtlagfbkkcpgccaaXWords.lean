/- My own words beside the print's: a call of a closure that stands in a slot. -/
import Derived.Test.YtlagfbkkcpgccaaWWords
import Derived.Test.YtlagfbkkcpgccaaWLast
import Derived.Test.YtlagfbkkcpgccaaWMore
import Derived.WalkSpells
namespace Go.Proofs.YtlagfbkkcpgccaaX
open Go.RowKit Go.Proofs.YtlagfbkkcpgccaaW.PrintWords Go.Proofs.YtlagfbkkcpgccaaW.PrintLast Go.Proofs.YtlagfbkkcpgccaaW.PrintMore
set_option linter.unusedVariables false
section
variable {P : Program} {ops : Array Oper} {Q : Exit → Act → World → Prop}
/-- A call of a closure without captures that stands in a slot. -/
theorem goesV_ {rest : List Oper} {oi : Oper} {a : Act} {w : World} (t : Tmp) (N : Option Tmp) (hd : oi.dst = N) (hg : oi.guard = none) {f : FuncId} (hv : a.eval (.tmp t) = .func (.func f) #[] #[]) {fn : Func} {as : Array Operand} {ts : Array TypeId} (hf : P.funcs[f]? = some fn) (hname : (fn.name == "runtime.NumGoroutine") = false) (hb : fn.body.isSome = true) (args : Array Value)
    (hop : oi.op = .call { callee := .value (.tmp t), args := as, argTypes := ts }) (hargs : as.map a.eval = args)
    (h : Calls P f args w fun e w' => ∃ v, e = .returned v ∧ wpList P ops Q rest (a.put N v) w') : wpList P ops Q (oi :: rest) a w := by
  refine wpList_plain hg fun K hK => ?_
  have he := enters_ hf hname hb args w
  have hrun : (execOp a.eval oi).run P w = .ok (.enter f args) w := by
    unfold execOp
    simp [hop, resolve, Deferred.ofValue, invoke, hv, hargs, he]
  unfold Oper.wp
  rw [hrun, Oper.upon_enter]
  refine h.mono fun e w'' hh => ?_
  obtain ⟨v, rfl, hk⟩ := hh
  subst hd
  exact hK _ _ hk
end
end Go.Proofs.YtlagfbkkcpgccaaX
