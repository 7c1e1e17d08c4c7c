/- Words: a call of a function value that lies in a slot. No program in sight. -/
import Derived.Test.YtdhnjnkjhfomiaaRwQLent
set_option linter.unusedVariables false
set_option linter.unusedSimpArgs false
namespace Go.Proofs.YtdhnjnkjhfomiaaW.PrintLast
section
variable {P : Program} {ops : Array Oper} {Q : Exit → Act → World → Prop}
theorem resolve_fun {oi : Oper} {a : Act} {w : World} {f : FuncId} {fn : Func} {x : Operand} {as : Array Operand} {ts : Array TypeId} {first captured : Array Value} (hf : P.funcs[f]? = some fn) (hname : (fn.name == "runtime.NumGoroutine") = false) (hb : fn.body.isSome = true) (args : Array Value)
    (hop : oi.op = .call { callee := .value x,args := as,argTypes := ts }) (hx : a.eval x = .func (.func f) first captured) (hargs : first ++ as.map a.eval ++ captured = args) : (execOp a.eval oi).run P w = .ok (.enter f args) w := by
  have he := enters_ hf hname hb args w
  unfold execOp
  simp [hop,resolve,Deferred.ofValue,invoke,hx,hargs,he]
theorem goesF_ {oi : Oper} {N : Option Tmp} {a : Act} {w : World} {K : Act → World → Prop} {f : FuncId} {fn : Func} {x : Operand} {as : Array Operand} {ts : Array TypeId} {first captured : Array Value} (hf : P.funcs[f]? = some fn) (hname : (fn.name == "runtime.NumGoroutine") = false) (hb : fn.body.isSome = true) (args : Array Value)
    (hw : Region.wanted oi (yielded ops a.tmps) = true) (hN : oi.dst = N) (hop : oi.op = .call { callee := .value x,args := as,argTypes := ts }) (hx : a.eval x = .func (.func f) first captured) (hargs : first ++ as.map a.eval ++ captured = args)
    (h : Calls P f args w fun e w' => ∃ v,e = .returned v ∧ K (a.put N v) w') : if Region.wanted oi (yielded ops a.tmps) = true then Oper.wp P oi a w K Q else K (a.put N undef) w :=
  call_ f args hw hN (resolve_fun hf hname hb args hop hx hargs) h
end
end Go.Proofs.YtdhnjnkjhfomiaaW.PrintLast
namespace Go.Proofs.YtdhnjnkjhfomiaaW.PrintWords
open Go.RowKit
section
variable {P : Program} {ops : Array Oper} {rest : List Oper} {o : Oper} {a : Act} {Q : Exit → Act → World → Prop} {W : World}
end
end Go.Proofs.YtdhnjnkjhfomiaaW.PrintWords
