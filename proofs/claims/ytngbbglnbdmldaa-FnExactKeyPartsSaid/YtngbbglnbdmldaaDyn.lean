/- A call of a function value that stands in a slot: a word for the printed walks. No condition beyond those written. -/
import Derived.Test.YtngbbglnbdmldaaWWords
import Derived.Test.YtngbbglnbdmldaaWLast
import Derived.Test.YtngbbglnbdmldaaWMore
namespace Go.Proofs.YtngbbglnbdmldaaW.PrintMore
open Go.RowKit Go.Proofs.YtngbbglnbdmldaaW.PrintWords Go.Proofs.YtngbbglnbdmldaaW.PrintLast
section
variable {P : Program} {ops : Array Oper} {Q : Exit → Act → World → Prop}
theorem gateD_ {rest : List Oper} {o : Oper} {a : Act} {W : World} {t : Tmp} {as : Array Operand} {ts : Array TypeId} (_ho : o.op = .call { callee := .value (.tmp t), args := as, argTypes := ts }) (h : wpList P ops Q (o :: rest) a W) : wpList P ops Q (o :: rest) a W := h
theorem goesD_ {rest : List Oper} {oi : Oper} {a : Act} {w : World} (N : Option Tmp) (hd : oi.dst = N) (hg : oi.guard = none) {f : FuncId} {fn : Func} {t : Tmp} {as : Array Operand} {ts : Array TypeId} (hf : P.funcs[f]? = some fn) (hname : (fn.name == "runtime.NumGoroutine") = false) (hb : fn.body.isSome = true)
    (hop : oi.op = .call { callee := .value (.tmp t), args := as, argTypes := ts }) (ht : a.eval (.tmp t) = .func (.func f) #[] #[]) (args : Array Value) (hargs : as.map a.eval = args)
    (h : Calls P f args w fun e w' => ∃ v, e = .returned v ∧ wpList P ops Q rest (a.put N v) w') : wpList P ops Q (oi :: rest) a w := by
  refine wpList_plain hg fun K hK => ?_
  have he := enters_ hf hname hb args w
  have hrun : (execOp a.eval oi).run P w = .ok (.enter f args) w := by
    unfold execOp
    simp only [hop, resolve, ht]
    simp [Deferred.ofValue, invoke, hargs, he]
  unfold Oper.wp
  rw [hrun, Oper.upon_enter]
  refine h.mono fun e w'' hh => ?_
  obtain ⟨v, rfl, hk⟩ := hh
  subst hd
  exact hK _ _ hk
end
theorem not_isEmpty (l : List UInt8) : Value.bool (!l.isEmpty) = .bool (l != []) := by cases l <;> rfl
theorem is_empty (l : List UInt8) : Value.bool l.isEmpty = .bool (l == []) := by cases l <;> rfl
end Go.Proofs.YtngbbglnbdmldaaW.PrintMore
