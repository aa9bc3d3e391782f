/- 'copy(out, xs)' as a step of a walk, out a row of whole numbers that the call itself made: behind it the row reads 'cpy out xs'. No condition but the ones written. -/
import Derived.Test.YtcnliampiibpbaaDoorV0
import Derived.Laws.CopyOwn
namespace Go.Proofs.YtcnliampiibpbaaDoor.CopyW
open Go Go.RowKit Go.Proofs.YtcnliampiibpbaaDoorW.PrintWords
end Go.Proofs.YtcnliampiibpbaaDoor.CopyW
namespace Go.Proofs.YtcnliampiibpbaaDoorW.PrintWords
open Go Go.RowKit
section
variable {P : Program} {ops : Array Oper} {rest : List Oper} {o : Oper} {a : Act} {Q : Exit → Act → World → Prop} {W : World}
/-- The operation is a call of a function that a place holds. -/
theorem gate_calleeV (_f : FuncId) {u : Tmp} {as : Array Operand} {ts : Array TypeId} (_ho : o.op = .call { callee := .value (.tmp u), args := as, argTypes := ts }) (h : wpList P ops Q (o :: rest) a W) : wpList P ops Q (o :: rest) a W := h
/-- A call of a function that a place holds, nothing bound to it, in a plain region. -/
theorem goesV_ {oi : Oper} {w : World} (N : Option Tmp) (hd : oi.dst = N) (hg : oi.guard = none) {f : FuncId} {fn : Func} {u : Tmp} {as : Array Operand} {ts : Array TypeId} (hf : P.funcs[f]? = some fn) (hname : (fn.name == "runtime.NumGoroutine") = false) (hb : fn.body.isSome = true) (args : Array Value)
    (hop : oi.op = .call { callee := .value (.tmp u), args := as, argTypes := ts }) (hargs : as.map a.eval = args)
    (h : Calls P f args w fun e w' => ∃ v, e = .returned v ∧ wpList P ops Q rest (a.put N v) w') (hu : a.eval (.tmp u) = a.eval (.func f) := by rfl) : wpList P ops Q (oi :: rest) a w := by
  refine wpList_plain hg fun K hK => ?_
  have he := PrintLast.enters_ hf hname hb args w
  have hrun : (execOp a.eval oi).run P w = .ok (.enter f args) w := by
    unfold execOp
    have hu' : a.eval (.tmp u) = .func (.func f) #[] #[] := hu
    simp [hop, resolve, Deferred.ofValue, invoke, hu', hargs, he]
  unfold Oper.wp
  rw [hrun, Oper.upon_enter]
  refine h.mono fun e w'' hh => ?_
  obtain ⟨v, rfl, hk⟩ := hh
  subst hd
  exact hK _ _ hk
end
end Go.Proofs.YtcnliampiibpbaaDoorW.PrintWords
namespace Go.Proofs.YtcnliampiibpbaaDoorW.PrintWords.Kd
open Go Go.RowKit Go.Proofs.YtcnliampiibpbaaDoorW.PrintWords
end Go.Proofs.YtcnliampiibpbaaDoorW.PrintWords.Kd
