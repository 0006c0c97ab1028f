/- A call of a function of the program, as a step of a region that draws its order. -/
import Derived.Test.YtfldbkioepcghaaT14
namespace Go.Proofs.Ytfldbkioepcghaa
open Go.RowKit
set_option linter.unusedVariables false

theorem stepC {f : FuncId} (hf : (Try.prog.funcs[f]?).map (fun fn => (fn.name == "runtime.NumGoroutine", fn.body.isNone)) = some (false, false)) {w : World} {ops : Array Oper} {o : Oper} {a : Act} {K : Act → World → Prop} {Q : Exit → Act → World → Prop} {E : Prop} (hgd : o.guard = none) (args : List Operand) (ats : Array TypeId)
    (ho : o.op = .call { callee := .value (.func f), args := args.toArray, argTypes := ats }) (vs : List Value) (hv : args.map a.eval = vs) {R : Ending → World → Prop} (hc : Calls Try.prog f vs.toArray w R)
    (h : ∀ e w', R e w' → ∃ v, e = .returned v ∧ K (a.put o.dst v) w') : if Region.wanted o (yielded ops a.tmps) = true then Oper.wp Try.prog o a w K Q else E := by
  have hw : Region.wanted o (yielded ops a.tmps) = true := by simp [Region.wanted, hgd]
  rw [if_pos hw]
  subst hv
  obtain ⟨fn, h1, h2⟩ := Option.map_eq_some_iff.1 hf
  injection h2 with h2 h3
  have hrun : (execOp a.eval o).run Try.prog w = .ok (.enter f (args.map a.eval).toArray) w := by
    unfold execOp
    have h2' : ¬ fn.name = "runtime.NumGoroutine" := by simpa using h2
    have h3' : ¬ fn.body = none := by intro h; simp [h] at h3
    simp [ho, resolve, invoke, go_sem, callFunc, h1, h2', h3']
  unfold Oper.wp
  rw [hrun, Oper.upon_enter]
  refine hc.mono fun e w' hh => ?_
  obtain ⟨v, rfl, hk⟩ := h e w' hh
  exact hk
end Go.Proofs.Ytfldbkioepcghaa
