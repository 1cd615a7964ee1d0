/- Function values with bound arguments (method values). Nothing of one program stands here. -/
import Derived.Test.YtkcighnochjlgaaE7
namespace Go.Proofs.Ytkcighnochjlgaa
open Go.ChangeShapes Go.WideShapes Go.ChangeAt Go.RowKit

section
variable {P : Program} {o : Oper} {L : List (Nat × Value)} {w : World} {n d : Nat} {Kt : List (Nat × Value) → World → Prop} {M : Hp} {X : Fr} {H : List Rs}
theorem run_makeFuncB {f : FuncId} {xs ys : List Operand} {us vs : List Value} {fa ca : Array Operand} (hop : o.op = .makeFunc (.func f) fa ca) (hf : fa = xs.toArray) (hc : ca = ys.toArray) (hu : oevs L xs = some us) (hv : oevs L ys = some vs) : Run P o L w (.func (.func f) us.toArray vs.toArray) w := by
  intro n c he
  unfold execOp
  simp only [hop, hf, hc, List.map_toArray, he.evals hu, he.evals hv, Instr.makeFunc, Sem.run_bind, Sem.run_pure, Result.andThen_ok]
/-- A call of a function value that bears bound arguments. -/
theorem wo_cqB {f : FuncId} {vs bnd cap : List Value} {ca : Call} {fo : Operand} {xs : List Operand} (hd : o.dst = some d) (hop : o.op = .call ca) (hca : ca.callee = .value fo) (hfo : oev L fo = some (.func (.func f) bnd.toArray cap.toArray))
    (hxs : ca.args = xs.toArray) (hvs : oevs L xs = some vs) (hn : Nat.blt d n = true) (hen : ∀ args w, (callFunc f args).run P w = .ok (.enter f args) w) (S : SH w M X H)
    {R : Value → Prop} (hcall : Cq P f (bnd ++ (vs ++ cap)) w M (XH w X H) R) (h : ∀ v w', SH w' M X H → R v → Kt ((d, v) :: L) w') : WO P n o L w Kt := by
  intro a ha next Q hk
  have hr : (execOp a.eval o).run P w = .ok (.enter f (bnd ++ (vs ++ cap)).toArray) w := by
    unfold execOp
    simp only [hop, resolve, hca, ha.eval hfo, hxs, List.map_toArray, ha.evals hvs, Deferred.ofValue, Sem.run_bind, Sem.run_pure, Result.andThen_ok, invoke, List.append_toArray, List.append_assoc]
    exact hen _ _
  unfold Oper.wp
  rw [hr, Oper.upon_enter, hd]
  refine hcall.mono ?_
  rintro e w' ⟨v, rfl, h2, h4⟩
  exact hk _ _ _ (ha.put (by simpa using hn) v) (h v w' (S.back h2) h4)
end
end Go.Proofs.Ytkcighnochjlgaa
