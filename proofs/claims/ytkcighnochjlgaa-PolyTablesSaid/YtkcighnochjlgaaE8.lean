/- Own rows that go to a call and come back. Nothing of one program stands here. -/
import Derived.Test.YtkcighnochjlgaaE7
namespace Go.Proofs.Ytkcighnochjlgaa
open Go.ChangeShapes Go.WideShapes Go.ChangeAt Go.RowKit
section
variable {P : Program} {f : FuncId} {vs vs' : List Value} {w : World} {M : Hp} {X : Fr}
theorem Cq.cast {R : Value → Prop} (h : vs = vs') (c : Cq P f vs' w M X R) : Cq P f vs w M X R := h ▸ c
theorem Ct.cast {R : Value → Hp → Prop} (h : vs = vs') (c : Ct P f vs' w M X R) : Ct P f vs w M X R := h ▸ c
theorem Co.cast {R : Value → List Rs → Prop} (h : vs = vs') (c : Co P f vs' w M X R) : Co P f vs w M X R := h ▸ c
theorem C1.cast {R : Value → Hp → Rs → Prop} (h : vs = vs') (c : C1 P f vs' w M X R) : C1 P f vs w M X R := h ▸ c
/-- The facts of a lent table's rows, at the call's memory. -/
theorem Rd2.at_ {α : Type} {C : Cd α} {ss : List SlV} {xss : List (List α)} {H : List Rs} (_ : SH w M X H) (h : Rd2 C (M.un (XH w X H).h) ss xss) : Rd2 C (M.un (XH w X H).h) ss xss := h
/-- A drawn-up slice of one element is given to all. -/
theorem SH.pubbox {α : Type} {C : Cd α} {z : α} {H H' : List Rs} {i g : Nat} {E : TypeId} {l : List Value} (S : SH w M X H) (hi : nth H i = some (Rs.box g E l)) (hH : H.set i Rs.emp = H') (hl : l = C.f z) (hr : C.u8 ≤ 140737488355328) : ∃ M', M.le M' ∧ SH w M' X H' ∧ RdA C M' (some ⟨g, 0, none⟩) 1 [z] := by
  obtain ⟨h1, h2, h3⟩ := S.pub hi hH
  refine ⟨_, h1, h2, by simp, by simpa using hr, fun _ => ⟨rfl, l.toArray, E, (0, 0), ?_, fun j u hu => ?_⟩⟩
  · have h4 : hp w g = some (.cells l.toArray E (0, 0)) := S.get hi
    show (M.put w _) g = _
    rw [h3 g (by simp [Rs.box]), h4]
  · rw [List.flatMap_cons, List.flatMap_nil, List.append_nil, ← hl] at hu
    simpa [adO] using hu
end
end Go.Proofs.Ytkcighnochjlgaa
