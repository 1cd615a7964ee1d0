/- Words for regions that draw their order. Nothing of one program stands here. -/
import Derived.Test.YtkcighnochjlgaaRows
import Derived.WalkKit
import Derived.ProofKit
import Derived.OpenShut
import Derived.BigQuiet
import Derived.IntWalk
import Derived.Lib.Hide
import Derived.SizedLaws
import Derived.Maps.AppendAt
namespace Go.Proofs.Ytkcighnochjlgaa
open Go.ChangeShapes Go.WideShapes Go.ChangeAt Go.RowKit

section
variable {P : Program} {ops : Array Oper} {Q : Exit → Act → World → Prop} {md : Region.Mode}

theorem wp_shift {o : Oper} {a b : Act} {w : World} {K L : Act → World → Prop} (he : execOp a.eval o = execOp b.eval o) (hK : ∀ v w', K (a.put o.dst v) w' → L (b.put o.dst v) w')
    (hD : ∀ d w', K (({ a with defers := d :: a.defers } : Act).put o.dst undef) w' → L (({ b with defers := d :: b.defers } : Act).put o.dst undef) w') (hQ : ∀ c w', Q (.panic c) a w' → Q (.panic c) b w')
    (h : o.wp P a w K Q) : o.wp P b w L Q := by
  unfold Oper.wp at *
  rw [← he]
  generalize (execOp a.eval o).run P w = r at *
  cases r with
  | ok n w' =>
    cases n <;> simp only [Oper.upon] at h ⊢
    case value u => exact hK u _ h
    case skip => exact hK _ _ h
    case defer d => exact hD d _ h
    case enter f args =>
      refine Calls.mono h fun e w2 he => ?_
      cases e with
      | returned u => exact hK u _ he
      | panicked c => exact hQ c _ he
      | outgrown => exact he
    case row row args => exact Rows.mono h fun u w2 he => hK u _ he
  | halt x w' =>
    cases x <;> simp only [Oper.upon] at h ⊢
    case panic u => exact hQ _ _ h
theorem asks_shift {o : Oper} {a b : Act} {w : World} (he : execOp a.eval o = execOp b.eval o) (h : o.asks P a w) : o.asks P b w := by
  unfold Oper.asks at *
  rw [← he]
  exact h

/-- What an operation waits for. -/
def predsOf (md : Region.Mode) (ops : Array Oper) (j : Nat) : List Nat := match ops[j]? with
  | some o => (o.after.toList.filter fun e => Region.binds md e).map (·.on)
  | none => []
def allBefore (md : Region.Mode) (ops : Array Oper) : Nat → Nat → List Nat
  | 0, _ => []
  | f + 1, j => predsOf md ops j ++ (predsOf md ops j).flatMap (allBefore md ops f)
def closing (md : Region.Mode) (ops : Array Oper) (j : Nat) : Bool := (List.range ops.size).all fun k => k == j || (allBefore md ops ops.size j).contains k || (allBefore md ops ops.size k).contains j
/-- Whatever is listed, what it waits for is listed. -/
def Down (md : Region.Mode) (ops : Array Oper) (l : Array Bool) : Prop := ∀ k, l.getD k false = true → ∀ p ∈ predsOf md ops k, l.getD p false = true
theorem down_start (n : Nat) : Down md ops (Array.replicate n false) := by
  intro k hk
  rw [Array.getD_eq_getD_getElem?, Array.getElem?_replicate] at hk
  split at hk <;> simp at hk
theorem ready_preds {l : Array Bool} {j : Nat} (h : j ∈ Region.ready md ops l) : ∀ p ∈ predsOf md ops j, l.getD p false = true := by
  intro p hp
  obtain ⟨_, o, ho, hall⟩ := mem_ready.1 h
  simp only [predsOf, ho, List.mem_map, List.mem_filter] at hp
  obtain ⟨e, ⟨he, hb⟩, rfl⟩ := hp
  exact hall e (Array.mem_def.2 he) hb
theorem down_set {l : Array Bool} {j : Nat} (hd : Down md ops l) (h : j ∈ Region.ready md ops l) : Down md ops (l.setIfInBounds j true) := by
  intro k hk p hp
  by_cases hkj : k = j
  · subst hkj
    exact getD_set_true (ready_preds h p hp)
  · rw [getD_set_ne false (Ne.symm hkj)] at hk
    exact getD_set_true (hd k hk p hp)
theorem down_all {l : Array Bool} (hd : Down md ops l) : ∀ (f j : Nat), (∀ p ∈ predsOf md ops j, l.getD p false = true) → ∀ k ∈ allBefore md ops f j, l.getD k false = true := by
  intro f
  induction f with
  | zero => intro j _ k hk; simp [allBefore] at hk
  | succ f ih =>
    intro j hp k hk
    simp only [allBefore, List.mem_append, List.mem_flatMap] at hk
    rcases hk with hk | ⟨p, hp1, hk⟩
    · exact hp k hk
    · exact ih p (hd p (hp p hp1)) k hk
theorem closing_not {l : Array Bool} (hd : Down md ops l) {i j : Nat} (hi : i ∈ Region.ready md ops l) (hj : j ∈ Region.ready md ops l) (hc : closing md ops j = true) (hlt : i < ops.size) (hne : i ≠ j) (hil : ¬ l.getD i false = true) (hjl : ¬ l.getD j false = true) : False := by
  have := List.all_eq_true.1 hc i (by simpa using hlt)
  simp only [Bool.or_eq_true, beq_iff_eq] at this
  rcases this with (h1 | h1) | h1
  · exact hne h1
  · exact hil (down_all hd ops.size j (ready_preds hj) i (List.contains_iff_mem.1 h1))
  · exact hjl (down_all hd ops.size i (ready_preds hi) j (List.contains_iff_mem.1 h1))
theorem ready_un {l : Array Bool} {i : Nat} (h : i ∈ Region.ready md ops l) : ¬ l.getD i false = true := by
  have hiun := (mem_ready.1 h).1
  intro h
  rcases Nat.lt_or_ge i l.size with h' | h'
  · simp [h'] at h hiun; rw [hiun] at h; cases h
  · simp [Array.getElem?_eq_none h'] at h

end
end Go.Proofs.Ytkcighnochjlgaa
