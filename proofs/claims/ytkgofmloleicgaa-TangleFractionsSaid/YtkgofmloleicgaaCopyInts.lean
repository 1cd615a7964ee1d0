/- A copy of a slice of ints. -/
import Derived.Test.YtkgofmloleicgaaMem
namespace Go.Proofs.Ytkgofmloleicgaa
open Go.ChangeShapes Go.WideShapes Go.ChangeAt Go.RowKit

def CopyPost (l : List Int) (w : World) (e : Ending) (w' : World) : Prop := ∃ v, e = .returned v ∧ Ints w' w'.heap.size v l ∧ Kp w w'

set_option maxHeartbeats 1000000 in
theorem ints_any (v : Value) (l : List Int) (w : World) (hi : Ints w w.heap.size v l) :
    Calls Try.prog 14 #[v] w (CopyPost l w) := by
  obtain ⟨A, c, rfl, hc, ha⟩ := hi
  have hr := ha.room
  go_enter Try.func14, Try.ntmps14
  go_wp2_with (at_builtin; refine wp_appendSl slInt rfl _ _ rfl (own_nil w w.heap.size 3 1) rfl rfl ha (iv_one l) (by omega) (Nat.le_refl _) ?_; intro v' w1 ho hg _)
  go_ret
  have ho' : OwnI w1 w.heap.size v' l := by
    unfold OwnI
    rw [Nat.zero_add, List.nil_append] at ho
    exact ho
  exact ⟨_, rfl, ho'.ints hr, kp_of_gr hg⟩
end Go.Proofs.Ytkgofmloleicgaa
