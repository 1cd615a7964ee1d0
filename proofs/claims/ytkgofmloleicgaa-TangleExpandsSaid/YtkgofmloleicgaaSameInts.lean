/- Two slices of ints that hold the same are the same; a copy holds what is copied. -/
import Derived.Test.YtkgofmloleicgaaMem
namespace Go.Proofs.Ytkgofmloleicgaa
open Go.ChangeShapes Go.WideShapes Go.ChangeAt Go.RowKit

def TruePost (w : World) (e : Ending) (w' : World) : Prop := e = .returned (.bool true) ∧ Kp w w'

set_option maxHeartbeats 1000000 in
theorem same_ints (u v : Value) (xs : List Int) (w : World) (B : Nat) (hu : Ints w B u xs) (hv : Ints w B v xs) (hB : B ≤ w.heap.size) :
    Calls Try.prog 11 #[u, v] w (TruePost w) := by
  obtain ⟨A, c, rfl, hc, ha⟩ := hu
  obtain ⟨A', c', rfl, hc', ha'⟩ := hv
  have hr := ha.room
  go_enter Try.func11, Try.ntmps11
  go_wp2_with fail
  go_loopw [5] (fun i wr => ∃ k : Nat, k ≤ xs.length ∧ i = .int .i64 k ∧ Kp w wr) (fun i _ => xs.length - (intOf i).toNat)
  case atStart => exact ⟨0, Nat.zero_le _, rfl, Kp.refl _⟩
  case round =>
    obtain ⟨k, hk, rfl, hb⟩ := hrel
    by_cases hlt : k < xs.length
    · have g1 := ha.below (hb.below.mono hB)
      have g2 := ha'.below (hb.below.mono hB)
      obtain ⟨b, off, rfl, hb1, hc1⟩ := g1.at_ hlt
      obtain ⟨b', off', rfl, hb2, hc2⟩ := g2.at_ hlt
      clear ha ha' g1 g2
      go_wp2_with fail
      go_quiet (fail)
      go_wp2_with fail
      go_roundw
      case rel => exact ⟨k + 1, by omega, by go_num, hb.drewN _⟩
      case measure => simp [intOf]; omega
    · go_wp2_with fail
      go_ret
      exact ⟨rfl, hb⟩
end Go.Proofs.Ytkgofmloleicgaa
