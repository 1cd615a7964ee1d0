/- Two diagrams that read alike are told the same; a copy of a diagram. -/
import Derived.Test.YtlbpgnimpcflaaaTyp
namespace Go.Proofs.Ytlbpgnimpcflaaa
open Go.ChangeShapes Go.WideShapes Go.ChangeAt Go.RowKit

def DgPost (d : Dg) (w : World) (e : Ending) (w' : World) : Prop := ∃ v, e = .returned v ∧ IsDg w' w'.heap.size v d ∧ Kp w w'
def YesPost (w : World) (e : Ending) (w' : World) : Prop := e = .returned (.bool true) ∧ Kp w w'

set_option maxHeartbeats 2000000 in
theorem sameDg (u v : Value) (d : Dg) (w : World) (hu : IsDg w w.heap.size u d) (hv : IsDg w w.heap.size v d) :
    Calls Try.prog 14 #[u, v] w (YesPost w) := by
  obtain ⟨A, c, rfl, hc, ha⟩ := hu
  obtain ⟨A', c', rfl, hc', ha'⟩ := hv
  have hr : d.crs.length * 40 ≤ 140737488355328 := ha.room
  go_enter Try.func14, Try.ntmps14
  go_wp2_with fail
  go_loopw [5] (fun i wr => ∃ k : Nat, k ≤ d.crs.length ∧ i = .int .i64 k ∧ Kp w wr ∧ Blk wr w.heap.size 27 #[.slice A d.crs.length c, .int .i64 d.loops] ∧ Blk wr (w.heap.size + 1) 27 #[.slice A' d.crs.length c', .int .i64 d.loops]) (fun i _ => d.crs.length - (intOf i).toNat)
  case atStart => exact ⟨0, Nat.zero_le _, rfl, ((Kp.refl _).alloc _).alloc _, (Blk.new _ _ _).alloc _, Blk.new' _ _ _ (by simp)⟩
  case round =>
    obtain ⟨k, hk, rfl, hkp, hB, hB'⟩ := hrel
    obtain ⟨e0, e1, e2, e3⟩ := hB.two
    obtain ⟨f0, f1, f2, f3⟩ := hB'.two
    by_cases hlt : k < d.crs.length
    · obtain ⟨b, off, rfl, hb1, c0, c1, c2, c3, c4⟩ := crAt (ha.kp hkp) hlt
      obtain ⟨b', off', rfl, hb2, c0', c1', c2', c3', c4'⟩ := crAt (ha'.kp hkp) hlt
      clear ha ha'
      go_wp2_with fail
      go_quiet (fail)
      go_wp2_with fail
      go_roundw
      case rel => exact ⟨k + 1, by omega, by go_num, hkp.drewN _, hB.drewN _, hB'.drewN _⟩
      case measure => simp [intOf] <;> omega
    · go_wp2_with fail
      go_ret
      exact ⟨rfl, hkp⟩

theorem slCr : SlT Try.prog 25 73 5 40 (.agg #[.int .i64 0, .int .i64 0, .int .i64 0, .int .i64 0, .bool false]) := ⟨Try.underlying25, by kernel_rfl, rfl, by omega, by omega⟩
theorem cr_one (xs : List Cr) : ∀ u ∈ xs.flatMap codCr.f, u.oneCell' = true := by
  intro u hu
  obtain ⟨x, _, hx⟩ := List.mem_flatMap.1 hu
  simp [codCr, crF] at hx
  rcases hx with rfl | rfl | rfl | rfl | rfl <;> rfl

set_option maxHeartbeats 2000000 in
theorem diagramOf_any (v : Value) (d : Dg) (w : World) (hd : IsDg w w.heap.size v d) : Calls Try.prog 16 #[v] w (DgPost d w) := by
  obtain ⟨A, c, rfl, hc, ha⟩ := hd
  have hr : d.crs.length * 40 ≤ 140737488355328 := ha.room
  go_enter Try.func16, Try.ntmps16
  go_wp2_with (at_builtin; refine copy_of (C := codCr) slCr rfl _ _ rfl (Rd.kp ha (((Kp.refl _).alloc _).alloc _)) rfl rfl (cr_one d.crs) ?_; intro A2 c2 w1 ho hk; obtain ⟨cc, cf⟩ := hk.cf (n := w.heap.size + 2) (by simp))
  refine bodyPost_ret (v := .agg #[.slice A2 d.crs.length c2, .int .i64 d.loops]) (by simp [results, Try.results16, go_sem, *]) rfl ?_
  have h1 := ((ho.setLow (p := ⟨w.heap.size, 0, none⟩) (by simp <;> omega) (.slice A2 d.crs.length c2)).setLow (p := ⟨w.heap.size + 1, 0, none⟩) (by simp) (.slice A2 d.crs.length c2)).setLow (p := ⟨w.heap.size + 1, 1, none⟩) (by simp) (.int .i64 d.loops)
  exact ⟨_, rfl, IsDg.of_rv (h1.rv hr), ((((((Kp.refl w).alloc _).alloc _).trans hk).setCell (p := ⟨w.heap.size, 0, none⟩) (by simp) _).setCell (p := ⟨w.heap.size + 1, 0, none⟩) (by simp) _).setCell (p := ⟨w.heap.size + 1, 1, none⟩) (by simp) _⟩
end Go.Proofs.Ytlbpgnimpcflaaa
