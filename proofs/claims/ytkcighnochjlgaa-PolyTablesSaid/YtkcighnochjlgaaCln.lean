/- maps.Clone at the seat's map type. -/
import Derived.Test.YtkcighnochjlgaaWk
import Derived.Test.YtkcighnochjlgaaCst
import Derived.Shelf.SlMaps.Clone
namespace Go.Proofs.Ytkcighnochjlgaa
open Go.ChangeShapes Go.WideShapes Go.ChangeAt Go.RowKit

set_option maxRecDepth 100000 in
set_option maxHeartbeats 2000000 in
theorem clone_any (b : Nat) (es : Array MapEntry) (clock : Nat) (w : World) (hb : w.heap[b]? = some (.map es clock)) :
    Calls Try.prog 103 #[.map (some b)] w fun e w' => e = .returned (.map (some w.heap.size)) ∧ w' = w.alloc (.map es clock) := by
  have hq := fun w => run_eql_map_nil_sl (P := Try.prog) w 87 _ _ (some b) Try.underlying87
  go_enter Try.func103, Try.ntmps103
  go_wp2
  rw [run_callFunc_extern Try.func141 (by kernel_rfl) (by kernel_rfl) (by kernel_rfl) (e := Extern.MapsClone.clone) (by kernel_rfl), run_maps_clone_sl w 87 hb]
  simp only [Result.andThen]
  rw [Oper.upon_value]
  go_wp2
  rw [run_typeAssert_map_sl _ 87 _ _ _ _ Try.underlying87]
  simp only [Result.andThen]
  rw [Oper.upon_value]
  go_wp2
  go_ret
  exact ⟨rfl, rfl⟩
/-- The copy is the call's own. -/
theorem Clone_o {w : World} {M : Hp} {X : Fr} {g : Nat} {es : List (Int × Int)} (h : MpOk (Value.int .i64) (Value.int .i64) g es (M.un X.h)) (S : SH w M X []) :
    Co Try.prog 103 [.map (some g)] w M X fun u N => ∃ g', u = .map (some g') ∧ N = [Rs.mp (Value.int .i64) (Value.int .i64) g' es] := by
  obtain ⟨arr, clock, h1, h2, h3⟩ := h
  have hb : w.heap[g]? = some (.map arr clock) := S.um _ _ h1
  unfold Co
  refine (clone_any g arr clock w hb).mono ?_
  rintro e w' ⟨rfl, rfl⟩
  refine ⟨_, rfl, _, S.cons (r := Rs.mp (Value.int .i64) (Value.int .i64) w.heap.size es) (like_alloc w _) (keep_alloc w _) ⟨arr, clock, heap_alloc_new w _, h2, h3⟩ (fun b hb => by simp [Rs.mp] at hb; subst hb; rw [size_al]; omega), _, rfl, rfl⟩
end Go.Proofs.Ytkcighnochjlgaa
