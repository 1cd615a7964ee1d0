/- Sums that wrap; arrays of two that are compared. Nothing of one program stands here. -/
import Derived.Test.YtkcighnochjlgaaE10
namespace Go.Proofs.Ytkcighnochjlgaa
open Go.ChangeShapes Go.WideShapes Go.ChangeAt Go.RowKit

theorem nth_bv (xs : List Bool) (e : Nat) (h : e < xs.length) : nth (xs.map Value.bool) e = some (.bool (ga xs e)) := by
  rw [nth_eq, List.getElem?_map, ga_get? h]; rfl
def wr (x : Int) : Int := IntKind.i64.wrap x
theorem wr_id {x : Int} (h : -9223372036854775808 ≤ x ∧ x ≤ 9223372036854775807) : wr x = x := by unfold wr; rw [IntKind.wrap_i64]; omega
theorem wr_in (x : Int) : -9223372036854775808 ≤ wr x ∧ wr x ≤ 9223372036854775807 := by unfold wr; rw [IntKind.wrap_i64]; omega
theorem wr_wr (x y : Int) : wr (wr x + y) = wr (x + y) := by unfold wr; rw [IntKind.wrap_i64, IntKind.wrap_i64, IntKind.wrap_i64]; omega
section
variable {P : Program} {o : Oper} {L : List (Nat × Value)} {w : World} {x y : Operand} {t t' E : TypeId} {a b : Int}
theorem run_addW (ho : o.op = .binOp .add t x y t') (hx : oev L x = some (.int .i64 a)) (hy : oev L y = some (.int .i64 b)) : Run P o L w (.int .i64 (wr (a + b))) w :=
  run_bin ho hx hy fun w => by simp [binOp, Op.intArith, wr]
theorem run_subW (ho : o.op = .binOp .sub t x y t') (hx : oev L x = some (.int .i64 a)) (hy : oev L y = some (.int .i64 b)) : Run P o L w (.int .i64 (wr (a - b))) w :=
  run_bin ho hx hy fun w => by simp [binOp, Op.intArith, wr]
theorem run_equalA2' {d : Nat} {a0 a1 b0 b1 : Int} {k : IntKind} (ht : P.underlying t = some (.array 2 E)) (hE : P.underlying E = some (.int k)) (hk : (P.info? E).map (·.size) = some 1) : (Op.equalIn (d + 1 + 1) t (.agg #[.int k a0, .int k a1]) (.agg #[.int k b0, .int k b1])).run P w = .ok (decide (a0 = b0 ∧ a1 = b1)) w := by
  have e : ∀ (l : List Value) (i : Nat) (u : Value), l[i]? = some u → (part E l.toArray i).run P w = .ok u w := fun l i u h => part1 hE rfl (by rw [nth_eq]; exact h)
  rw [Op.equalIn]
  simp only [Sem.run_bind, run_underlying ht, Result.andThen_ok, run_sizeOf hk]
  rw [show (forIn (m := Sem) ([0:2] : Std.Legacy.Range)) = forIn (m := Sem) (List.range' 0 2) from by funext a f; simp [Std.Legacy.Range.forIn_eq_forIn_range']]
  have e0 := run_equalIn_int (P := P) w d E k k a0 b0 hE
  have e1 := run_equalIn_int (P := P) w d E k k a1 b1 hE
  by_cases h0 : a0 = b0
  · subst h0
    by_cases h1 : a1 = b1
    · subst h1
      simp [List.range', e [.int k a0, .int k a1] 0 _ rfl, e [.int k a0, .int k a1] 1 _ rfl, e0, e1]
    · simp [List.range', e [.int k a0, .int k a1] 0 _ rfl, e [.int k a0, .int k a1] 1 _ rfl, e [.int k a0, .int k b1] 0 _ rfl, e [.int k a0, .int k b1] 1 _ rfl, e0, e1, h1]
  · simp [List.range', e [.int k a0, .int k a1] 0 _ rfl, e [.int k b0, .int k b1] 0 _ rfl, e0, h0]
theorem run_equalA2 {a0 a1 b0 b1 : Int} {k : IntKind} (ht : P.underlying t = some (.array 2 E)) (hE : P.underlying E = some (.int k)) (hk : (P.info? E).map (·.size) = some 1) : (Op.equalIn 10000 t (.agg #[.int k a0, .int k a1]) (.agg #[.int k b0, .int k b1])).run P w = .ok (decide (a0 = b0 ∧ a1 = b1)) w := run_equalA2' (d := 9998) ht hE hk
def ArEq (P : Program) (T : TypeId) : Prop := ∃ E k, P.underlying T = some (.array 2 E) ∧ P.underlying E = some (.int k) ∧ k = .i64 ∧ (P.info? E).map (·.size) = some 1 ∧ P.eqGuardType P.depth T = false
theorem run_neA2 {a0 a1 b0 b1 : Int} (hop : o.op = .binOp .neq t x y t') (hx : oev L x = some (.agg [.int .i64 a0, .int .i64 a1].toArray)) (hy : oev L y = some (.agg [.int .i64 b0, .int .i64 b1].toArray)) (hT : ArEq P t) : Run P o L w (.bool (decide (¬ (a0 = b0 ∧ a1 = b1)))) w := by
  intro n c' he'
  obtain ⟨E, k, h1, h2, rfl, h3, h4⟩ := hT
  have hg := run_eqGuard_agg (P := P) w .neq t x y #[.int .i64 a0, .int .i64 a1] #[.int .i64 b0, .int .i64 b1] h4
  unfold execOp
  simp only [hop, he'.eval hx, he'.eval hy, hg, Sem.run_bind, Sem.run_pure, Result.andThen_ok, run_neq_struct, run_equalA2 h1 h2 h3, decide_not]
end
end Go.Proofs.Ytkcighnochjlgaa
