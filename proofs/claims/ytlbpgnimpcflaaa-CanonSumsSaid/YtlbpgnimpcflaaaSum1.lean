/- Two links tied to one: small functions of the program's. -/
import Derived.Test.YtlbpgnimpcflaaaSum0
import Derived.Test.YtlbpgnimpcflaaaRng1
namespace Go.Proofs.Ytlbpgnimpcflaaa
open Go.ChangeShapes Go.WideShapes Go.ChangeAt Go.RowKit

def SetPost (p : Addr) (a : Int) (w : World) (e : Ending) (w' : World) : Prop := e = .returned (.tuple #[]) ∧ w' = (w.setCell p (.int .i64 a)).drew

set_option maxRecDepth 100000 in
set_option maxHeartbeats 4000000 in
theorem set_any (g o k : Nat) (a : Int) (w : World) (hk : k < 4) {u : Value} (hc : w.cell? ⟨g, o + k, none⟩ = some u) (hf : w.frozen? ⟨g, o + k, none⟩ = false) :
    Calls Try.prog 56 #[.pointer (some ⟨g, o, none⟩), .int .i64 k, .int .i64 a] w (SetPost ⟨g, o + k, none⟩ a w) := by
  have hkk : k = 0 ∨ k = 1 ∨ k = 2 ∨ k = 3 := by omega
  have i0 : ∀ (x0 x1 x2 x3 : Value) w, (Instr.index 115 (.agg #[x0, x1, x2, x3]) (.int .i64 0)).run Try.prog w = .ok x0 w := fun _ _ _ _ _ => by kernel_rfl
  have i1 : ∀ (x0 x1 x2 x3 : Value) w, (Instr.index 115 (.agg #[x0, x1, x2, x3]) (.int .i64 1)).run Try.prog w = .ok x1 w := fun _ _ _ _ _ => by kernel_rfl
  have i2 : ∀ (x0 x1 x2 x3 : Value) w, (Instr.index 115 (.agg #[x0, x1, x2, x3]) (.int .i64 2)).run Try.prog w = .ok x2 w := fun _ _ _ _ _ => by kernel_rfl
  have i3 : ∀ (x0 x1 x2 x3 : Value) w, (Instr.index 115 (.agg #[x0, x1, x2, x3]) (.int .i64 3)).run Try.prog w = .ok x3 w := fun _ _ _ _ _ => by kernel_rfl
  rcases hkk with rfl | rfl | rfl | rfl
  all_goals
    try simp only [Nat.add_zero] at hc hf
    go_enter Try.func56, Try.ntmps56
    go_wp2_with fail
    go_region
    go_wp2_with fail
    go_end0
    exact ⟨rfl, rfl⟩

/-- 'out = append(out, x)': x lies in a block of its own. -/
theorem push_blk {α : Type} {C : Cod α} {P : Program} {w : World} {ops : Array Oper} {rest : List Oper} {o : Oper} {a : Act} {Q : Exit → Act → World → Prop} {T E : TypeId} {z : Value} (hT : SlT P T E C.k C.u8 z)
    (hgd : o.guard = none) (s x : Operand) (ho : o.op = .call { callee := .builtin .append, args := #[s, x], argTypes := #[T, T] })
    {base : Nat} {v : Value} {N : Nat} {xs : List α} {y : α} {cs : Array Value} (hown : Ow C E w base v xs) (hs : a.eval s = v) (hx : a.eval x = .slice (some ⟨N, 0, none⟩) 1 1) (hB : Blk w N E cs)
    (hcs : cs.toList = C.f y) (h1 : ∀ u ∈ C.f y, u.oneCell' = true) (hr : (xs.length + 1) * C.u8 ≤ 140737488355328) (hbase : base ≤ w.heap.size)
    (h : ∀ v' w', Ow C E w' base v' (xs ++ [y]) → Gr w w' v.ownBlock → (v'.ownBlock = v.ownBlock ∨ v'.ownBlock = some w.heap.size) → wpList P ops Q rest (a.put o.dst v') w') :
    wpList P ops Q (o :: rest) a w := by
  have hsl : Sl w w.heap.size C.k C.u8 (some ⟨N, 0, none⟩) 1 (C.f y) := by
    refine ⟨by rw [C.hf]; omega, ?_, fun _ => ⟨N, 0, rfl, hB.lt, fun j u hu => ?_⟩⟩
    · have : 1 * C.u8 ≤ (xs.length + 1) * C.u8 := Nat.mul_le_mul_right _ (by omega)
      omega
    · rw [Nat.zero_add]
      exact hB.cell j (by rw [← hcs] at hu; simpa using hu)
  refine wp_appendSl hT hgd s x ho hown hs hx hsl h1 hr hbase fun v' w' r1 r2 r3 => h v' w' ?_ r2 r3
  unfold Ow
  rw [List.length_append, List.flatMap_append, List.flatMap_cons, List.flatMap_nil, List.append_nil]
  exact r1
def BoSame (b : Bool) (w : World) (e : Ending) (w' : World) : Prop := e = .returned (.bool b) ∧ w' = w
set_option maxRecDepth 100000 in
set_option maxHeartbeats 1000000 in
theorem isArc_any (v : Value) (d : Dg) (x : Int) (w : World) (b0 : Nat) (hs : IsSh w b0 v d) (hn : d.crs.length ≤ 16) :
    Calls Try.prog 54 #[v, .int .i64 x] w (BoSame (decide (1 ≤ x ∧ x ≤ 2 * (d.crs.length : Int))) w) := by
  have har := Lib.hid (arcs_any v d w b0 hs hn)
  clear hs
  obtain ⟨B, hB⟩ : ∃ B, B = decide (1 ≤ x ∧ x ≤ 2 * (d.crs.length : Int)) := ⟨_, rfl⟩
  rw [← hB]
  replace hB := Lib.hid hB
  by_cases h1 : 1 ≤ x
  · have hd : Hid (decide (1 ≤ x ∧ x ≤ 2 * (d.crs.length : Int)) = decide (x ≤ 2 * (d.crs.length : Int))) := by rw [Hid]; simp [h1]
    have t1 : decide (x ≥ 1) = true := by simp; omega
    go_enter Try.func54, Try.ntmps54
    go_wp2_with fail
    refine har.out.mono ?_; rintro e w1 ⟨rfl, rfl⟩
    go_wp2_with fail
    go_ret
    exact ⟨by rw [hB.out, hd.out]; rfl, rfl⟩
  · have hd : Hid (decide (1 ≤ x ∧ x ≤ 2 * (d.crs.length : Int)) = false) := by rw [Hid]; simp; omega
    have t1 : decide (x ≥ 1) = false := by simp; omega
    go_enter Try.func54, Try.ntmps54
    go_wp2_with fail
    go_ret
    exact ⟨by rw [hB.out, hd.out]; rfl, rfl⟩
end Go.Proofs.Ytlbpgnimpcflaaa
