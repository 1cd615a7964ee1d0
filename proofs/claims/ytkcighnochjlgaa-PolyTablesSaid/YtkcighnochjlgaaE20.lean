/- Slices of slices of slices. Nothing of one program stands here. -/
import Derived.Test.YtkcighnochjlgaaE17
import Derived.Lib.AppendZeros
namespace Go.Proofs.Ytkcighnochjlgaa
open Go.ChangeShapes Go.WideShapes Go.ChangeAt Go.RowKit

section
variable {α : Type} {C : Cd α} {N N' : Hp} {vs vs' : List SlV} {xss yss : List (List α)}
theorem Rd2.take_ (h : Rd2 C N vs xss) (k : Nat) : Rd2 C N (vs.take k) (xss.take k) := ⟨by rw [List.length_take, List.length_take, h.1], fun i hi => by
  rw [List.length_take] at hi
  have := h.2 i (by omega)
  rw [ga_take _ _ _ (by omega), ga_take _ _ _ (by omega)]
  exact this⟩
theorem ga_drop {β : Type} [Inhabited β] (xs : List β) (k i : Nat) : ga (xs.drop k) i = ga xs (k + i) := by
  unfold ga; simp [List.getD_eq_getElem?_getD]
theorem Rd2.drop_ (h : Rd2 C N vs xss) (k : Nat) : Rd2 C N (vs.drop k) (xss.drop k) := ⟨by rw [List.length_drop, List.length_drop, h.1], fun i hi => by
  rw [List.length_drop] at hi
  have := h.2 (k + i) (by omega)
  rw [ga_drop, ga_drop]
  exact this⟩
theorem Rd2.app (h : Rd2 C N vs xss) (h' : Rd2 C N vs' yss) : Rd2 C N (vs ++ vs') (xss ++ yss) := ⟨by rw [List.length_append, List.length_append, h.1, h'.1], fun i hi => by
  rw [List.length_append] at hi
  have hl := h.1
  by_cases e : i < vs.length
  · rw [ga_append_left _ _ _ e, ga_append_left _ _ _ (by omega)]
    exact h.2 i (by omega)
  · rw [ga_append_right _ _ _ (by omega), ga_append_right _ _ _ (by omega), hl]
    exact h'.2 _ (by omega)⟩
/-- The inner lists' own lists. -/
def RdD (C : Cd α) (N : Hp) (svs : List (List SlV)) (mm : List (List (List α))) : Prop := svs.length = mm.length ∧ ∀ i, i < svs.length → Rd2 C N (ga svs i) (ga mm i)
variable {svs : List (List SlV)} {mm : List (List (List α))}
theorem RdD.mono (h : RdD C N svs mm) (k : N.le N') : RdD C N' svs mm := ⟨h.1, fun i hi => (h.2 i hi).mono k⟩
theorem RdD.nil_ : RdD C N [] [] := ⟨rfl, fun i hi => by simp at hi⟩
theorem RdD.snoc (h : RdD C N svs mm) (k : Rd2 C N vs xss) : RdD C N (svs ++ [vs]) (mm ++ [xss]) := ⟨by simp [h.1], fun j hj => by
  simp at hj
  by_cases e : j < svs.length
  · rw [ga_append_left _ _ _ e, ga_append_left _ _ _ (by rw [← h.1]; exact e)]; exact h.2 j e
  · have hl := h.1
    obtain rfl : j = svs.length := by omega
    rw [ga_append_right svs _ _ (by omega), ga_append_right mm _ _ (by omega), show svs.length - svs.length = 0 by omega, show svs.length - mm.length = 0 by omega]
    exact k⟩
theorem RdD.set_ (h : RdD C N svs mm) (k : Rd2 C N vs xss) {i : Nat} (hi : i < svs.length) : RdD C N (svs.set i vs) (mm.set i xss) := ⟨by simp [h.1], fun j hj => by
  rw [List.length_set] at hj
  rw [ga_set _ _ _ _ hi, ga_set _ _ _ _ (by rw [← h.1]; exact hi)]
  by_cases e : i = j
  · rw [if_pos e, if_pos e]; exact k
  · rw [if_neg e, if_neg e]; exact h.2 j hj⟩
end
/-! Growing a slice that is nil. -/
section
variable {P : Program} {o : Oper} {L : List (Nat × Value)} {w : World} {x hx : Operand} {t tn T : TypeId} {n d : Nat} {Kt : List (Nat × Value) → World → Prop} {M : Hp} {X : Fr} {H : List Rs}
theorem zero_flat {α : Type} {C : Cd α} {z : Array Value} (h3 : z.toList = C.f C.z) (h4 : 0 < C.k) (m : Nat) : (Builtin.zeroCells z m).toList = (List.replicate m C.z).flatMap C.f := by
  have hk : z.size = C.k := by rw [← C.hf C.z, ← h3]; simp
  apply List.ext_getElem?
  intro q
  by_cases hq : q < m * C.k
  · have hi : q / C.k < (List.replicate m C.z).length := by rw [List.length_replicate]; exact (Nat.div_lt_iff_lt_mul h4).2 hq
    have hj : q % C.k < C.k := Nat.mod_lt _ h4
    have e := flat_get C.hf hi hj
    rw [show q / C.k * C.k + q % C.k = q by rw [Nat.mul_comm]; exact Nat.div_add_mod q C.k] at e
    rw [e, List.getElem_replicate, ← h3]
    simp only [Builtin.zeroCells, hk, Array.toList_map, Array.toList_range, List.getElem?_map, List.getElem?_range hq, Option.map_some]
    rw [Array.getElem!_eq_getD]
    simp [hk, hj]
  · rw [List.getElem?_eq_none, List.getElem?_eq_none]
    · rw [flat_len C.hf, List.length_replicate]; omega
    · simp [Builtin.zeroCells, hk]; omega
theorem wo_growNil {α : Type} {C : Cd α} (m : Nat) {ca : Call} {ops : List Operand} {ts : List TypeId} (h0 : 0 < m) (hop : o.op = .call ca) (hca : ca.callee = .builtin .append) (hxs : ca.args = ops.toArray) (hts : ca.argTypes = ts.toArray) (hd : o.dst = some d) (hn : Nat.blt d n = true)
    (hx : oevs L ops = some [.slice none 0 0, .int .i64 (m : Int)]) (ht : ts = [t, tn]) (hT : SlOf P t C) (htn : P.underlying tn = some (.int .i64)) (hb : m * C.u8 ≤ 140737488355328) (S : SH w M X H)
    (h : ∀ v w', SH w' M X (Rs.row C v (List.replicate m C.z) :: H) → Kt ((d, v) :: L) w') : WO P n o L w Kt := by
  obtain ⟨zv, h1, h2, h3, h4, h5⟩ := hT
  obtain ⟨inf, hi, hz, hs, h8⟩ := info_parts h2
  have hm : m * 1 ≤ m * C.u8 := Nat.mul_le_mul_left m h5
  have hk : zv.cells.size = C.k := by rw [← C.hf C.z, ← h3]; simp
  have hr := Lib.run_append_nil_zeros (P := P) w t tn o.type C.E inf zv .i64 .i64 h1 htn hi hz m h0 (by rw [hs]; exact h4) (by omega) (by rw [h8]; omega)
  have hge := grownCap_ge w m 0 C.E
  have hle : grownCap w m 0 C.E ≤ maxLen := grownCap_le_maxLen w m 0 C.E (by unfold maxLen; omega)
  refine wo_run (v := .slice (some ⟨w.heap.size, 0, none⟩) m (grownCap w m 0 C.E)) (w' := w.drew.alloc (.cells (Builtin.zeroCells zv.cells m ++ Builtin.zeroCells zv.cells (grownCap w m 0 C.E - m)) C.E)) hd hn ?_ (h _ _ ?_)
  · intro n c he
    unfold execOp
    simp only [hop, resolve, hca, hxs, hts, ht, List.map_toArray, he.evals hx, Sem.run_bind, Sem.run_pure, Result.andThen_ok, invoke, builtin, hr]
  · refine (S.drew).cons (like_alloc w.drew _) (keep_alloc w.drew _) ?_ (fun b hb => by simp [Rs.row, Value.ownBlock] at hb; subst hb; rw [size_al]; exact ⟨Nat.le_refl _, Nat.lt_succ_self _⟩)
    refine .inr ⟨w.heap.size, grownCap w m 0 C.E, _, by rw [List.length_replicate], heap_alloc_new w.drew _, by rw [List.length_replicate]; exact hge, hle, ?_, ?_⟩
    · simp only [Array.size_append, size_zeroCells, hk, ← Nat.add_mul]
      congr 1; omega
    · have hl : (Builtin.zeroCells zv.cells m).toList.length = m * C.k := by rw [Array.length_toList, size_zeroCells, hk]
      rw [Array.toList_append, List.length_replicate, List.take_append_of_le_length (by rw [hl]; exact Nat.le_refl _), List.take_of_length_le (by rw [hl]; exact Nat.le_refl _)]
      exact zero_flat h3 h4 m
theorem run_capNil {ca : Call} {ops : List Operand} {ts : List TypeId} {E : TypeId} (hop : o.op = .call ca) (hca : ca.callee = .builtin .cap) (hxs : ca.args = ops.toArray) (hts : ca.argTypes = ts.toArray) (hx : oevs L ops = some [.slice none 0 0]) (ht : nth ts 0 = some t) (hu : P.underlying t = some (.slice E)) : Run P o L w (.int .i64 0) w := by
  intro n c he
  obtain ⟨ts0, rfl⟩ : ∃ r, ts = t :: r := by
    cases ts with
    | nil => simp [nth] at ht
    | cons a r => rw [nth_eq] at ht; simp at ht; subst ht; exact ⟨r, rfl⟩
  unfold execOp
  simp [hop, resolve, hca, hxs, hts, he.evals hx, invoke, builtin, Builtin.cap_, run_underlying hu, goInt]
theorem run_sliceNil {α : Type} {C : Cd α} {y : Operand} (hop : o.op = .slice T x none (some y) none) (hx : oev L x = some (.slice none 0 0)) (hy : oev L y = some (.int .i64 0)) (hT : SlOf P T C) : Run P o L w (.slice none 0 0) w := by
  obtain ⟨zv, h1, h2, h3, h4, h5⟩ := hT
  obtain ⟨inf, hinf, hz, hs, h8⟩ := info_parts h2
  have := run_sliceI (P := P) (w := w) (lo := 0) (hi := 0) hop hx (lv := none) (hv := some (.int .i64 ((0 : Nat) : Int))) (size := C.k) rfl (by simpa using hy) h1 (by rw [hinf]; simp [hs]) (.inl ⟨rfl, rfl⟩) (.inr rfl) (Nat.zero_le _) (by omega)
  simpa using this
end
end Go.Proofs.Ytkcighnochjlgaa
