/- Indices, make, append, literals. Nothing of one program stands here. -/
import Derived.Test.YtkcighnochjlgaaE2
namespace Go.Proofs.Ytkcighnochjlgaa
open Go.ChangeShapes Go.WideShapes Go.ChangeAt Go.RowKit

section
variable {P : Program} {o : Oper} {L : List (Nat × Value)} {w w' : World} {x y z : Operand} {t t' T E : TypeId} {a b : Int} {v u : Value} {n d : Nat} {Kt : List (Nat × Value) → World → Prop} {M M' : Hp} {X : Fr} {H H' : List Rs} {i g off : Nat} {l : List Value}

theorem add_mul0 (b o e k : Nat) : (⟨b, o, none⟩ : Addr).add (e * k) = ⟨b, o + e * k, none⟩ := by
  unfold Addr.add
  split
  · rename_i h; rw [h]; rfl
  · rfl
theorem run_indexAddr {bo : Nat} {A : Option Addr} {m c : Nat} {e k : Nat} (hop : o.op = .indexAddr T x y) (hx : oev L x = some (.slice A m c)) (hy : oev L y = some (.int .i64 a)) (hu : P.underlying T = some (.slice E)) (hk : (P.info? E).map (·.size) = some k)
    (ha : a = (e : Int)) (he : e < m) (hA : A = some ⟨g, bo, none⟩) : Run P o L w (.pointer (some ⟨g, bo + e * k, none⟩)) w := by
  intro n c he'
  subst hA
  unfold execOp
  have h1 : (0 : Int) ≤ (e : Int) ∧ (e : Int) < (m : Int) := by omega
  simp only [hop, he'.eval hx, he'.eval hy, Instr.indexAt, asIntOf, Sem.run_bind, Sem.run_pure, Result.andThen_ok, run_underlying hu, ha, h1, and_self, if_true, run_sizeOf hk, Int.toNat_natCast, add_mul0]
theorem run_indexM {α : Type} {C : Cd α} {N : Hp} {A : Option Addr} {xs : List α} {c : Nat} (e : Nat) (hop : o.op = .indexAddr T x y) (hx : oev L x = some (.slice A xs.length c)) (hy : oev L y = some (.int .i64 a)) (hT : SlOf P T C)
    (ha : a = (e : Int)) (h : RdA C N A c xs) (he : e < xs.length) : Run P o L w (.pointer (some ⟨adB A, adO A + e * C.k, none⟩)) w := by
  obtain ⟨z, h1, h2, _⟩ := hT
  obtain ⟨inf, hi, _, hs, _⟩ := info_parts h2
  exact run_indexAddr hop hx hy h1 (by rw [hi]; simp [hs]) ha he (h.2.2 (by omega)).1
theorem run_indexR {α : Type} {C : Cd α} {xs : List α} {v : Value} (e : Nat) (hop : o.op = .indexAddr T x y) (hx : oev L x = some v) (hy : oev L y = some (.int .i64 a)) (hT : SlOf P T C) (S : SH w M X H) (hi : nth H i = some (Rs.row C v xs))
    (ha : a = (e : Int)) (he : e < xs.length) : Run P o L w (.pointer (some ⟨rb v, e * C.k, none⟩)) w := by
  obtain ⟨cap, hv, _⟩ := S.some_ hi (by omega)
  obtain ⟨z, h1, h2, _⟩ := hT
  obtain ⟨inf, hi, _, hs, _⟩ := info_parts h2
  have hr : (0 : Nat) + e * C.k = e * C.k := Nat.zero_add _
  rw [hv] at hx
  have := run_indexAddr (P := P) (w := w) hop hx hy h1 (k := C.k) (by rw [hi]; simp [hs]) ha he rfl
  rw [hr] at this
  exact this
theorem run_lenR {α : Type} {C : Cd α} {xs : List α} {v : Value} {ca : Call} {ops : List Operand} {ts : List TypeId} (hop : o.op = .call ca) (hca : ca.callee = .builtin .len) (hxs : ca.args = ops.toArray) (hts : ca.argTypes = ts.toArray) (hx : oevs L ops = some [v]) (ht : nth ts 0 = some t) (hT : SlOf P t C) (S : SH w M X H) (hi : nth H i = some (Rs.row C v xs)) : Run P o L w (.int .i64 (xs.length : Int)) w := by
  obtain ⟨A, c, hv, _⟩ := S.sl hi
  rw [hv] at hx
  obtain ⟨z, h1, _⟩ := hT
  exact run_len hop hca hxs hts hx ht h1

theorem wo_make {α : Type} {C : Cd α} (m : Nat) (hop : o.op = .makeSlice T x y) (hd : o.dst = some d) (hn : Nat.blt d n = true) (hx : oev L x = some (.int .i64 a)) (hy : oev L y = some (.int .i64 a)) (hT : SlOf P T C) (ha : a = (m : Int)) (hb : m * C.u8 ≤ 140737488355328) (S : SH w M X H)
    (h : ∀ v w', SH w' M X (Rs.row C v (List.replicate m C.z) :: H) → Kt ((d, v) :: L) w') : WO P n o L w Kt := by
  obtain ⟨zv, h1, h2, h3, h4, h5⟩ := hT
  obtain ⟨inf, hi, hz, hs, h8⟩ := info_parts h2
  have hm : m * 1 ≤ m * C.u8 := Nat.mul_le_mul_left m h5
  have hr := run_make (P := P) w T C.E inf zv h1 hi hz .i64 .i64 (m : Int) (m : Int) (by omega) (by omega) (by
    rw [h8]
    have h : ((C.u8 * m : Nat) : Int) ≤ 140737488355328 := by rw [Nat.mul_comm]; omega
    rw [Int.natCast_mul] at h
    omega) (by omega)
  rw [hs] at hr
  have hmade : (madeCells zv.cells (m * C.k)).toList = (List.replicate m C.z).flatMap C.f := by
    have hk : zv.cells.size = C.k := by rw [← C.hf C.z, ← h3]; simp
    apply List.ext_getElem?
    intro q
    by_cases hq : q < m * C.k
    · have hi : q / C.k < (List.replicate m C.z).length := by rw [List.length_replicate]; exact (Nat.div_lt_iff_lt_mul h4).2 hq
      have hj : q % C.k < C.k := Nat.mod_lt _ h4
      have e := flat_get C.hf hi hj
      rw [show q / C.k * C.k + q % C.k = q by rw [Nat.mul_comm]; exact Nat.div_add_mod q C.k] at e
      rw [e, List.getElem_replicate, ← h3]
      simp only [madeCells, hk, Array.toList_map, Array.toList_range, List.getElem?_map, List.getElem?_range hq, Option.map_some]
      rw [Array.getElem!_eq_getD]
      simp [hk, hj]
    · rw [List.getElem?_eq_none, List.getElem?_eq_none]
      · rw [flat_len C.hf, List.length_replicate]; omega
      · simp [madeCells]; omega
  refine wo_run (v := .slice (some ⟨w.heap.size, 0, none⟩) m m) (w' := w.alloc (.cells (madeCells zv.cells (m * C.k)) C.E)) hd hn ?_ (h _ _ ?_)
  · intro n c he
    unfold execOp
    simp only [hop, he.eval hx, he.eval hy, ha, Sem.run_bind, hr, Result.andThen_ok, Sem.run_pure, Int.toNat_natCast]
  · refine S.cons (like_alloc w _) (keep_alloc w _) ?_ (fun b hb => by simp [Rs.row, Value.ownBlock] at hb; subst hb; rw [size_al]; omega)
    refine .inr ⟨w.heap.size, m, _, by rw [List.length_replicate], heap_alloc_new w _, by rw [List.length_replicate]; exact Nat.le_refl _, ?_, by simp [madeCells], ?_⟩
    · unfold maxLen; omega
    · rw [hmade, List.length_replicate, List.take_of_length_le]
      rw [flat_len C.hf, List.length_replicate]; exact Nat.le_refl _

theorem grown_like {row : Option Nat} (h : w.grownBy w' row) : Like w w' := ⟨h.os, h.tape, h.output, h.size⟩
theorem room_max {m k : Nat} (h0 : 0 < k) (h : m * k ≤ 140737488355328) : m ≤ maxLen := by
  have : m * 1 ≤ m * k := Nat.mul_le_mul_left m h0
  unfold maxLen
  omega
/-- append to what is the call's own. -/
theorem wo_append {α : Type} {C : Cd α} {xs ys : List α} {A : Option Addr} {c : Nat} {ca : Call} {ops : List Operand} {ts : List TypeId} {rv : Value} (hop : o.op = .call ca) (hca : ca.callee = .builtin .append) (hxs : ca.args = ops.toArray) (hts : ca.argTypes = ts.toArray) (hd : o.dst = some d) (hn : Nat.blt d n = true)
    (hx : oevs L ops = some [rv, .slice A ys.length c]) (ht : ts = [t, t]) (hT : SlOf P t C) (S : SH w M X H) (hi : nth H i = some (Rs.row C rv xs))
    (hsrc : ys.length = 0 ∨ ∃ ad, A = some ad ∧ ∀ j u, (ys.flatMap C.f)[j]? = some u → w.cell? (ad.add j) = some u) (hr : (xs.length + ys.length) * C.u8 ≤ 140737488355328)
    (h : ∀ v' w', SH w' M X (H.set i (Rs.row C v' (xs ++ ys))) → Kt ((d, v') :: L) w') : WO P n o L w Kt := by
  obtain ⟨zv, h1, h2, h3, h4, h5⟩ := hT
  obtain ⟨inf, hinf, hz, hs, h8⟩ := info_parts h2
  have hk : zv.cells.size = C.k := by rw [← C.hf C.z, ← h3]; simp
  have hown := RowOk.owns (S.get hi : RowOk C rv xs (hp w))
  have key : ∃ v' w', (Builtin.append_ #[t, t] o.type #[rv, .slice A ys.length c]).run P w = .ok v' w' ∧ w'.ownsRow 0 C.E C.k v' (xs.length + ys.length) (xs.flatMap C.f ++ ys.flatMap C.f) ∧ w.grownBy w' rv.ownBlock ∧ (v'.ownBlock = rv.ownBlock ∨ v'.ownBlock = some w.heap.size) := by
    rcases Nat.eq_zero_or_pos ys.length with h0 | h0
    · have hy : ys = [] := List.eq_nil_of_length_eq_zero h0
      subst hy
      rcases A with _ | ad
      · refine ⟨rv, w, ?_, by simpa using hown, ⟨rfl, rfl, rfl, Nat.le_refl _, fun _ _ _ => rfl⟩, .inl rfl⟩
        rcases hown.2 with ⟨h6, h7⟩ | ⟨g, cap, cur, h6, _, _, hnc, _⟩
        · rw [h6]
          simp [Builtin.append_, run_underlying h1, sizeOf, typeInfo, hinf, Builtin.lenOf, Builtin.firstCells]
        · rw [h6]
          simp [Builtin.append_, run_underlying h1, sizeOf, typeInfo, hinf, Builtin.lenOf, Builtin.firstCells, hnc, storeCells]
      · obtain ⟨v', w', hrun, r1, r2, _, r3⟩ := run_append_own_at (P := P) w 0 t o.type C.E inf zv C.k C.u8 h1 hinf hz hs h8 hk h4 rv xs.length (xs.flatMap C.f) hown ad 0 c [] (by simp) (by simp) (by simp) (room_max h5 (by simpa using hr)) (by simpa using hr) (Nat.zero_le _)
        exact ⟨v', w', hrun, r1, r2, r3⟩
    · rcases hsrc with h6 | ⟨ad, rfl, hcells⟩
      · omega
      · obtain ⟨v', w', hrun, r1, r2, _, r3⟩ := run_append_own_at (P := P) w 0 t o.type C.E inf zv C.k C.u8 h1 hinf hz hs h8 hk h4 rv xs.length (xs.flatMap C.f) hown ad ys.length c (ys.flatMap C.f) (flat_len C.hf ys) hcells (C.flat1 ys) (room_max h5 hr) hr (Nat.zero_le _)
        exact ⟨v', w', hrun, r1, r2, r3⟩
  obtain ⟨v', w', hrun, r1, r2, r3⟩ := key
  refine wo_run (v := v') (w' := w') hd hn ?_ (h _ _ ?_)
  · intro n c' he
    unfold execOp
    simp only [hop, resolve, hca, hxs, hts, ht, List.map_toArray, he.evals hx, Sem.run_bind, Sem.run_pure, Result.andThen_ok, invoke, builtin, hrun]
  · refine S.step hi rfl (grown_like r2) (fun b hb hnb => r2.block b hb (fun e => hnb (by simp [Rs.row, ← e]))) ?_ (fun b hb => ?_)
    · refine RowOk.of_owns ?_
      rw [List.length_append, List.flatMap_append]
      exact r1
    · have hb' : v'.ownBlock = some b := by simpa [Rs.row] using hb
      refine ⟨?_, (World.ownsRow.lt r1 b hb').2⟩
      rcases r3 with r3 | r3
      · exact .inl (by simp [Rs.row, ← r3, hb'])
      · rw [hb'] at r3; injection r3 with r3; exact .inr (by omega)
/-- append of elements that lie in a box. -/
theorem wo_appendB {α : Type} {C : Cd α} {xs : List α} (ys : List α) {c m q : Nat} {ca : Call} {ops : List Operand} {ts : List TypeId} {rv : Value} (hop : o.op = .call ca) (hca : ca.callee = .builtin .append) (hxs : ca.args = ops.toArray) (hts : ca.argTypes = ts.toArray) (hd : o.dst = some d) (hn : Nat.blt d n = true)
    (hx : oevs L ops = some [rv, .slice (some ⟨g, 0, none⟩) m c]) (ht : ts = [t, t]) (hT : SlOf P t C) (S : SH w M X H) (hi : nth H i = some (Rs.row C rv xs)) (hq : nth H q = some (Rs.box g E l)) (hl : l = ys.flatMap C.f) (hm : ys.length = m) (hr : (xs.length + m) * C.u8 ≤ 140737488355328)
    (hH : H.set i (Rs.row C rv xs) = H) (h : ∀ v' w', SH w' M X (H.set i (Rs.row C v' (xs ++ ys))) → Kt ((d, v') :: L) w') : WO P n o L w Kt := by
  subst hm
  refine wo_append hop hca hxs hts hd hn hx ht hT S hi (.inr ⟨_, rfl, fun j u hu => ?_⟩) hr h
  have := S.boxc hq (o := j) (u := u) (by rw [nth_eq, hl]; exact hu)
  unfold Addr.add
  split
  · rename_i e; subst e; exact this
  · simpa using this
/-- append of a slice that lasts. -/
theorem wo_appendM {α : Type} {C : Cd α} {xs ys : List α} {N : Hp} {A : Option Addr} {c : Nat} {ca : Call} {ops : List Operand} {ts : List TypeId} {rv : Value} (hop : o.op = .call ca) (hca : ca.callee = .builtin .append) (hxs : ca.args = ops.toArray) (hts : ca.argTypes = ts.toArray) (hd : o.dst = some d) (hn : Nat.blt d n = true)
    (hx : oevs L ops = some [rv, .slice A ys.length c]) (ht : ts = [t, t]) (hT : SlOf P t C) (S : SH w M X H) (hi : nth H i = some (Rs.row C rv xs)) (hy : RdA C N A c ys) (hN : N.le (hp w)) (hr : (xs.length + ys.length) * C.u8 ≤ 140737488355328)
    (h : ∀ v' w', SH w' M X (H.set i (Rs.row C v' (xs ++ ys))) → Kt ((d, v') :: L) w') : WO P n o L w Kt := by
  refine wo_append hop hca hxs hts hd hn hx ht hT S hi ?_ hr h
  rcases Nat.eq_zero_or_pos ys.length with h0 | h0
  · exact .inl h0
  · refine .inr ⟨_, (hy.2.2 h0).1, fun j u hu => ?_⟩
    have := hy.cells hN j u hu
    unfold Addr.add
    split
    · rename_i e; subst e; exact this
    · exact this

/-! Literals -/
/-- The cells of a struct literal. -/
def fillL (pl : List (Nat × Nat)) : List Value → List (Nat × Value) → Option (List Value)
  | cs, [] => some cs
  | cs, (i, v) :: r => match nth pl i with
    | none => none
    | some p => match Nat.beq v.cells.toList.length p.2 && Nat.ble (p.1 + p.2) cs.length with
      | true => fillL pl (spl cs p.1 v.cells.toList) r
      | false => none
theorem foldl_set : ∀ (us : List Value) (k off : Nat) (cs : Array Value), ((us.zipIdx k).foldl (fun cs (c, j) => cs.setIfInBounds (off + j) c) cs).toList = spl cs.toList (off + k) us
  | [], k, off, cs => rfl
  | u :: us, k, off, cs => by
    rw [List.zipIdx_cons, List.foldl_cons, foldl_set us (k + 1) off]
    simp [spl, Nat.add_assoc]
theorem fill_eq {pl : List (Nat × Nat)} {place : Nat → Option (Nat × Nat)} (hpl : ∀ i, nth pl i = place i) : ∀ (ps : List (Nat × Value)) (cs : Array Value) (out : List Value), fillL pl cs.toList ps = some out → Instr.fill place cs ps = some out.toArray
  | [], cs, out, h => by
    simp only [fillL, Option.some.injEq] at h
    subst h
    simp [Instr.fill]
  | (i, v) :: r, cs, out, h => by
    unfold fillL at h
    unfold Instr.fill
    rw [← hpl i]
    split at h
    · cases h
    · rename_i p hp
      simp only [hp]
      split at h
      · rename_i hc
        simp only [Bool.and_eq_true] at hc
        have h1 : v.cells.size = p.2 := by have := Nat.eq_of_beq_eq_true hc.1; simpa using this
        have h2 : p.1 + p.2 ≤ cs.size := by have := Nat.le_of_ble_eq_true hc.2; simpa using this
        obtain ⟨po, ps⟩ := p
        simp only at h1 h2 h ⊢
        rw [if_neg (by simp [h1]; omega)]
        refine fill_eq hpl r _ out ?_
        rw [← Array.foldl_toList, Array.toList_zipIdx, foldl_set, Nat.add_zero]
        exact h
      · cases h
def partL (L : List (Nat × Value)) : List (Nat × Operand) → Option (List (Nat × Value))
  | [] => some []
  | (i, x) :: r => match oev L x, partL L r with
    | some v, some vs => some ((i, v) :: vs)
    | _, _ => none
theorem partL_eq {n : Nat} {a : Act} (h : Env n L a) : ∀ {ps : List (Nat × Operand)} {vs : List (Nat × Value)}, partL L ps = some vs → ps.map (fun p => (p.1, a.eval p.2)) = vs
  | [], vs, hx => by simp only [partL, Option.some.injEq] at hx; subst hx; rfl
  | (i, x) :: r, vs, hx => by
    simp only [partL] at hx
    split at hx
    · rename_i v vs' h1 h2
      simp only [Option.some.injEq] at hx
      subst hx
      rw [List.map_cons, h.eval h1, partL_eq h h2]
    · cases hx
/-- Two lists, side by side. -/
def Al2 {α β : Type} (R : α → β → Prop) : List α → List β → Prop
  | [], [] => True
  | x :: xs, y :: ys => R x y ∧ Al2 R xs ys
  | _, _ => False
def FldIs (P : Program) (f : Field) (p : Nat × Nat) : Prop := p.1 = f.offset ∧ (P.info? f.type).map (·.size) = some p.2
/-- What is known of a struct type. -/
def StOf (P : Program) (T : TypeId) (pl : List (Nat × Nat)) (z : List Value) : Prop :=
  ∃ fs : List Field, P.underlying T = some (.struct fs.toArray) ∧ (P.info? T).map (·.zero) = some (some (.agg z.toArray)) ∧ Al2 (FldIs P) fs pl
theorem run_zero {zv : Value} (hz : (P.info? T).map (·.zero) = some (some zv)) (w : World) : (zeroValue T).run P w = .ok zv w := by
  cases hi : P.info? T with
  | none => rw [hi] at hz; cases hz
  | some inf =>
    rw [hi] at hz
    simp only [Option.map_some, Option.some.injEq] at hz
    simp [zeroValue, typeInfo, hi, hz]
theorem places_eq (w : World) : ∀ {fs : List Field} {pl : List (Nat × Nat)}, Al2 (FldIs P) fs pl → (fs.mapM (fun f => do pure (f.offset, ← sizeOf f.type) : Field → Sem (Nat × Nat))).run P w = .ok pl w
  | [], [], _ => by simp
  | f :: fs, p :: pl, h => by
    obtain ⟨⟨h1, h2⟩, h3⟩ := h
    simp only [List.mapM_cons, Sem.run_bind, run_sizeOf h2, Result.andThen_ok, Sem.run_pure, places_eq w h3]
    rw [← h1]
  | [], _ :: _, h => False.elim h
  | _ :: _, [], h => False.elim h
theorem run_build {pl : List (Nat × Nat)} {zl : List Value} {ps : List (Nat × Operand)} {vs : List (Nat × Value)} {pa : Array (Nat × Operand)} (hop : o.op = .build T pa) (hpa : pa = ps.toArray) (hT : StOf P T pl zl) (hps : partL L ps = some vs) (hl : fillL pl zl vs = some l) : Run P o L w (.agg l.toArray) w := by
  obtain ⟨fs, h1, h2, h3⟩ := hT
  intro n c he
  subst hpa
  unfold execOp
  have e := partL_eq he hps
  have hm : (fs.toArray.mapM (fun f => do pure (f.offset, ← sizeOf f.type) : Field → Sem (Nat × Nat))).run P w = .ok pl.toArray w := by
    rw [List.mapM_toArray, ← bind_pure_comp, Sem.run_bind, places_eq w h3]
    rfl
  have hf := fill_eq (pl := pl) (place := fun i => pl.toArray[i]?) (fun i => by rw [nth_eq]; simp) vs zl.toArray l (by simpa using hl)
  simp only [hop, Instr.build, run_zero h2, run_underlying h1, Sem.run_bind, Sem.run_pure, Result.andThen_ok, hm, List.map_toArray, e]
  rw [show Value.cells (.agg zl.toArray) = zl.toArray from rfl, hf]
  rfl
/-- '[]T{x}': one element. -/
theorem wo_buildSlice1 {α : Type} {C : Cd α} {pa : Array (Nat × Operand)} {x : Operand} (hop : o.op = .buildSlice T 1 pa) (hpa : pa = #[(0, x)]) (hd : o.dst = some d) (hn : Nat.blt d n = true) (hT : SlOf P T C) (hx : oev L x = some v) (hl : v.cells.toList = l) (hk : l.length = C.k) (hsm : Nat.ble C.k 16777216 = true) (S : SH w M X H)
    (h : ∀ g w', SH w' M X (Rs.box g C.E l :: H) → Kt ((d, .slice (some ⟨g, 0, none⟩) 1 1) :: L) w') : WO P n o L w Kt := by
  obtain ⟨zv, h1, h2, h3, h4, h5⟩ := hT
  obtain ⟨inf, hinf, hz, hs, h8⟩ := info_parts h2
  have hzk : zv.cells.size = C.k := by rw [← C.hf C.z, ← h3]; simp
  subst hl
  have hvk : v.cells.size = C.k := by simpa using hk
  have hf : Instr.fill (fun i => some (i * C.k, C.k)) ((Array.range (1 * C.k)).map (zv.cells[· % zv.cells.size]!)) [(0, v)] = some v.cells := by
    simp only [Instr.fill]
    rw [if_neg (by simp [hvk])]
    congr 1
    apply Array.ext'
    rw [← Array.foldl_toList, Array.toList_zipIdx, foldl_set, spl_eq _ _ _ (by simp [hvk])]
    simp [hvk]
  have hr := run_buildSlice (P := P) w T C.E 1 #[(0, v)] v.cells inf zv h1 hinf hz (by rw [hs]; have := Nat.le_of_ble_eq_true hsm; omega) (by rw [hs]; omega) (by rw [hs]; exact hf)
  refine wo_run (v := .slice (some ⟨w.heap.size, 0, none⟩) 1 1) (w' := w.alloc (.cells v.cells C.E)) hd hn ?_ (h _ _ ?_)
  · intro n c he
    unfold execOp
    subst hpa
    simp only [hop, List.map_toArray, List.map_cons, List.map_nil, he.eval hx, hr, Sem.run_bind, Sem.run_pure, Result.andThen_ok]
  · have := S.newbox C.E v.cells.toList
    rwa [Array.toArray_toList] at this
end
end Go.Proofs.Ytkcighnochjlgaa
