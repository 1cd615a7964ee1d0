/- Function values, boxes that are lent, more operations. Nothing of one program stands here. -/
import Derived.Test.YtkcighnochjlgaaE6
import Derived.Laws.Cover3
namespace Go.Proofs.Ytkcighnochjlgaa
open Go.ChangeShapes Go.WideShapes Go.ChangeAt Go.RowKit

section
variable {P : Program} {o : Oper} {L : List (Nat × Value)} {w w' : World} {x y z : Operand} {t t' T E : TypeId} {a b : Int} {v u : Value} {n d : Nat} {Kt : List (Nat × Value) → World → Prop} {M M' : Hp} {X : Fr} {H H' : List Rs} {i g off : Nat} {l : List Value}

theorem run_makeFunc {f : FuncId} {ys : List Operand} {vs : List Value} {fa ca : Array Operand} (hop : o.op = .makeFunc (.func f) fa ca) (hf : fa = #[]) (hc : ca = ys.toArray) (hv : oevs L ys = some vs) : Run P o L w (.func (.func f) #[] vs.toArray) w := by
  intro n c he
  unfold execOp
  subst hf
  simp only [hop, hc, List.map_toArray, he.evals hv, Instr.makeFunc, Sem.run_bind, Sem.run_pure, Result.andThen_ok]
  rfl
/-- A call of a function value. -/
theorem wo_cqF {f : FuncId} {vs cap : List Value} {ca : Call} {fo : Operand} {xs : List Operand} (hd : o.dst = some d) (hop : o.op = .call ca) (hca : ca.callee = .value fo) (hfo : oev L fo = some (.func (.func f) #[] cap.toArray))
    (hxs : ca.args = xs.toArray) (hvs : oevs L xs = some vs) (hn : Nat.blt d n = true) (hen : ∀ args w, (callFunc f args).run P w = .ok (.enter f args) w) (S : SH w M X H)
    {R : Value → Prop} (hcall : Cq P f (vs ++ cap) w M (XH w X H) R) (h : ∀ v w', SH w' M X H → R v → Kt ((d, v) :: L) w') : WO P n o L w Kt := by
  intro a ha next Q hk
  have hr : (execOp a.eval o).run P w = .ok (.enter f (vs ++ cap).toArray) w := by
    unfold execOp
    simp only [hop, resolve, hca, ha.eval hfo, hxs, List.map_toArray, ha.evals hvs, Deferred.ofValue, Sem.run_bind, Sem.run_pure, Result.andThen_ok, invoke, Array.empty_append, List.append_toArray]
    exact hen _ _
  unfold Oper.wp
  rw [hr, Oper.upon_enter, hd]
  refine hcall.mono ?_
  rintro e w' ⟨v, rfl, h2, h4⟩
  exact hk _ _ _ (ha.put (by simpa using hn) v) (h v w' (S.back h2) h4)
theorem SH.lendBox {α : Type} {C : Cd α} {z : α} (S : SH w M X H) (hi : nth H i = some (Rs.box g E l)) (hl : l = C.f z) (hr : C.u8 ≤ 140737488355328) : RdA C (M.un (XH w X H).h) (some ⟨g, 0, none⟩) 1 [z] := by
  have hmem : Rs.box g E l ∈ H := by rw [nth_eq] at hi; exact List.mem_of_getElem? hi
  refine ⟨by simp, by simpa using hr, fun _ => ⟨rfl, l.toArray, E, (0, 0), ?_, fun j u hu => ?_⟩⟩
  · show (M.un (XH w X H).h) g = _
    have h1 := S.bl _ hmem g (by simp [Rs.box])
    have h2 : hp w g = some (.cells l.toArray E (0, 0)) := S.get hi
    have h3 : (H.any fun r => r.bl.contains g) = true := any_bl.2 ⟨_, hmem, List.mem_singleton.2 rfl⟩
    simp only [Hp.un, h1.2.1, XH, h3, if_true, h2]
  · rw [List.flatMap_cons, List.flatMap_nil, List.append_nil, ← hl] at hu
    simpa [adO] using hu
theorem SH.boxM (S : SH w M X H) (hi : nth H i = some (Rs.box g E l)) : BxM (M.un (XH w X H).h) g E l := by
  have hmem : Rs.box g E l ∈ H := by rw [nth_eq] at hi; exact List.mem_of_getElem? hi
  have h1 := S.bl _ hmem g (by simp [Rs.box])
  have h2 : hp w g = some (.cells l.toArray E (0, 0)) := S.get hi
  unfold BxM
  have h3 : (H.any fun r => r.bl.contains g) = true := any_bl.2 ⟨_, hmem, List.mem_singleton.2 rfl⟩
  simp only [Hp.un, h1.2.1, XH, h3, if_true, h2]
theorem run_max {ca : Call} {ops : List Operand} {ts : List TypeId} (hop : o.op = .call ca) (hca : ca.callee = .builtin .max) (hxs : ca.args = ops.toArray) (hts : ca.argTypes = ts.toArray) (hx : oevs L ops = some [.int .i64 a, .int .i64 b]) : Run P o L w (.int .i64 (max a b)) w := by
  intro n c he
  have e : (if b > a then b else a) = max a b := by
    by_cases h : b > a
    · rw [if_pos h]; omega
    · rw [if_neg h]; omega
  unfold execOp
  simp only [hop, resolve, hca, hxs, hts, List.map_toArray, he.evals hx, Sem.run_bind, Sem.run_pure, Result.andThen_ok, invoke, builtin, Builtin.max_, List.foldlM_cons, List.foldlM_nil, Builtin.max2, e]
/-! Slices of slices -/
theorem run_sliceI {A : Option Addr} {len cap lo hi size : Nat} {lx hx : Option Operand} {lv hv : Option Value} (hop : o.op = .slice T x lx hx none) (hxx : oev L x = some (.slice A len cap)) (hlo : lx.map (oev L) = lv.map some) (hhi : hx.map (oev L) = hv.map some) (hu : P.underlying T = some (.slice E)) (hk : (P.info? E).map (·.size) = some size)
    (h1 : (lv = none ∧ lo = 0) ∨ lv = some (.int .i64 (lo : Int))) (h2 : (hv = none ∧ hi = len) ∨ hv = some (.int .i64 (hi : Int))) (hle : lo ≤ hi) (hc : hi ≤ cap) :
    Run P o L w (.slice (if cap = lo then A else A.map (·.add (lo * size))) (hi - lo) (cap - lo)) w := by
  intro n c he
  have e1 : lx.map c.eval = lv := by
    cases lx <;> cases lv <;> simp at hlo ⊢
    exact he.eval hlo
  have e2 : hx.map c.eval = hv := by
    cases hx <;> cases hv <;> simp at hhi ⊢
    exact he.eval hhi
  have g1 : (0 : Int) ≤ (lo : Int) ∧ (lo : Int) ≤ (hi : Int) := by omega
  have g2 : (0 : Int) ≤ (hi : Int) ∧ (hi : Int) ≤ (cap : Int) := by omega
  unfold execOp
  rcases h1 with ⟨rfl, rfl⟩ | rfl <;> rcases h2 with ⟨rfl, rfl⟩ | rfl <;>
    simp only [hop, he.eval hxx, e1, e2, Instr.sliceAt, Instr.slice, Instr.sliceBounds, Instr.sliceBound, asIntOf, Option.map_none, Sem.run_bind, Sem.run_pure, Result.andThen_ok, run_underlying hu, run_sizeOf hk, g1, g2, and_self, if_true, Int.toNat_natCast, Option.isSome_none, Bool.false_eq_true, if_false]
/-- x[:k] of the call's own: the row is shorter. -/
theorem wo_takeR {α : Type} {C : Cd α} {xs : List α} {rv : Value} {hx : Operand} (k : Nat) (hop : o.op = .slice T x none (some hx) none) (hd : o.dst = some d) (hn : Nat.blt d n = true) (hxx : oev L x = some rv) (hhi : oev L hx = some (.int .i64 a)) (hT : SlOf P T C) (ha : a = (k : Int)) (hk : k ≤ xs.length) (S : SH w M X H) (hi : nth H i = some (Rs.row C rv xs))
    (h : ∀ v' , SH w M X (H.set i (Rs.row C v' (xs.take k))) → Kt ((d, v') :: L) w) : WO P n o L w Kt := by
  obtain ⟨zv, h1, h2, h3, h4, h5⟩ := hT
  obtain ⟨inf, hinf, hz, hs, h8⟩ := info_parts h2
  subst ha
  obtain ⟨A, c, rfl, hc⟩ := S.sl hi
  have hr : Run P o L w (.slice A k c) w := by
    have := run_sliceI (P := P) (w := w) (lo := 0) (hi := k) hop hxx (lv := none) (hv := some (.int .i64 (k : Int))) (size := C.k) rfl (by simpa using hhi) h1 (by rw [hinf]; simp [hs]) (.inl ⟨rfl, rfl⟩) (.inr rfl) (Nat.zero_le _) (by omega)
    rw [Nat.zero_mul, Nat.sub_zero, Nat.sub_zero] at this
    have e : (if c = 0 then A else A.map (·.add 0)) = A := by
      split
      · rfl
      · cases A <;> simp [Addr.add]
    rw [e] at this
    exact this
  refine wo_run hd hn hr (h _ ?_)
  have hok : RowOk C (.slice A xs.length c) xs (hp w) := S.get hi
  refine S.step hi rfl (Like.refl w) (fun _ _ _ => rfl) ?_ (fun b hb => ⟨.inl (by cases A <;> exact hb), ?_⟩)
  · rcases hok with ⟨e1, e2⟩ | ⟨g, cap, cur, e1, e2, e3, e4, e5, e6⟩
    · injection e1 with e1 e1' e1''
      subst e2
      simp only [List.length_nil] at hk
      exact .inl ⟨by rw [e1, e1'', show k = 0 by omega], by simp⟩
    · injection e1 with e1 e1' e1''
      subst e1; subst e1''
      have hlen : (xs.take k).length = k := by rw [List.length_take]; omega
      refine .inr ⟨g, c, cur, by rw [hlen], e2, by rw [hlen]; omega, e4, e5, ?_⟩
      rw [hlen]
      have : cur.toList.take (k * C.k) = (cur.toList.take (xs.length * C.k)).take (k * C.k) := by
        rw [List.take_take, Nat.min_eq_left (Nat.mul_le_mul_right _ hk)]
      rw [this, e6]
      apply List.ext_getElem?
      intro m
      rw [List.getElem?_take]
      by_cases hm : m < k * C.k
      · rw [if_pos hm]
        have hmi : m / C.k < k := (Nat.div_lt_iff_lt_mul h4).2 hm
        have hmj : m % C.k < C.k := Nat.mod_lt _ h4
        have em : m / C.k * C.k + m % C.k = m := by rw [Nat.mul_comm]; exact Nat.div_add_mod m C.k
        have g1 := flat_get C.hf (xs := xs) (i := m / C.k) (by omega) hmj
        have g2 := flat_get C.hf (xs := xs.take k) (i := m / C.k) (by rw [hlen]; exact hmi) hmj
        rw [em] at g1 g2
        rw [g1, g2, List.getElem_take]
      · rw [if_neg hm, List.getElem?_eq_none]
        rw [flat_len C.hf, hlen]; omega
  · rcases hok with ⟨e1, e2⟩ | ⟨g, cap, cur, e1, e2, _⟩
    · injection e1 with e1
      subst e1
      simp [Rs.row, Value.ownBlock] at hb
    · injection e1 with e1
      subst e1
      simp [Rs.row, Value.ownBlock] at hb
      subst hb
      exact hp_lt e2
/-- x[lo:hi] of a slice that lasts. -/
theorem sliceM {α : Type} {C : Cd α} {N : Hp} {A : Option Addr} {c : Nat} {xs : List α} {lx hx : Option Operand} {lv hv : Option Value} (lo hi : Nat) (hop : o.op = .slice T x lx hx none) (hxx : oev L x = some (.slice A xs.length c)) (hlo : lx.map (oev L) = lv.map some) (hhi : hx.map (oev L) = hv.map some) (hT : SlOf P T C)
    (h1 : (lv = none ∧ lo = 0) ∨ lv = some (.int .i64 (lo : Int))) (h2 : (hv = none ∧ hi = xs.length) ∨ hv = some (.int .i64 (hi : Int))) (hle : lo ≤ hi) (hc : hi ≤ xs.length) (h : RdA C N A c xs) :
    ∃ A' c', Run P o L w (.slice A' ((xs.take hi).drop lo).length c') w ∧ RdA C N A' c' ((xs.take hi).drop lo) := by
  obtain ⟨zv, hu, h2', h3, h4, h5⟩ := hT
  obtain ⟨inf, hinf, hz, hs, h8⟩ := info_parts h2'
  have hlen : ((xs.take hi).drop lo).length = hi - lo := by simp; omega
  refine ⟨if c = lo then A else A.map (·.add (lo * C.k)), c - lo, ?_, ?_⟩
  · rw [hlen]
    exact run_sliceI (P := P) (w := w) (size := C.k) hop hxx hlo hhi hu (by rw [hinf]; simp [hs]) h1 h2 hle (by have := h.1; omega)
  · have hroom := h.2.1
    refine ⟨by rw [hlen]; have := h.1; omega, Nat.le_trans (Nat.mul_le_mul_right _ (by rw [hlen]; omega)) hroom, fun h0 => ?_⟩
    rw [hlen] at h0
    obtain ⟨e, cs, T', fz, hcs, hat⟩ := h.2.2 (by omega)
    have hcl : ¬ c = lo := by have := h.1; omega
    rw [if_neg hcl, e]
    simp only [Option.map_some, add_mul0, adB, adO]
    refine ⟨trivial, cs, T', fz, hcs, fun j u hu => ?_⟩
    have hj : j < (hi - lo) * C.k := by
      have := (List.getElem?_eq_some_iff.1 hu).1
      rwa [flat_len C.hf, hlen] at this
    have hmi : j / C.k < hi - lo := (Nat.div_lt_iff_lt_mul h4).2 hj
    have hmj : j % C.k < C.k := Nat.mod_lt _ h4
    have em : j / C.k * C.k + j % C.k = j := by rw [Nat.mul_comm]; exact Nat.div_add_mod j C.k
    have g1 := flat_get C.hf (xs := xs) (i := lo + j / C.k) (by omega) hmj
    have g2 := flat_get C.hf (xs := (xs.take hi).drop lo) (i := j / C.k) (by rw [hlen]; exact hmi) hmj
    rw [em] at g2
    rw [g2] at hu
    have e2 : ((xs.take hi).drop lo)[j / C.k]'(by rw [hlen]; exact hmi) = xs[lo + j / C.k]'(by omega) := by
      rw [List.getElem_drop, List.getElem_take]
    rw [e2, ← g1] at hu
    have := hat _ u hu
    rw [show adO A + ((lo + j / C.k) * C.k + j % C.k) = adO A + lo * C.k + j by rw [Nat.add_mul]; omega] at this
    exact this
theorem wo_sliceT {α : Type} {C : Cd α} {N : Hp} {A : Option Addr} {c : Nat} {xs : List α} {hx : Operand} (k : Nat) (hop : o.op = .slice T x none (some hx) none) (hd : o.dst = some d) (hn : Nat.blt d n = true) (hxx : oev L x = some (.slice A xs.length c)) (hhi : oev L hx = some (.int .i64 a)) (hT : SlOf P T C) (ha : a = (k : Int)) (hk : k ≤ xs.length) (hr : RdA C N A c xs)
    (h : ∀ A' c', RdA C N A' c' (xs.take k) → Kt ((d, .slice A' (xs.take k).length c') :: L) w) : WO P n o L w Kt := by
  subst ha
  obtain ⟨A', c', h1, h2⟩ := sliceM (P := P) (w := w) 0 k hop hxx (lv := none) (hv := some (.int .i64 (k : Int))) rfl (by simpa using hhi) hT (.inl ⟨rfl, rfl⟩) (.inr rfl) (Nat.zero_le _) hk hr
  exact wo_run hd hn h1 (h _ _ h2)
theorem wo_sliceD {α : Type} {C : Cd α} {N : Hp} {A : Option Addr} {c : Nat} {xs : List α} {lx : Operand} (k : Nat) (hop : o.op = .slice T x (some lx) none none) (hd : o.dst = some d) (hn : Nat.blt d n = true) (hxx : oev L x = some (.slice A xs.length c)) (hlo : oev L lx = some (.int .i64 a)) (hT : SlOf P T C) (ha : a = (k : Int)) (hk : k ≤ xs.length) (hr : RdA C N A c xs)
    (h : ∀ A' c', RdA C N A' c' (xs.drop k) → Kt ((d, .slice A' (xs.drop k).length c') :: L) w) : WO P n o L w Kt := by
  subst ha
  obtain ⟨A', c', h1, h2⟩ := sliceM (P := P) (w := w) k xs.length hop hxx (lv := some (.int .i64 (k : Int))) (hv := none) (by simpa using hlo) rfl hT (.inr rfl) (.inl ⟨rfl, rfl⟩) hk (Nat.le_refl _) hr
  rw [List.take_length] at h1 h2
  exact wo_run hd hn h1 (h _ _ h2)
/-- '[]T{}'. -/
theorem wo_buildSlice0 {α : Type} {C : Cd α} {pa : Array (Nat × Operand)} (hop : o.op = .buildSlice T 0 pa) (hpa : pa = #[]) (hd : o.dst = some d) (hn : Nat.blt d n = true) (hT : SlOf P T C) (S : SH w M X H)
    (h : ∀ v w', SH w' M X (Rs.row C v [] :: H) → Kt ((d, v) :: L) w') : WO P n o L w Kt := by
  obtain ⟨zv, h1, h2, h3, h4, h5⟩ := hT
  obtain ⟨inf, hinf, hz, hs, h8⟩ := info_parts h2
  subst hpa
  refine wo_run (v := .slice (some ⟨w.heap.size, 0, none⟩) 0 0) (w' := w.alloc (.cells #[] C.E)) hd hn ?_ (h _ _ ?_)
  · intro n c he
    unfold execOp
    simp only [hop, List.map_toArray, List.map_nil, Instr.buildSlice, run_underlying h1, sizeOf, typeInfo, run_program, hinf, Sem.run_bind, Sem.run_pure, Result.andThen_ok, Nat.zero_mul]
    simp [Instr.fill, newRow, Array.range]
  · refine S.cons (like_alloc w _) (keep_alloc w _) ?_ (fun b hb => by simp [Rs.row, Value.ownBlock] at hb; subst hb; rw [size_al]; omega)
    exact .inr ⟨w.heap.size, 0, #[], rfl, heap_alloc_new w _, Nat.le_refl _, Nat.zero_le _, by simp, by simp⟩
/-- '[]T{x, y, ..}'. -/
theorem wo_buildSliceN {α : Type} {C : Cd α} {len : Nat} {pa : Array (Nat × Operand)} {ps : List (Nat × Operand)} {vs : List (Nat × Value)} {pl : List (Nat × Nat)} (hop : o.op = .buildSlice T len pa) (hpa : pa = ps.toArray) (hd : o.dst = some d) (hn : Nat.blt d n = true) (hT : SlOf P T C) (hps : partL L ps = some vs) (hpl : plOk C.k 0 pl = true)
    (hl : fillL pl (List.flatten (List.replicate len (C.f C.z))) vs = some l) (hsm : Nat.ble (len * C.k) 16777216 = true) (hlen : Nat.blt 0 len = true) (S : SH w M X H)
    (h : ∀ g w', SH w' M X (Rs.box g C.E l :: H) → Kt ((d, .slice (some ⟨g, 0, none⟩) len len) :: L) w') : WO P n o L w Kt := by
  obtain ⟨zv, h1, h2, h3, h4, h5⟩ := hT
  obtain ⟨inf, hinf, hz, hs, h8⟩ := info_parts h2
  have hzk : zv.cells.size = C.k := by rw [← C.hf C.z, ← h3]; simp
  subst hpa
  have hzl : ((Array.range (len * C.k)).map (zv.cells[· % zv.cells.size]!)).toList = List.flatten (List.replicate len (C.f C.z)) := by
    have e0 : List.flatten (List.replicate len (C.f C.z)) = (List.replicate len C.z).flatMap C.f := by
      rw [List.flatMap_def, List.map_replicate]
    rw [e0]
    apply List.ext_getElem?
    intro q
    by_cases hq : q < len * C.k
    · have hi : q / C.k < (List.replicate len C.z).length := by rw [List.length_replicate]; exact (Nat.div_lt_iff_lt_mul h4).2 hq
      have hj : q % C.k < C.k := Nat.mod_lt _ h4
      have e := flat_get C.hf hi hj
      rw [show q / C.k * C.k + q % C.k = q by rw [Nat.mul_comm]; exact Nat.div_add_mod q C.k] at e
      rw [e, List.getElem_replicate, ← h3]
      simp only [hzk, Array.toList_map, Array.toList_range, List.getElem?_map, List.getElem?_range hq, Option.map_some]
      rw [Array.getElem!_eq_getD]
      simp [hzk, hj]
    · rw [List.getElem?_eq_none, List.getElem?_eq_none]
      · rw [flat_len C.hf, List.length_replicate]; omega
      · simp; omega
  have hf : Instr.fill (fun i => some (i * C.k, C.k)) ((Array.range (len * C.k)).map (zv.cells[· % zv.cells.size]!)) vs = some l.toArray :=
    fill_eq' (pl := pl) (fun i p hp => by rw [plOk_spec hpl i p hp, Nat.zero_add]) vs _ l (by rw [hzl]; exact hl)
  have hlen' : 0 < len := by simpa using hlen
  have hr := run_buildSlice (P := P) w T C.E len vs.toArray l.toArray inf zv h1 hinf hz (by rw [hs]; have := Nat.le_of_ble_eq_true hsm; omega) (by rw [hs]; have := Nat.mul_pos hlen' h4; omega) (by rw [hs]; exact hf)
  refine wo_run (v := .slice (some ⟨w.heap.size, 0, none⟩) len len) (w' := w.alloc (.cells l.toArray C.E)) hd hn ?_ (h _ _ (S.newbox C.E l))
  intro n c he
  unfold execOp
  simp only [hop, List.map_toArray, partL_eq he hps, hr, Sem.run_bind, Sem.run_pure, Result.andThen_ok]
/-- Elements that lie in a box, lent. -/
theorem SH.lendBoxN {α : Type} {C : Cd α} {zs : List α} (S : SH w M X H) (hi : nth H i = some (Rs.box g E l)) (hl : l = zs.flatMap C.f) (hr : zs.length * C.u8 ≤ 140737488355328) : RdA C (M.un (XH w X H).h) (some ⟨g, 0, none⟩) zs.length zs := by
  refine ⟨Nat.le_refl _, hr, fun _ => ⟨rfl, l.toArray, E, (0, 0), S.boxM hi, fun j u hu => ?_⟩⟩
  rw [← hl] at hu
  simpa [adO] using hu
theorem run_eqlNil {A : Option Addr} {m c : Nat} {y : Operand} (hop : o.op = .binOp .eql t x y t') (hx : oev L x = some (.slice A m c)) (hy : oev L y = some (.slice none 0 0)) (hu : P.underlying t = some (.slice E)) : Run P o L w (.bool A.isNone) w := by
  intro n c' he
  have hg : ∀ w, (eqGuard .eql t x y (.slice A m c) (.slice none 0 0)).run P w = .ok () w := by
    intro w; unfold eqGuard; simp
  unfold execOp
  simp only [hop, he.eval hx, he.eval hy, hg, binOp, Sem.run_bind, Sem.run_pure, Result.andThen_ok, run_equal_slice_nil w t E A m c hu]
end
section
variable {α : Type} {C : Cd α} {N : Hp} {vs : List SlV} {xss : List (List α)}
theorem Rd2.set_ (h : Rd2 C N vs xss) {A : Option Addr} {xs : List α} {c : Nat} (hx : RdA C N A c xs) (i : Nat) (hi : i < xss.length) : Rd2 C N (vs.set i ⟨A, xs.length, c⟩) (xss.set i xs) := by
  refine ⟨by simp [h.1], fun j hj => ?_⟩
  rw [List.length_set] at hj
  rw [ga_set _ _ _ _ (by rw [h.1]; exact hi), ga_set _ _ _ _ hi]
  by_cases hij : i = j
  · rw [if_pos hij, if_pos hij]; exact ⟨rfl, hx⟩
  · rw [if_neg hij, if_neg hij]; exact h.2 j hj
theorem Rd2.rep (n : Nat) : Rd2 C N (List.replicate n ⟨none, 0, 0⟩) (List.replicate n ([] : List α)) := by
  refine ⟨by simp, fun i hi => ?_⟩
  rw [List.length_replicate] at hi
  rw [ga_rep _ _ _ hi, ga_rep _ _ _ hi]
  exact ⟨rfl, RdA.nil_⟩
end
end Go.Proofs.Ytkcighnochjlgaa
