/- Part 2 of the proof of the law BraidEquals: the walks through its functions and the plain laws that they need. -/
import Derived.Test.YtomcgmialkdcbaaBeZ1
import Derived.Laws.Cover3
import Derived.Laws.Pointers
import Derived.Laws.StructEq
import Derived.MapKept
import Derived.Carry
set_option linter.unusedSimpArgs false
set_option linter.unusedVariables false
namespace Go.Proofs.Ytomcgmialkdcbaa
open Go.ChangeShapes Go.WideShapes Go.ChangeAt Go.RowKit
section
variable {P : Program} {o : Oper} {L : List (Nat × Value)} {w w' : World} {x y z : Operand} {t t' T E : TypeId} {a b : Int} {v u : Value} {n d : Nat} {Kt : List (Nat × Value) → World → Prop} {M M' : Hp} {X : Fr} {H H' : List Rs} {i g off : Nat} {l : List Value}
theorem run_makeFunc {f : FuncId} {ys : List Operand} {vs : List Value} {fa ca : Array Operand} (hop : o.op = .makeFunc (.func f) fa ca) (hf : fa = #[]) (hc : ca = ys.toArray) (hv : oevs L ys = some vs) : Run P o L w (.func (.func f) #[] vs.toArray) w := by
  intro n c he
  unfold execOp
  subst hf
  simp only [hop, hc, List.map_toArray, he.evals hv, Instr.makeFunc, Sem.run_bind, Sem.run_pure, Result.andThen_ok]
  rfl
/-- A call of a function value. -/
theorem wo_cqF {f : FuncId} {vs cap : List Value} {ca : Call} {fo : Operand} {xs : List Operand} (hd : o.dst = some d) (hop : o.op = .call ca) (hca : ca.callee = .value fo) (hfo : oev L fo = some (.func (.func f) #[] cap.toArray))
    (hxs : ca.args = xs.toArray) (hvs : oevs L xs = some vs) (hn : Nat.blt d n = true) (hen : ∀ args w, (callFunc f args).run P w = .ok (.enter f args) w) (S : SH w M X H)
    {R : Value → Prop} (hcall : Cq P f (vs ++ cap) w M (XH w X H) R) (h : ∀ v w', SH w' M X H → R v → Kt ((d, v) :: L) w') : WO P n o L w Kt := by
  intro a ha next Q hk
  have hr : (execOp a.eval o).run P w = .ok (.enter f (vs ++ cap).toArray) w := by
    unfold execOp
    simp only [hop, resolve, hca, ha.eval hfo, hxs, List.map_toArray, ha.evals hvs, Deferred.ofValue, Sem.run_bind, Sem.run_pure, Result.andThen_ok, invoke, Array.empty_append, List.append_toArray]
    exact hen _ _
  unfold Oper.wp
  rw [hr, Oper.upon_enter, hd]
  refine hcall.mono ?_
  rintro e w' ⟨v, rfl, h2, h4⟩
  exact hk _ _ _ (ha.put (by simpa using hn) v) (h v w' (S.back h2) h4)
theorem SH.boxM (S : SH w M X H) (hi : nth H i = some (Rs.box g E l)) : BxM (M.un (XH w X H).h) g E l := by
  have hmem : Rs.box g E l ∈ H := by rw [nth_eq] at hi; exact List.mem_of_getElem? hi
  have h1 := S.bl _ hmem g (by simp [Rs.box])
  have h2 : hp w g = some (.cells l.toArray E (0, 0)) := S.get hi
  unfold BxM
  have h3 : (H.any fun r => r.bl.contains g) = true := any_bl.2 ⟨_, hmem, List.mem_singleton.2 rfl⟩
  simp only [Hp.un, h1.2.1, XH, h3, if_true, h2]
theorem run_max {ca : Call} {ops : List Operand} {ts : List TypeId} (hop : o.op = .call ca) (hca : ca.callee = .builtin .max) (hxs : ca.args = ops.toArray) (hts : ca.argTypes = ts.toArray) (hx : oevs L ops = some [.int .i64 a, .int .i64 b]) : Run P o L w (.int .i64 (max a b)) w := by
  intro n c he
  have e : (if b > a then b else a) = max a b := by
    by_cases h : b > a
    · rw [if_pos h]; omega
    · rw [if_neg h]; omega
  unfold execOp
  simp only [hop, resolve, hca, hxs, hts, List.map_toArray, he.evals hx, Sem.run_bind, Sem.run_pure, Result.andThen_ok, invoke, builtin, Builtin.max_, List.foldlM_cons, List.foldlM_nil, Builtin.max2, e]
theorem run_sliceI {A : Option Addr} {len cap lo hi size : Nat} {lx hx : Option Operand} {lv hv : Option Value} (hop : o.op = .slice T x lx hx none) (hxx : oev L x = some (.slice A len cap)) (hlo : lx.map (oev L) = lv.map some) (hhi : hx.map (oev L) = hv.map some) (hu : P.underlying T = some (.slice E)) (hk : (P.info? E).map (·.size) = some size)
    (h1 : (lv = none ∧ lo = 0) ∨ lv = some (.int .i64 (lo : Int))) (h2 : (hv = none ∧ hi = len) ∨ hv = some (.int .i64 (hi : Int))) (hle : lo ≤ hi) (hc : hi ≤ cap) :
    Run P o L w (.slice (if cap = lo then A else A.map (·.add (lo * size))) (hi - lo) (cap - lo)) w := by
  intro n c he
  have e1 : lx.map c.eval = lv := by
    cases lx <;> cases lv <;> simp at hlo ⊢
    exact he.eval hlo
  have e2 : hx.map c.eval = hv := by
    cases hx <;> cases hv <;> simp at hhi ⊢
    exact he.eval hhi
  have g1 : (0 : Int) ≤ (lo : Int) ∧ (lo : Int) ≤ (hi : Int) := by omega
  have g2 : (0 : Int) ≤ (hi : Int) ∧ (hi : Int) ≤ (cap : Int) := by omega
  unfold execOp
  rcases h1 with ⟨rfl, rfl⟩ | rfl <;> rcases h2 with ⟨rfl, rfl⟩ | rfl <;>
    simp only [hop, he.eval hxx, e1, e2, Instr.sliceAt, Instr.slice, Instr.sliceBounds, Instr.sliceBound, asIntOf, Option.map_none, Sem.run_bind, Sem.run_pure, Result.andThen_ok, run_underlying hu, run_sizeOf hk, g1, g2, and_self, if_true, Int.toNat_natCast, Option.isSome_none, Bool.false_eq_true, if_false]
/-- x[:k] of the call's own: the row is shorter. -/
theorem wo_takeR {α : Type} {C : Cd α} {xs : List α} {rv : Value} {hx : Operand} (k : Nat) (hop : o.op = .slice T x none (some hx) none) (hd : o.dst = some d) (hn : Nat.blt d n = true) (hxx : oev L x = some rv) (hhi : oev L hx = some (.int .i64 a)) (hT : SlOf P T C) (ha : a = (k : Int)) (hk : k ≤ xs.length) (S : SH w M X H) (hi : nth H i = some (Rs.row C rv xs))
    (h : ∀ v' , SH w M X (H.set i (Rs.row C v' (xs.take k))) → Kt ((d, v') :: L) w) : WO P n o L w Kt := by
  obtain ⟨zv, h1, h2, h3, h4, h5⟩ := hT
  obtain ⟨inf, hinf, hz, hs, h8⟩ := info_parts h2
  subst ha
  obtain ⟨A, c, rfl, hc⟩ := S.sl hi
  have hr : Run P o L w (.slice A k c) w := by
    have := run_sliceI (P := P) (w := w) (lo := 0) (hi := k) hop hxx (lv := none) (hv := some (.int .i64 (k : Int))) (size := C.k) rfl (by simpa using hhi) h1 (by rw [hinf]; simp [hs]) (.inl ⟨rfl, rfl⟩) (.inr rfl) (Nat.zero_le _) (by omega)
    rw [Nat.zero_mul, Nat.sub_zero, Nat.sub_zero] at this
    have e : (if c = 0 then A else A.map (·.add 0)) = A := by
      split
      · rfl
      · cases A <;> simp [Addr.add]
    rw [e] at this
    exact this
  refine wo_run hd hn hr (h _ ?_)
  have hok : RowOk C (.slice A xs.length c) xs (hp w) := S.get hi
  refine S.step hi rfl (Like.refl w) (fun _ _ _ => rfl) ?_ (fun b hb => ⟨.inl (by cases A <;> exact hb), ?_⟩)
  · rcases hok with ⟨e1, e2⟩ | ⟨g, cap, cur, e1, e2, e3, e4, e5, e6⟩
    · injection e1 with e1 e1' e1''
      subst e2
      simp only [List.length_nil] at hk
      exact .inl ⟨by rw [e1, e1'', show k = 0 by omega], by simp⟩
    · injection e1 with e1 e1' e1''
      subst e1; subst e1''
      have hlen : (xs.take k).length = k := by rw [List.length_take]; omega
      refine .inr ⟨g, c, cur, by rw [hlen], e2, by rw [hlen]; omega, e4, e5, ?_⟩
      rw [hlen]
      have : cur.toList.take (k * C.k) = (cur.toList.take (xs.length * C.k)).take (k * C.k) := by
        rw [List.take_take, Nat.min_eq_left (Nat.mul_le_mul_right _ hk)]
      rw [this, e6]
      apply List.ext_getElem?
      intro m
      rw [List.getElem?_take]
      by_cases hm : m < k * C.k
      · rw [if_pos hm]
        have hmi : m / C.k < k := (Nat.div_lt_iff_lt_mul h4).2 hm
        have hmj : m % C.k < C.k := Nat.mod_lt _ h4
        have em : m / C.k * C.k + m % C.k = m := by rw [Nat.mul_comm]; exact Nat.div_add_mod m C.k
        have g1 := flat_get C.hf (xs := xs) (i := m / C.k) (by omega) hmj
        have g2 := flat_get C.hf (xs := xs.take k) (i := m / C.k) (by rw [hlen]; exact hmi) hmj
        rw [em] at g1 g2
        rw [g1, g2, List.getElem_take]
      · rw [if_neg hm, List.getElem?_eq_none]
        rw [flat_len C.hf, hlen]; omega
  · rcases hok with ⟨e1, e2⟩ | ⟨g, cap, cur, e1, e2, _⟩
    · injection e1 with e1
      subst e1
      simp [Rs.row, Value.ownBlock] at hb
    · injection e1 with e1
      subst e1
      simp [Rs.row, Value.ownBlock] at hb
      subst hb
      exact hp_lt e2
/-- x[lo:hi] of a slice that lasts. -/
theorem sliceM {α : Type} {C : Cd α} {N : Hp} {A : Option Addr} {c : Nat} {xs : List α} {lx hx : Option Operand} {lv hv : Option Value} (lo hi : Nat) (hop : o.op = .slice T x lx hx none) (hxx : oev L x = some (.slice A xs.length c)) (hlo : lx.map (oev L) = lv.map some) (hhi : hx.map (oev L) = hv.map some) (hT : SlOf P T C)
    (h1 : (lv = none ∧ lo = 0) ∨ lv = some (.int .i64 (lo : Int))) (h2 : (hv = none ∧ hi = xs.length) ∨ hv = some (.int .i64 (hi : Int))) (hle : lo ≤ hi) (hc : hi ≤ xs.length) (h : RdA C N A c xs) :
    ∃ A' c', Run P o L w (.slice A' ((xs.take hi).drop lo).length c') w ∧ RdA C N A' c' ((xs.take hi).drop lo) := by
  obtain ⟨zv, hu, h2', h3, h4, h5⟩ := hT
  obtain ⟨inf, hinf, hz, hs, h8⟩ := info_parts h2'
  have hlen : ((xs.take hi).drop lo).length = hi - lo := by simp; omega
  refine ⟨if c = lo then A else A.map (·.add (lo * C.k)), c - lo, ?_, ?_⟩
  · rw [hlen]
    exact run_sliceI (P := P) (w := w) (size := C.k) hop hxx hlo hhi hu (by rw [hinf]; simp [hs]) h1 h2 hle (by have := h.1; omega)
  · have hroom := h.2.1
    refine ⟨by rw [hlen]; have := h.1; omega, Nat.le_trans (Nat.mul_le_mul_right _ (by rw [hlen]; omega)) hroom, fun h0 => ?_⟩
    rw [hlen] at h0
    obtain ⟨e, cs, T', fz, hcs, hat⟩ := h.2.2 (by omega)
    have hcl : ¬ c = lo := by have := h.1; omega
    rw [if_neg hcl, e]
    simp only [Option.map_some, add_mul0, adB, adO]
    refine ⟨trivial, cs, T', fz, hcs, fun j u hu => ?_⟩
    have hj : j < (hi - lo) * C.k := by
      have := (List.getElem?_eq_some_iff.1 hu).1
      rwa [flat_len C.hf, hlen] at this
    have hmi : j / C.k < hi - lo := (Nat.div_lt_iff_lt_mul h4).2 hj
    have hmj : j % C.k < C.k := Nat.mod_lt _ h4
    have em : j / C.k * C.k + j % C.k = j := by rw [Nat.mul_comm]; exact Nat.div_add_mod j C.k
    have g1 := flat_get C.hf (xs := xs) (i := lo + j / C.k) (by omega) hmj
    have g2 := flat_get C.hf (xs := (xs.take hi).drop lo) (i := j / C.k) (by rw [hlen]; exact hmi) hmj
    rw [em] at g2
    rw [g2] at hu
    have e2 : ((xs.take hi).drop lo)[j / C.k]'(by rw [hlen]; exact hmi) = xs[lo + j / C.k]'(by omega) := by
      rw [List.getElem_drop, List.getElem_take]
    rw [e2, ← g1] at hu
    have := hat _ u hu
    rw [show adO A + ((lo + j / C.k) * C.k + j % C.k) = adO A + lo * C.k + j by rw [Nat.add_mul]; omega] at this
    exact this
theorem wo_sliceD {α : Type} {C : Cd α} {N : Hp} {A : Option Addr} {c : Nat} {xs : List α} {lx : Operand} (k : Nat) (hop : o.op = .slice T x (some lx) none none) (hd : o.dst = some d) (hn : Nat.blt d n = true) (hxx : oev L x = some (.slice A xs.length c)) (hlo : oev L lx = some (.int .i64 a)) (hT : SlOf P T C) (ha : a = (k : Int)) (hk : k ≤ xs.length) (hr : RdA C N A c xs)
    (h : ∀ A' c', RdA C N A' c' (xs.drop k) → Kt ((d, .slice A' (xs.drop k).length c') :: L) w) : WO P n o L w Kt := by
  subst ha
  obtain ⟨A', c', h1, h2⟩ := sliceM (P := P) (w := w) k xs.length hop hxx (lv := some (.int .i64 (k : Int))) (hv := none) (by simpa using hlo) rfl hT (.inr rfl) (.inl ⟨rfl, rfl⟩) hk (Nat.le_refl _) hr
  rw [List.take_length] at h1 h2
  exact wo_run hd hn h1 (h _ _ h2)
/-- '[]T{x, y, ..}'. -/
theorem wo_buildSliceN {α : Type} {C : Cd α} {len : Nat} {pa : Array (Nat × Operand)} {ps : List (Nat × Operand)} {vs : List (Nat × Value)} {pl : List (Nat × Nat)} (hop : o.op = .buildSlice T len pa) (hpa : pa = ps.toArray) (hd : o.dst = some d) (hn : Nat.blt d n = true) (hT : SlOf P T C) (hps : partL L ps = some vs) (hpl : plOk C.k 0 pl = true)
    (hl : fillL pl (List.flatten (List.replicate len (C.f C.z))) vs = some l) (hsm : Nat.ble (len * C.k) 16777216 = true) (hlen : Nat.blt 0 len = true) (S : SH w M X H)
    (h : ∀ g w', SH w' M X (Rs.box g C.E l :: H) → Kt ((d, .slice (some ⟨g, 0, none⟩) len len) :: L) w') : WO P n o L w Kt := by
  obtain ⟨zv, h1, h2, h3, h4, h5⟩ := hT
  obtain ⟨inf, hinf, hz, hs, h8⟩ := info_parts h2
  have hzk : zv.cells.size = C.k := by rw [← C.hf C.z, ← h3]; simp
  subst hpa
  have hzl : ((Array.range (len * C.k)).map (zv.cells[· % zv.cells.size]!)).toList = List.flatten (List.replicate len (C.f C.z)) := by
    have e0 : List.flatten (List.replicate len (C.f C.z)) = (List.replicate len C.z).flatMap C.f := by
      rw [List.flatMap_def, List.map_replicate]
    rw [e0]
    apply List.ext_getElem?
    intro q
    by_cases hq : q < len * C.k
    · have hi : q / C.k < (List.replicate len C.z).length := by rw [List.length_replicate]; exact (Nat.div_lt_iff_lt_mul h4).2 hq
      have hj : q % C.k < C.k := Nat.mod_lt _ h4
      have e := flat_get C.hf hi hj
      rw [show q / C.k * C.k + q % C.k = q by rw [Nat.mul_comm]; exact Nat.div_add_mod q C.k] at e
      rw [e, List.getElem_replicate, ← h3]
      simp only [hzk, Array.toList_map, Array.toList_range, List.getElem?_map, List.getElem?_range hq, Option.map_some]
      rw [Array.getElem!_eq_getD]
      simp [hzk, hj]
    · rw [List.getElem?_eq_none, List.getElem?_eq_none]
      · rw [flat_len C.hf, List.length_replicate]; omega
      · simp; omega
  have hf : Instr.fill (fun i => some (i * C.k, C.k)) ((Array.range (len * C.k)).map (zv.cells[· % zv.cells.size]!)) vs = some l.toArray :=
    fill_eq' (pl := pl) (fun i p hp => by rw [plOk_spec hpl i p hp, Nat.zero_add]) vs _ l (by rw [hzl]; exact hl)
  have hlen' : 0 < len := by simpa using hlen
  have hr := run_buildSlice (P := P) w T C.E len vs.toArray l.toArray inf zv h1 hinf hz (by rw [hs]; have := Nat.le_of_ble_eq_true hsm; omega) (by rw [hs]; have := Nat.mul_pos hlen' h4; omega) (by rw [hs]; exact hf)
  refine wo_run (v := .slice (some ⟨w.heap.size, 0, none⟩) len len) (w' := w.alloc (.cells l.toArray C.E)) hd hn ?_ (h _ _ (S.newbox C.E l))
  intro n c he
  unfold execOp
  simp only [hop, List.map_toArray, partL_eq he hps, hr, Sem.run_bind, Sem.run_pure, Result.andThen_ok]
/-- Elements that lie in a box, lent. -/
theorem SH.lendBoxN {α : Type} {C : Cd α} {zs : List α} (S : SH w M X H) (hi : nth H i = some (Rs.box g E l)) (hl : l = zs.flatMap C.f) (hr : zs.length * C.u8 ≤ 140737488355328) : RdA C (M.un (XH w X H).h) (some ⟨g, 0, none⟩) zs.length zs := by
  refine ⟨Nat.le_refl _, hr, fun _ => ⟨rfl, l.toArray, E, (0, 0), S.boxM hi, fun j u hu => ?_⟩⟩
  rw [← hl] at hu
  simpa [adO] using hu
end
section
variable {α : Type} {C : Cd α} {N : Hp} {vs : List SlV} {xss : List (List α)}
theorem Rd2.set_ (h : Rd2 C N vs xss) {A : Option Addr} {xs : List α} {c : Nat} (hx : RdA C N A c xs) (i : Nat) (hi : i < xss.length) : Rd2 C N (vs.set i ⟨A, xs.length, c⟩) (xss.set i xs) := by
  refine ⟨by simp [h.1], fun j hj => ?_⟩
  rw [List.length_set] at hj
  rw [ga_set _ _ _ _ (by rw [h.1]; exact hi), ga_set _ _ _ _ hi]
  by_cases hij : i = j
  · rw [if_pos hij, if_pos hij]; exact ⟨rfl, hx⟩
  · rw [if_neg hij, if_neg hij]; exact h.2 j hj
end
end Go.Proofs.Ytomcgmialkdcbaa
namespace Go.Proofs.Ytomcgmialkdcbaa
open Go.ChangeShapes Go.WideShapes Go.ChangeAt Go.RowKit
theorem sz3 : (Try.prog.info? 3).map (·.size) = some 1 := by kernel_rfl
theorem sz22 : (Try.prog.info? 22).map (·.size) = some 1 := by kernel_rfl
theorem sz38 : (Try.prog.info? 38).map (·.size) = some 1 := by kernel_rfl
theorem cf6 : ∀ args w, (callFunc 6 args).run Try.prog w = .ok (.enter 6 args) w := enter_ok (c := Try.f6.body.getD .skip) Try.func6 (by decide) rfl
theorem cf7 : ∀ args w, (callFunc 7 args).run Try.prog w = .ok (.enter 7 args) w := enter_ok (c := Try.f7.body.getD .skip) Try.func7 (by decide) rfl
theorem cf9 : ∀ args w, (callFunc 9 args).run Try.prog w = .ok (.enter 9 args) w := enter_ok (c := Try.f9.body.getD .skip) Try.func9 (by decide) rfl
theorem cf10 : ∀ args w, (callFunc 10 args).run Try.prog w = .ok (.enter 10 args) w := enter_ok (c := Try.f10.body.getD .skip) Try.func10 (by decide) rfl
theorem cf11 : ∀ args w, (callFunc 11 args).run Try.prog w = .ok (.enter 11 args) w := enter_ok (c := Try.f11.body.getD .skip) Try.func11 (by decide) rfl
theorem cf12 : ∀ args w, (callFunc 12 args).run Try.prog w = .ok (.enter 12 args) w := enter_ok (c := Try.f12.body.getD .skip) Try.func12 (by decide) rfl
theorem cf15 : ∀ args w, (callFunc 15 args).run Try.prog w = .ok (.enter 15 args) w := enter_ok (c := Try.f15.body.getD .skip) Try.func15 (by decide) rfl
theorem cf16 : ∀ args w, (callFunc 16 args).run Try.prog w = .ok (.enter 16 args) w := enter_ok (c := Try.f16.body.getD .skip) Try.func16 (by decide) rfl
theorem cf18 : ∀ args w, (callFunc 18 args).run Try.prog w = .ok (.enter 18 args) w := enter_ok (c := Try.f18.body.getD .skip) Try.func18 (by decide) rfl
theorem cf19 : ∀ args w, (callFunc 19 args).run Try.prog w = .ok (.enter 19 args) w := enter_ok (c := Try.f19.body.getD .skip) Try.func19 (by decide) rfl
theorem cf20 : ∀ args w, (callFunc 20 args).run Try.prog w = .ok (.enter 20 args) w := enter_ok (c := Try.f20.body.getD .skip) Try.func20 (by decide) rfl
theorem cf21 : ∀ args w, (callFunc 21 args).run Try.prog w = .ok (.enter 21 args) w := enter_ok (c := Try.f21.body.getD .skip) Try.func21 (by decide) rfl
theorem cf22 : ∀ args w, (callFunc 22 args).run Try.prog w = .ok (.enter 22 args) w := enter_ok (c := Try.f22.body.getD .skip) Try.func22 (by decide) rfl
theorem cf23 : ∀ args w, (callFunc 23 args).run Try.prog w = .ok (.enter 23 args) w := enter_ok (c := Try.f23.body.getD .skip) Try.func23 (by decide) rfl
theorem cf24 : ∀ args w, (callFunc 24 args).run Try.prog w = .ok (.enter 24 args) w := enter_ok (c := Try.f24.body.getD .skip) Try.func24 (by decide) rfl
theorem cf25 : ∀ args w, (callFunc 25 args).run Try.prog w = .ok (.enter 25 args) w := enter_ok (c := Try.f25.body.getD .skip) Try.func25 (by decide) rfl
theorem cf26 : ∀ args w, (callFunc 26 args).run Try.prog w = .ok (.enter 26 args) w := enter_ok (c := Try.f26.body.getD .skip) Try.func26 (by decide) rfl
theorem cf27 : ∀ args w, (callFunc 27 args).run Try.prog w = .ok (.enter 27 args) w := enter_ok (c := Try.f27.body.getD .skip) Try.func27 (by decide) rfl
theorem cf28 : ∀ args w, (callFunc 28 args).run Try.prog w = .ok (.enter 28 args) w := enter_ok (c := Try.f28.body.getD .skip) Try.func28 (by decide) rfl
theorem cf29 : ∀ args w, (callFunc 29 args).run Try.prog w = .ok (.enter 29 args) w := enter_ok (c := Try.f29.body.getD .skip) Try.func29 (by decide) rfl
theorem cf30 : ∀ args w, (callFunc 30 args).run Try.prog w = .ok (.enter 30 args) w := enter_ok (c := Try.f30.body.getD .skip) Try.func30 (by decide) rfl
theorem cf32 : ∀ args w, (callFunc 32 args).run Try.prog w = .ok (.enter 32 args) w := enter_ok (c := Try.f32.body.getD .skip) Try.func32 (by decide) rfl
theorem cf33 : ∀ args w, (callFunc 33 args).run Try.prog w = .ok (.enter 33 args) w := enter_ok (c := Try.f33.body.getD .skip) Try.func33 (by decide) rfl
theorem cf34 : ∀ args w, (callFunc 34 args).run Try.prog w = .ok (.enter 34 args) w := enter_ok (c := Try.f34.body.getD .skip) Try.func34 (by decide) rfl
theorem cf35 : ∀ args w, (callFunc 35 args).run Try.prog w = .ok (.enter 35 args) w := enter_ok (c := Try.f35.body.getD .skip) Try.func35 (by decide) rfl
theorem cf36 : ∀ args w, (callFunc 36 args).run Try.prog w = .ok (.enter 36 args) w := enter_ok (c := Try.f36.body.getD .skip) Try.func36 (by decide) rfl
theorem cf37 : ∀ args w, (callFunc 37 args).run Try.prog w = .ok (.enter 37 args) w := enter_ok (c := Try.f37.body.getD .skip) Try.func37 (by decide) rfl
theorem cf38 : ∀ args w, (callFunc 38 args).run Try.prog w = .ok (.enter 38 args) w := enter_ok (c := Try.f38.body.getD .skip) Try.func38 (by decide) rfl
end Go.Proofs.Ytomcgmialkdcbaa
namespace Go.Proofs.Ytomcgmialkdcbaa
open Go.ChangeShapes Go.WideShapes Go.ChangeAt Go.RowKit
section
variable {P : Program} {f : FuncId} {vs vs' : List Value} {w : World} {M : Hp} {X : Fr}
theorem Cq.cast {R : Value → Prop} (h : vs = vs') (c : Cq P f vs' w M X R) : Cq P f vs w M X R := h ▸ c
theorem Co.cast {R : Value → List Rs → Prop} (h : vs = vs') (c : Co P f vs' w M X R) : Co P f vs w M X R := h ▸ c
/-- The facts of a lent table's rows, at the call's memory. -/
theorem Rd2.at_ {α : Type} {C : Cd α} {ss : List SlV} {xss : List (List α)} {H : List Rs} (_ : SH w M X H) (h : Rd2 C (M.un (XH w X H).h) ss xss) : Rd2 C (M.un (XH w X H).h) ss xss := h
/-- A drawn-up slice of one element is given to all. -/
theorem SH.pubbox {α : Type} {C : Cd α} {z : α} {H H' : List Rs} {i g : Nat} {E : TypeId} {l : List Value} (S : SH w M X H) (hi : nth H i = some (Rs.box g E l)) (hH : H.set i Rs.emp = H') (hl : l = C.f z) (hr : C.u8 ≤ 140737488355328) : ∃ M', M.le M' ∧ SH w M' X H' ∧ RdA C M' (some ⟨g, 0, none⟩) 1 [z] := by
  obtain ⟨h1, h2, h3⟩ := S.pub hi hH
  refine ⟨_, h1, h2, by simp, by simpa using hr, fun _ => ⟨rfl, l.toArray, E, (0, 0), ?_, fun j u hu => ?_⟩⟩
  · have h4 : hp w g = some (.cells l.toArray E (0, 0)) := S.get hi
    show (M.put w _) g = _
    rw [h3 g (by simp [Rs.box]), h4]
  · rw [List.flatMap_cons, List.flatMap_nil, List.append_nil, ← hl] at hu
    simpa [adO] using hu
end
end Go.Proofs.Ytomcgmialkdcbaa
namespace Go.Proofs.Ytomcgmialkdcbaa
open Go.ChangeShapes Go.WideShapes Go.ChangeAt Go.RowKit
def SlV.v (s : SlV) : Value := .slice s.A s.n s.c
def tabBl (vs : List SlV) : List Nat := vs.flatMap (fun s => s.v.ownBlock.toList)
def TabOk {α : Type} (C : Cd α) (vs : List SlV) (xss : List (List α)) (h : Hp) : Prop :=
  vs.length = xss.length ∧ (∀ i, i < xss.length → RowOk C (ga vs i).v (ga xss i) h) ∧ ∀ i j, i < vs.length → j < vs.length → i ≠ j → ∀ b ∈ (ga vs i).v.ownBlock.toList, b ∉ (ga vs j).v.ownBlock.toList
theorem tab_mem {vs : List SlV} {b : Nat} : b ∈ tabBl vs ↔ ∃ i, i < vs.length ∧ b ∈ (ga vs i).v.ownBlock.toList := by
  unfold tabBl
  rw [List.mem_flatMap]
  constructor
  · rintro ⟨s, hs, hb⟩
    obtain ⟨i, hi, rfl⟩ := List.mem_iff_getElem.1 hs
    exact ⟨i, hi, by rw [ga_eq hi]; exact hb⟩
  · rintro ⟨i, hi, hb⟩
    exact ⟨ga vs i, ga_mem hi, hb⟩
/-- The inner rows. -/
def Rs.tab {α : Type} (C : Cd α) (vs : List SlV) (xss : List (List α)) : Rs :=
  ⟨tabBl vs, TabOk C vs xss, fun h h' hb hk => ⟨hk.1, fun i hi => (Rs.row C (ga vs i).v (ga xss i)).loc h h' (fun b hm => hb b (tab_mem.2 ⟨i, by rw [hk.1]; exact hi, hm⟩)) (hk.2.1 i hi), hk.2.2⟩⟩
section
variable {α : Type} {C : Cd α} {xs zs : List α} {v : Value} {w w' : World} {M : Hp} {X : Fr} {H H' : List Rs} {i q g k : Nat} {T : TypeId} {l : List Value} {vs : List SlV} {xss : List (List α)} {r s t : Rs}
theorem SH.newtab (S : SH w M X H) (C : Cd α) (n : Nat) : SH w M X (Rs.tab C (List.replicate n ⟨none, 0, 0⟩) (List.replicate n []) :: H) := by
  have hb : tabBl (List.replicate n ⟨none, 0, 0⟩) = [] := by
    unfold tabBl
    rw [List.flatMap_eq_nil_iff]
    intro x hx
    rw [List.eq_of_mem_replicate hx]
    rfl
  refine S.add ⟨by simp, fun i hi => ?_, fun i j hi hj _ b hb' => ?_⟩ hb
  · rw [List.length_replicate] at hi
    rw [ga_rep _ _ _ hi, ga_rep _ _ _ hi]
    exact .inl ⟨rfl, rfl⟩
  · rw [List.length_replicate] at hi
    rw [ga_rep _ _ _ hi] at hb'
    cases hb'
theorem SH.newtab0 (S : SH w M X H) (C : Cd α) : SH w M X (Rs.tab C [] [] :: H) := S.newtab C 0
/-- Two things become one. -/
theorem SH.merge (S : SH w M X H) (hi : nth H i = some r) (hq : nth H q = some s) (hiq : i ≠ q) (hok : t.ok (hp w)) (hbl : ∀ b ∈ t.bl, b ∈ r.bl ∨ b ∈ s.bl) (hH : (H.set i t).set q Rs.emp = H') : SH w M X H' := by
  subst hH
  rw [nth_eq] at hi hq
  have hget : ∀ j u, ((H.set i t).set q Rs.emp)[j]? = some u → (j = q ∧ u = Rs.emp) ∨ (j ≠ q ∧ j = i ∧ u = t) ∨ (j ≠ q ∧ j ≠ i ∧ H[j]? = some u) := fun j u hu => by
    rw [List.getElem?_set] at hu
    by_cases h1 : q = j
    · subst h1
      rw [if_pos rfl] at hu
      split at hu
      · injection hu with hu; exact .inl ⟨rfl, hu.symm⟩
      · cases hu
    · rw [if_neg h1, List.getElem?_set] at hu
      by_cases h2 : i = j
      · subst h2
        rw [if_pos rfl] at hu
        split at hu
        · injection hu with hu; exact .inr (.inl ⟨fun e => h1 e.symm, rfl, hu.symm⟩)
        · cases hu
      · rw [if_neg h2] at hu
        exact .inr (.inr ⟨fun e => h1 e.symm, fun e => h2 e.symm, hu⟩)
  refine ⟨S.m, S.x, S.mx, fun u hu => ?_, fun u hu b hb => ?_, fun j m u y hjm hu hy b hb => ?_, S.like⟩
  · obtain ⟨j, hj⟩ := List.mem_iff_getElem?.1 hu
    rcases hget j u hj with ⟨_, rfl⟩ | ⟨_, _, rfl⟩ | ⟨_, _, h⟩
    · trivial
    · exact hok
    · exact S.ok u (List.mem_of_getElem? h)
  · obtain ⟨j, hj⟩ := List.mem_iff_getElem?.1 hu
    rcases hget j u hj with ⟨_, rfl⟩ | ⟨_, _, rfl⟩ | ⟨_, _, h⟩
    · cases hb
    · rcases hbl b hb with h | h
      · exact S.bl r (List.mem_of_getElem? hi) b h
      · exact S.bl s (List.mem_of_getElem? hq) b h
    · exact S.bl u (List.mem_of_getElem? h) b hb
  · rcases hget j u hu with ⟨_, rfl⟩ | ⟨h1, rfl, rfl⟩ | ⟨h1, h2, h⟩
    · cases hb
    · rcases hget m y hy with ⟨_, rfl⟩ | ⟨_, rfl, _⟩ | ⟨h3, h4, h⟩
      · intro hc; cases hc
      · exact absurd rfl hjm
      · rcases hbl b hb with hb | hb
        · exact S.ap j m r y hjm hi h b hb
        · exact S.ap q m s y (fun e => h3 e.symm) hq h b hb
    · rcases hget m y hy with ⟨_, rfl⟩ | ⟨h3, rfl, rfl⟩ | ⟨_, _, h'⟩
      · intro hc; cases hc
      · intro hc
        rcases hbl b hc with hc | hc
        · exact S.ap j m u r hjm h hi b hb hc
        · exact S.ap j q u s h1 h hq b hb hc
      · exact S.ap j m u y hjm h h' b hb
theorem ga_set_ne {β : Type} [Inhabited β] (xs : List β) (i j : Nat) (y : β) (h : i ≠ j) : ga (xs.set i y) j = ga xs j := by
  unfold ga
  rw [List.getD_eq_getElem?_getD, List.getD_eq_getElem?_getD, List.getElem?_set, if_neg h]
/-- A row goes into the table. -/
theorem SH.tabput {A : Option Addr} {c : Nat} (S : SH w M X H) (k : Nat) (hi : nth H i = some (Rs.tab C vs xss)) (hq : nth H q = some (Rs.row C (.slice A zs.length c) zs)) (hiq : i ≠ q) (hk : k < xss.length) (hH : (H.set i (Rs.tab C (vs.set k ⟨A, zs.length, c⟩) (xss.set k zs))).set q Rs.emp = H') : SH w M X H' := by
  have ht : TabOk C vs xss (hp w) := S.get hi
  have hr : RowOk C (.slice A zs.length c) zs (hp w) := S.get hq
  have hkv : k < vs.length := by rw [ht.1]; exact hk
  have hap : ∀ j, j < vs.length → ∀ b ∈ (ga vs j).v.ownBlock.toList, b ∉ (Value.slice A zs.length c).ownBlock.toList := fun j hj b hb => by
    rw [nth_eq] at hi hq
    exact S.ap i q _ _ hiq hi hq b (tab_mem.2 ⟨j, hj, hb⟩)
  refine S.merge (t := Rs.tab C (vs.set k ⟨A, zs.length, c⟩) (xss.set k zs)) hi hq hiq ⟨by simp [ht.1], fun j hj => ?_, fun j m hj hm hjm b hb => ?_⟩ (fun b hb => ?_) hH
  · rw [List.length_set] at hj
    rw [ga_set _ _ _ _ hkv, ga_set _ _ _ _ hk]
    by_cases h : k = j
    · rw [if_pos h, if_pos h]; exact hr
    · rw [if_neg h, if_neg h]; exact ht.2.1 j hj
  · rw [List.length_set] at hj hm
    rw [ga_set _ _ _ _ hkv] at hb ⊢
    by_cases h1 : k = j
    · rw [if_pos h1] at hb
      rw [if_neg (by omega)]
      exact fun hc => hap m hm b hc hb
    · rw [if_neg h1] at hb
      by_cases h2 : k = m
      · rw [if_pos h2]; exact hap j hj b hb
      · rw [if_neg h2]; exact ht.2.2 j m hj hm hjm b hb
  · obtain ⟨j, hj, hb⟩ := tab_mem.1 hb
    rw [List.length_set] at hj
    rw [ga_set _ _ _ _ hkv] at hb
    by_cases h : k = j
    · rw [if_pos h] at hb; exact .inr hb
    · rw [if_neg h] at hb; exact .inl (tab_mem.2 ⟨j, hj, hb⟩)
/-- A row goes behind the table's last one. -/
theorem SH.tabsnoc {A : Option Addr} {c : Nat} (S : SH w M X H) (hi : nth H i = some (Rs.tab C vs xss)) (hq : nth H q = some (Rs.row C (.slice A zs.length c) zs)) (hiq : i ≠ q) (hH : (H.set i (Rs.tab C (vs ++ [⟨A, zs.length, c⟩]) (xss ++ [zs]))).set q Rs.emp = H') : SH w M X H' := by
  have ht : TabOk C vs xss (hp w) := S.get hi
  have hr : RowOk C (.slice A zs.length c) zs (hp w) := S.get hq
  have hap : ∀ j, j < vs.length → ∀ b ∈ (ga vs j).v.ownBlock.toList, b ∉ (Value.slice A zs.length c).ownBlock.toList := fun j hj b hb => by
    rw [nth_eq] at hi hq
    exact S.ap i q _ _ hiq hi hq b (tab_mem.2 ⟨j, hj, hb⟩)
  have hga : ∀ j, j < vs.length + 1 → ga (vs ++ [(⟨A, zs.length, c⟩ : SlV)]) j = if j < vs.length then ga vs j else ⟨A, zs.length, c⟩ := fun j hj => by
    split
    · rename_i h; exact ga_append_left _ _ _ h
    · rw [ga_append_right _ _ _ (by omega), show j - vs.length = 0 by omega]; rfl
  refine S.merge (t := Rs.tab C (vs ++ [⟨A, zs.length, c⟩]) (xss ++ [zs])) hi hq hiq ⟨by simp [ht.1], fun j hj => ?_, fun j m hj hm hjm b hb => ?_⟩ (fun b hb => ?_) hH
  · rw [List.length_append, List.length_singleton] at hj
    rw [hga j (by rw [ht.1]; exact hj)]
    by_cases h : j < vs.length
    · rw [if_pos h, ga_append_left _ _ _ (by rw [← ht.1]; exact h)]; exact ht.2.1 j (by rw [← ht.1]; exact h)
    · rw [if_neg h, ga_append_right _ _ _ (by rw [← ht.1]; omega), show j - xss.length = 0 by rw [← ht.1]; rw [← ht.1] at hj; omega]; exact hr
  · rw [List.length_append, List.length_singleton] at hj hm
    rw [hga j hj] at hb
    rw [hga m hm]
    by_cases h1 : j < vs.length
    · rw [if_pos h1] at hb
      by_cases h2 : m < vs.length
      · rw [if_pos h2]; exact ht.2.2 j m h1 h2 hjm b hb
      · rw [if_neg h2]; exact hap j h1 b hb
    · rw [if_neg h1] at hb
      rw [if_pos (by omega)]
      exact fun hc => hap m (by omega) b hc hb
  · obtain ⟨j, hj, hb⟩ := tab_mem.1 hb
    rw [List.length_append, List.length_singleton] at hj
    rw [hga j hj] at hb
    by_cases h : j < vs.length
    · rw [if_pos h] at hb; exact .inl (tab_mem.2 ⟨j, h, hb⟩)
    · rw [if_neg h] at hb; exact .inr hb
/-- What is known of an inner row. -/
theorem SH.tabrow (S : SH w M X H) (hi : nth H i = some (Rs.tab C vs xss)) (hk : k < xss.length) : (ga vs k).n = (ga xss k).length ∧ (0 < (ga xss k).length → (ga vs k).A = some ⟨adB (ga vs k).A, 0, none⟩) ∧ (ga xss k).length ≤ (ga vs k).c := by
  rcases (S.get hi : TabOk C vs xss (hp w)).2.1 k hk with ⟨h1, h2⟩ | ⟨g, cap, cur, h1, h2, h3, _⟩
  · injection h1 with h1 h1' h1''
    rw [h2]
    exact ⟨h1', fun h => absurd h (by simp), by simp⟩
  · injection h1 with h1 h1' h1''
    exact ⟨h1', fun _ => by rw [h1]; rfl, by rw [h1'']; exact h3⟩
theorem SH.tablen (S : SH w M X H) (hi : nth H i = some (Rs.tab C vs xss)) : vs.length = xss.length := (S.get hi : TabOk C vs xss (hp w)).1
theorem RowOk.cell [Inhabited α] (h : RowOk C v xs (hp w)) {e j : Nat} {u : Value} (he : e < xs.length) (hj : Nat.blt j C.k = true) (hu : nth (C.f (ga xs e)) j = some u) : w.cell? ⟨rb v, e * C.k + j, none⟩ = some u := by
  rcases h with ⟨_, h2⟩ | ⟨g, cap, cur, rfl, h2, h3, h4, h5, h6⟩
  · rw [h2] at he; simp at he
  · have hj' : j < C.k := by simpa using hj
    show w.cell? ⟨g, e * C.k + j, none⟩ = some u
    rw [cell_of_row w g _ cur C.E (0, 0) h2]
    have hlt : e * C.k + j < xs.length * C.k := by
      have := Nat.mul_le_mul_right C.k (show e + 1 ≤ xs.length by omega)
      rw [Nat.succ_mul] at this
      omega
    have h7 := flat_get C.hf (xs := xs) he hj'
    rw [← h6, List.getElem?_take, if_pos hlt, ← ga_eq he, ← nth_eq (C.f (ga xs e)), hu] at h7
    simpa using h7
theorem RowOk.rds (h : RowOk C v xs (hp w)) (hr : xs.length * C.u8 ≤ 140737488355328) {N : Hp} (hN : ∀ b ∈ v.ownBlock.toList, N b = hp w b) : Rds C N v xs := by
  rcases h with ⟨h1, h2⟩ | ⟨g, cap, cur, h1, h2, h3, h4, h5, h6⟩
  · subst h1; subst h2
    exact Rds.nil_
  · subst h1
    refine ⟨_, cap, rfl, h3, hr, fun _ => ⟨rfl, cur, C.E, (0, 0), ?_, fun j u hu => ?_⟩⟩
    · show N g = _
      rw [hN g (by simp [Value.ownBlock])]
      exact h2
    · show cur[0 + j]? = some u
      rw [Nat.zero_add]
      rw [← h6, List.getElem?_take] at hu
      split at hu
      · simpa using hu
      · cases hu
theorem SH.tabRd (S : SH w M X H) (hi : nth H i = some (Rs.tab C vs xss)) (hr : ∀ i, i < xss.length → (ga xss i).length * C.u8 ≤ 140737488355328) {N : Hp} (hN : ∀ b ∈ tabBl vs, N b = hp w b) : Rd2 C N vs xss := by
  have ht : TabOk C vs xss (hp w) := S.get hi
  refine ⟨ht.1, fun j hj => ?_⟩
  obtain ⟨A, c, e, h⟩ := (ht.2.1 j hj).rds (hr j hj) (fun b hb => hN b (tab_mem.2 ⟨j, by rw [ht.1]; exact hj, hb⟩))
  injection e with e1 e2 e3
  rw [e1, e2, e3]
  exact ⟨rfl, h⟩
/-- A table is laid down for good. -/
theorem SH.pubtab (S : SH w M X H) (hi : nth H i = some (Rs.tab C vs xss)) (hH : H.set i Rs.emp = H') (hr : ∀ i, i < xss.length → (ga xss i).length * C.u8 ≤ 140737488355328) : ∃ M', M.le M' ∧ SH w M' X H' ∧ Rd2 C M' vs xss := by
  obtain ⟨h1, h2, h3⟩ := S.pub hi hH
  exact ⟨_, h1, h2, S.tabRd hi hr h3⟩
theorem SH.lendtab (S : SH w M X H) (hi : nth H i = some (Rs.tab C vs xss)) (hr : ∀ i, i < xss.length → (ga xss i).length * C.u8 ≤ 140737488355328) : Rd2 C (M.un (XH w X H).h) vs xss := by
  have hmem : Rs.tab C vs xss ∈ H := by rw [nth_eq] at hi; exact List.mem_of_getElem? hi
  refine S.tabRd hi hr fun b hb => ?_
  have h1 := S.bl _ hmem b hb
  simp only [Hp.un, h1.2.1, XH, any_bl.2 ⟨_, hmem, hb⟩, if_true]
end
section
variable {P : Program} {o : Oper} {L : List (Nat × Value)} {w w' : World} {x y z : Operand} {t t' T E : TypeId} {a b : Int} {v u : Value} {n d : Nat} {Kt : List (Nat × Value) → World → Prop} {M M' : Hp} {X : Fr} {H H' : List Rs} {i k g off : Nat} {l : List Value}
end
end Go.Proofs.Ytomcgmialkdcbaa
namespace Go.Proofs.Ytomcgmialkdcbaa
open Go.ChangeShapes Go.WideShapes Go.ChangeAt Go.RowKit
theorem sl22 : SlOf Try.prog 22 cdInt := ⟨.int .i64 0, Try.underlying22, by kernel_rfl, rfl, by decide, by decide⟩
theorem sl23 : SlOf Try.prog 23 (cdV 22) := ⟨.slice none 0 0, Try.underlying23, by kernel_rfl, rfl, by decide, by decide⟩
theorem sl35 : SlOf Try.prog 35 (cdV 38) := ⟨.slice none 0 0, Try.underlying35, by kernel_rfl, rfl, by decide, by decide⟩
theorem sl38 : SlOf Try.prog 38 cdInt := ⟨.int .i64 0, Try.underlying38, by kernel_rfl, rfl, by decide, by decide⟩
end Go.Proofs.Ytomcgmialkdcbaa
namespace Go.Proofs.Ytomcgmialkdcbaa
open Go.ChangeShapes Go.WideShapes Go.ChangeAt Go.RowKit
/-- The place of the first that is so, or -1. -/
def idxF (p : Int → Bool) (xs : List Int) : Int := match xs.findIdx? p with
 | some i => (i : Int)
 | none => -1
theorem idxF_hit {p : Int → Bool} {xs : List Int} {k : Nat} (hk : k < xs.length) (h : p (ga xs k) = true) (h0 : ∀ j, j < k → p (ga xs j) = false) : idxF p xs = k := by
 have : xs.findIdx? p = some k := by
  rw [List.findIdx?_eq_some_iff_getElem]
  refine ⟨hk, by rw [← ga_eq hk]; exact h, fun j hj => ?_⟩
  rw [← ga_eq (by omega), h0 j hj]; simp
 simp [idxF, this]
theorem idxF_none {p : Int → Bool} {xs : List Int} (h0 : ∀ j, j < xs.length → p (ga xs j) = false) : idxF p xs = -1 := by
 have : xs.findIdx? p = none := by
  rw [List.findIdx?_eq_none_iff]
  intro x hx
  obtain ⟨j, hj, rfl⟩ := List.mem_iff_getElem.1 hx
  rw [← ga_eq hj]; exact h0 j hj
 simp [idxF, this]
theorem idxF_any (p : Int → Bool) (xs : List Int) : decide (0 ≤ idxF p xs) = xs.any p := by
 unfold idxF
 cases h : xs.findIdx? p with
 | some i =>
  rw [List.findIdx?_eq_some_iff_getElem] at h
  obtain ⟨h1, h2, _⟩ := h
  rw [Bool.eq_iff_iff, decide_eq_true_iff, List.any_eq_true]
  exact ⟨fun _ => ⟨xs[i], List.getElem_mem h1, h2⟩, fun _ => by show (0 : Int) ≤ (i : Int); omega⟩
 | none =>
  rw [List.findIdx?_eq_none_iff] at h
  rw [Bool.eq_iff_iff, decide_eq_true_iff, List.any_eq_true]
  constructor
  ·intro h1; exact absurd h1 (by decide)
  ·rintro ⟨x, hx, hp⟩; rw [h x hx] at hp; cases hp
noncomputable def IndexFuncI_n0 : Code := Try.f33.body.getD .skip
noncomputable def IndexFuncI_n1 : Code := cL IndexFuncI_n0
noncomputable def IndexFuncI_n2 : Code := cR IndexFuncI_n0
noncomputable def IndexFuncI_n3 : Code := cL IndexFuncI_n2
noncomputable def IndexFuncI_n4 : Code := cR IndexFuncI_n2
noncomputable def IndexFuncI_n5 : Code := cL IndexFuncI_n3
noncomputable def IndexFuncI_n6 : Code := cR IndexFuncI_n3
noncomputable def IndexFuncI_n7 : Code := cL IndexFuncI_n6
noncomputable def IndexFuncI_n8 : Code := cL IndexFuncI_n7
noncomputable def IndexFuncI_n9 : Code := cL IndexFuncI_n8
noncomputable def IndexFuncI_n10 : Code := cR IndexFuncI_n8
noncomputable def IndexFuncI_n11 : Code := cL IndexFuncI_n10
noncomputable def IndexFuncI_n12 : Code := cR IndexFuncI_n10
noncomputable def IndexFuncI_n13 : Code := cL IndexFuncI_n11
noncomputable def IndexFuncI_n14 : Code := cR IndexFuncI_n11
noncomputable def IndexFuncI_n15 : Code := cL IndexFuncI_n12
noncomputable def IndexFuncI_n16 : Code := cR IndexFuncI_n12
noncomputable def IndexFuncI_n17 : Code := cL IndexFuncI_n15
noncomputable def IndexFuncI_n18 : Code := cL IndexFuncI_n17
noncomputable def IndexFuncI_n19 : Code := cR IndexFuncI_n17
noncomputable def IndexFuncI_n20 : Code := cL IndexFuncI_n19
noncomputable def IndexFuncI_n21 : Code := cR IndexFuncI_n19
noncomputable def IndexFuncI_n22 : Code := cL IndexFuncI_n21
noncomputable def IndexFuncI_n23 : Code := cR IndexFuncI_n21
noncomputable def IndexFuncI_n24 : Code := cL IndexFuncI_n22
noncomputable def IndexFuncI_n25 : Code := cR IndexFuncI_n22
noncomputable def IndexFuncI_n26 : Code := cL IndexFuncI_n4
noncomputable def IndexFuncI_n27 : Code := cR IndexFuncI_n4
set_option maxRecDepth 10000 in
theorem IndexFuncI_q {w : World} {M : Hp} {X : Fr} (s : List Int) {sA : Option Addr} {sc : Nat} (fv : FuncId) (cap : List Value) (p : Int → Bool) (hs : RdA cdInt (M.un X.h) sA sc s) (hen : ∀ args w, (callFunc fv args).run Try.prog w = .ok (.enter fv args) w) (hf : ∀ (w : World) (Y : Fr), (M.un X.h).le (M.un Y.h) → SH w M Y [] → ∀ x ∈ s, Cq Try.prog fv ([.int .i64 x] ++ cap) w M Y (fun u => u = .bool (p x))) (S : SH w M X []) : Cq Try.prog 33 [.slice sA s.length sc, .func (.func fv) #[] cap.toArray] w M X (fun u => u = .int .i64 (idxF p s)) := by
 unfold Cq
 have rmhs : s.length * 8 ≤ 140737488355328 := hs.room
 have hroom : s.length * 8 ≤ 140737488355328 := hs.room
 refine calls_in (b := IndexFuncI_n0) Try.func33 rfl Try.ntmps33 rfl (fun C hC => (ws_sub [(0, _), (1, _)] ⟨rfl, rfl, trivial⟩ (ws_seqN IndexFuncI_n1 IndexFuncI_n2 rfl rfl rfl (ws_region rfl (wla 0 1 rfl rfl rfl rfl rfl rfl rfl ?_)))))
 refine wl_end rfl (nmk [0, 1] rfl (nm_thn (ws_seqN IndexFuncI_n3 IndexFuncI_n4 rfl rfl rfl (ws_seqN IndexFuncI_n5 IndexFuncI_n6 rfl rfl rfl ?_))))
 refine ws_region rfl (wlm 0 1 rfl rfl rfl rfl rfl rfl rfl (wlo 1 2 rfl rfl rfl (wo_run rfl rfl (run_len rfl rfl rfl rfl rfl rfl Try.underlying22) (wlm 2 3 rfl rfl rfl rfl rfl rfl rfl (wl_end rfl ?_)))))
 refine nmk [0, 1, 7, 8] rfl (nm_thn (ws_blockN IndexFuncI_n7 0 rfl rfl rfl ?_))
 refine ws_loopE (fun mx_ ax_ wx_ => ∃ (k : Nat), mx_ = s.length - k ∧ Env 19 [(0, .slice sA s.length sc), (1, .func (.func fv) #[] cap.toArray), (7, .int .i64 (s.length : Int)), (8, .int .i64 (k : Int))] ax_ ∧ SH wx_ M X [] ∧ k ≤ s.length ∧ (∀ j, j < k → p (ga s j) = false)) rfl ?_ ?_
 ·intro ax_ hax_
  refine ⟨_, ⟨0, rfl, hax_.sub ⟨rfl, rfl, rfl, rfl, trivial⟩, S.pick [] [] (by decide) trivial, ?hq1f0, ?hq1f1⟩⟩
  case hq1f0 => omega
  case hq1f1 => (intro j hj; omega)
 ·rintro m1 a1 w1 ⟨k, rfl, he1, S1, hk, hno⟩
  clear S
  refine ws_in he1 (c := IndexFuncI_n8) rfl ?_
  clear he1 a1
  refine ws_seqN IndexFuncI_n9 IndexFuncI_n10 rfl rfl rfl (ws_region rfl (wlo 0 1 rfl rfl rfl (wo_run rfl rfl (run_lss rfl rfl rfl) (wl_end rfl (nm_thn ?_)))))
  refine ws_seqN IndexFuncI_n11 IndexFuncI_n12 rfl rfl rfl ?_
  refine ws_condN IndexFuncI_n13 IndexFuncI_n14 rfl rfl rfl rfl (fun hb9 => ?_) (fun hb9 => ?_)
  ·replace hb9 := of_decide_eq_true hb9
   refine ws_skip rfl (nmk [0, 1, 7, 8] rfl (nm_thn (ws_seqN IndexFuncI_n15 IndexFuncI_n16 rfl rfl rfl (ws_blockN IndexFuncI_n17 1 rfl rfl rfl ?_))))
   refine ws_seqN IndexFuncI_n18 IndexFuncI_n19 rfl rfl rfl (ws_region rfl (wlm 0 1 rfl rfl rfl rfl rfl rfl rfl (wla 1 2 rfl rfl rfl rfl rfl rfl rfl (wl_end rfl ?_))))
   refine nmk [0, 1, 7, 8, 5] rfl (nm_thn (ws_seqN IndexFuncI_n20 IndexFuncI_n21 rfl rfl rfl (ws_region rfl (wlm 0 1 rfl rfl rfl rfl rfl rfl rfl ?_))))
   refine wlm 1 2 rfl rfl rfl rfl rfl rfl rfl (wlm 2 3 rfl rfl rfl rfl rfl rfl rfl (wlo 3 4 rfl rfl rfl (wo_run rfl rfl (run_indexM (C := cdInt) k rfl rfl rfl sl22 (by first | rfl | omega) hs (by first | omega | (simp only [lens]; omega))) ?_)))
   refine wlo 4 5 rfl rfl rfl (wo_run rfl rfl (run_load1 rfl rfl Try.underlying3 rfl (hs.cell S1.um (i := k) (by first | omega | (simp only [lens]; omega)) 0 rfl rfl)) ?_)
   refine wlo 5 6 rfl rfl rfl (wo_cqF rfl rfl rfl rfl rfl rfl rfl hen S1 (hf _ _ S1.un_XH S1.lend _ (ga_mem (by omega))) ?_)
   rintro _ w2 S2 rfl; clear S1
   refine wl_end rfl (nmk [0, 1, 7, 8, 5, 16] rfl (nm_thn ?_))
   refine ws_condN IndexFuncI_n22 IndexFuncI_n23 rfl rfl rfl rfl (fun hb16 => ?_) (fun hb16 => ?_)
   ·refine ws_seqN IndexFuncI_n24 IndexFuncI_n25 rfl rfl rfl (ws_region rfl (wlm 0 1 rfl rfl rfl rfl rfl rfl rfl (wla 1 2 rfl rfl rfl rfl rfl rfl rfl (wl_end rfl ?_))))
    refine nmk [4] rfl (nm_thn (ws_ret hC [_] rfl rfl ⟨rfl, trivial⟩ ?_))
    exact ⟨_, rfl, (S2.pick [] [] (by decide) trivial), (by rw [idxF_hit (by omega) hb16 hno]; rfl)⟩
   ·refine ws_skip rfl (nm_blk (nmk [0, 1, 7, 8] rfl (nm_thn (ws_region rfl ?_))))
    refine wlo 0 1 rfl rfl rfl (wo_run rfl rfl (run_add rfl rfl rfl (by first | omega | (simp only [lens]; omega))) ?_)
    refine wlm 1 2 rfl rfl rfl rfl rfl rfl rfl (wl_end rfl (nm_lp ?_))
    intro ax_ hax_
    refine ⟨_, ?hq2m, ⟨k + 1, rfl, hax_.sub ⟨rfl, rfl, rfl, rfl, trivial⟩, S2.pick [] [] (by decide) trivial, ?hq2f0, ?hq2f1⟩⟩
    case hq2f0 => first | assumption | omega
    case hq2f1 => (intro j hj; by_cases h : j = k; (subst h; exact hb16); exact hno j (by omega))
    case hq2m => omega
  ·replace hb9 := of_decide_eq_false hb9
   refine ws_exit rfl rfl (nm_sub [] trivial (nm_thn (ws_seqN IndexFuncI_n26 IndexFuncI_n27 rfl rfl rfl (ws_region rfl ?_))))
   refine wla 0 1 rfl rfl rfl rfl rfl rfl rfl (wl_end rfl (nm_thn (ws_ret hC [_] rfl rfl ⟨rfl, trivial⟩ ?_)))
   exact ⟨_, rfl, (S1.pick [] [] (by decide) trivial), (by rw [idxF_none (fun j hj => hno j (by omega))]; rfl)⟩
def wrongB (n a : Int) : Bool := decide (a = 0 ∨ n ≤ a ∨ a ≤ -n)
def checkI (n : Int) (xss : List (List Int)) : Int := if n < 2 ∨ 6 < n then 3 else if xss.any (fun w => w.any (wrongB n)) then 3 else if xss.any (fun w => decide (20 < w.length)) then 2 else 0
noncomputable def ContainsFuncI_n0 : Code := Try.f23.body.getD .skip
noncomputable def ContainsFuncI_n1 : Code := cL ContainsFuncI_n0
noncomputable def ContainsFuncI_n2 : Code := cR ContainsFuncI_n0
noncomputable def ContainsFuncI_n3 : Code := cL ContainsFuncI_n2
noncomputable def ContainsFuncI_n4 : Code := cR ContainsFuncI_n2
set_option maxRecDepth 10000 in
theorem ContainsFuncI_q {w : World} {M : Hp} {X : Fr} (s : List Int) {sA : Option Addr} {sc : Nat} (fv : FuncId) (cap : List Value) (p : Int → Bool) (hs : RdA cdInt (M.un X.h) sA sc s) (hen : ∀ args w, (callFunc fv args).run Try.prog w = .ok (.enter fv args) w) (hf : ∀ (w : World) (Y : Fr), (M.un X.h).le (M.un Y.h) → SH w M Y [] → ∀ x ∈ s, Cq Try.prog fv ([.int .i64 x] ++ cap) w M Y (fun u => u = .bool (p x))) (S : SH w M X []) : Cq Try.prog 23 [.slice sA s.length sc, .func (.func fv) #[] cap.toArray] w M X (fun u => u = .bool (s.any p)) := by
 unfold Cq
 have rmhs : s.length * 8 ≤ 140737488355328 := hs.room
 refine calls_in (b := ContainsFuncI_n0) Try.func23 rfl Try.ntmps23 rfl (fun C hC => (ws_sub [(0, _), (1, _)] ⟨rfl, rfl, trivial⟩ (ws_seqN ContainsFuncI_n1 ContainsFuncI_n2 rfl rfl rfl (ws_region rfl (wla 0 1 rfl rfl rfl rfl rfl rfl rfl ?_)))))
 refine wl_end rfl (nmk [0, 1] rfl (nm_thn (ws_seqN ContainsFuncI_n3 ContainsFuncI_n4 rfl rfl rfl (ws_region rfl ?_))))
 refine wlm 0 1 rfl rfl rfl rfl rfl rfl rfl (wlm 1 2 rfl rfl rfl rfl rfl rfl rfl (wlo 2 3 rfl rfl rfl (wo_cq rfl rfl rfl rfl rfl rfl rfl cf33 S (IndexFuncI_q s fv cap p (hs.mono S.un_XH) hen (fun w Y hl S9 => hf w Y (S.un_XH.trans hl) S9) S.lend) ?_)))
 rintro _ w1 S1 rfl; clear S
 refine wlo 3 4 rfl rfl rfl (wo_run rfl rfl (run_geq rfl rfl rfl) (wla 4 5 rfl rfl rfl rfl rfl rfl rfl (wl_end rfl (nmk [4] rfl (nm_thn ?_)))))
 refine ws_ret hC [_] rfl rfl ⟨rfl, trivial⟩ ?_
 exact ⟨_, rfl, (S1.pick [] [] (by decide) trivial), (by rw [← idxF_any]; rfl)⟩
noncomputable def Check1_n0 : Code := Try.f22.body.getD .skip
noncomputable def Check1_n1 : Code := cL Check1_n0
noncomputable def Check1_n2 : Code := cR Check1_n0
noncomputable def Check1_n3 : Code := cL Check1_n2
noncomputable def Check1_n4 : Code := cR Check1_n2
set_option maxRecDepth 10000 in
theorem Check1_q {w : World} {M : Hp} {X : Fr} (a : Int) (n : Int) {g : Nat} (hb : BxM (M.un X.h) g 3 [.int .i64 n]) (hn : 0 ≤ n ∧ n ≤ 6) (S : SH w M X []) : Cq Try.prog 22 [.int .i64 a, .pointer (some ⟨g, 0, none⟩)] w M X (fun u => u = .bool (wrongB n a)) := by
 unfold Cq
 refine calls_in (b := Check1_n0) Try.func22 rfl Try.ntmps22 rfl (fun C hC => (ws_sub [(0, _), (1, _)] ⟨rfl, rfl, trivial⟩ (ws_seqN Check1_n1 Check1_n2 rfl rfl rfl (ws_region rfl (wla 0 1 rfl rfl rfl rfl rfl rfl rfl ?_)))))
 refine wl_end rfl (nmk [0, 1] rfl (nm_thn (ws_seqN Check1_n3 Check1_n4 rfl rfl rfl (ws_region rfl ?_))))
 refine wlm 0 1 rfl rfl rfl rfl rfl rfl rfl (wlo 1 2 rfl rfl rfl (wo_run rfl rfl (run_eql rfl rfl rfl) (wlm 2 3 rfl rfl rfl rfl rfl rfl rfl ?_)))
 refine wl_split (t := 6) rfl (fun hg6 => ?_) (fun hg6 => ?_)
 ·replace hg6 := of_decide_eq_true hg6
  refine wln 3 4 rfl rfl rfl rfl rfl rfl rfl rfl rfl (wln 4 5 rfl rfl rfl rfl rfl rfl rfl rfl rfl (wln 5 6 rfl rfl rfl rfl rfl rfl rfl rfl rfl (wlo 6 7 rfl rfl rfl (wo_run rfl rfl (run_pickT rfl rfl rfl) (wlm 7 8 rfl rfl rfl rfl rfl rfl rfl ?_)))))
  refine wln 8 9 rfl rfl rfl rfl rfl rfl rfl rfl rfl (wln 9 10 rfl rfl rfl rfl rfl rfl rfl rfl rfl (wln 10 11 rfl rfl rfl rfl rfl rfl rfl rfl rfl (wln 11 12 rfl rfl rfl rfl rfl rfl rfl rfl rfl (wlo 12 13 rfl rfl rfl (wo_run rfl rfl (run_pickT rfl rfl rfl) ?_)))))
  refine wla 13 14 rfl rfl rfl rfl rfl rfl rfl (wl_end rfl (nmk [3] rfl (nm_thn (ws_ret hC [_] rfl rfl ⟨rfl, trivial⟩ ?_))))
  exact ⟨_, rfl, (S.pick [] [] (by decide) trivial), (by show Value.bool _ = Value.bool _; refine congrArg Value.bool ?_; unfold wrongB; first | (symm; rw [decide_eq_true_iff]; omega) | (rw [decide_eq_decide]; omega))⟩
 ·replace hg6 := of_decide_eq_false hg6
  refine wlg 3 4 rfl rfl rfl rfl rfl rfl rfl rfl (wo_run rfl rfl (run_move rfl rfl) (wlg 4 5 rfl rfl rfl rfl rfl rfl rfl rfl (wo_run rfl rfl (run_load1 rfl rfl Try.underlying3 rfl (hb.cell S.um rfl)) (wlg 5 6 rfl rfl rfl rfl rfl rfl rfl rfl (wo_run rfl rfl (run_geq rfl rfl rfl) (wlo 6 7 rfl rfl rfl (wo_run rfl rfl (run_pickF rfl rfl rfl) (wlm 7 8 rfl rfl rfl rfl rfl rfl rfl ?_))))))))
  refine wl_split (t := 11) rfl (fun hg11 => ?_) (fun hg11 => ?_)
  ·replace hg11 := of_decide_eq_true hg11
   refine wln 8 9 rfl rfl rfl rfl rfl rfl rfl rfl rfl (wln 9 10 rfl rfl rfl rfl rfl rfl rfl rfl rfl (wln 10 11 rfl rfl rfl rfl rfl rfl rfl rfl rfl (wln 11 12 rfl rfl rfl rfl rfl rfl rfl rfl rfl (wlo 12 13 rfl rfl rfl (wo_run rfl rfl (run_pickT rfl rfl rfl) ?_)))))
   refine wla 13 14 rfl rfl rfl rfl rfl rfl rfl (wl_end rfl (nmk [3] rfl (nm_thn (ws_ret hC [_] rfl rfl ⟨rfl, trivial⟩ ?_))))
   exact ⟨_, rfl, (S.pick [] [] (by decide) trivial), (by show Value.bool _ = Value.bool _; refine congrArg Value.bool ?_; unfold wrongB; first | (symm; rw [decide_eq_true_iff]; omega) | (rw [decide_eq_decide]; omega))⟩
  ·replace hg11 := of_decide_eq_false hg11
   refine wlg 8 9 rfl rfl rfl rfl rfl rfl rfl rfl (wo_run rfl rfl (run_move rfl rfl) (wlg 9 10 rfl rfl rfl rfl rfl rfl rfl rfl (wo_run rfl rfl (run_load1 rfl rfl Try.underlying3 rfl (hb.cell S.um rfl)) (wlg 10 11 rfl rfl rfl rfl rfl rfl rfl rfl (wo_run rfl rfl (run_neg rfl rfl (by first | omega | (simp only [lens]; omega))) ?_)))))
   refine wlg 11 12 rfl rfl rfl rfl rfl rfl rfl rfl (wo_run rfl rfl (run_leq rfl rfl rfl) (wlo 12 13 rfl rfl rfl (wo_run rfl rfl (run_pickF rfl rfl rfl) (wla 13 14 rfl rfl rfl rfl rfl rfl rfl (wl_end rfl (nmk [3] rfl ?_))))))
   refine nm_thn (ws_ret hC [_] rfl rfl ⟨rfl, trivial⟩ ?_)
   exact ⟨_, rfl, (S.pick [] [] (by decide) trivial), (by show Value.bool _ = Value.bool _; refine congrArg Value.bool ?_; unfold wrongB; first | (symm; rw [decide_eq_true_iff]; omega) | (rw [decide_eq_decide]; omega))⟩
theorem anyF {α : Type} [Inhabited α] {p : α → Bool} {xs : List α} (h : ∀ j, j < xs.length → p (ga xs j) = false) : xs.any p = false := by
 rw [List.any_eq_false]
 intro x hx
 obtain ⟨j, hj, rfl⟩ := List.mem_iff_getElem.1 hx
 rw [← ga_eq hj, h j hj]; simp
noncomputable def Check_n0 : Code := Try.f11.body.getD .skip
noncomputable def Check_n1 : Code := cL Check_n0
noncomputable def Check_n2 : Code := cR Check_n0
noncomputable def Check_n3 : Code := cL Check_n2
noncomputable def Check_n4 : Code := cR Check_n2
noncomputable def Check_n5 : Code := cL Check_n3
noncomputable def Check_n6 : Code := cR Check_n3
noncomputable def Check_n7 : Code := cL Check_n6
noncomputable def Check_n8 : Code := cR Check_n6
noncomputable def Check_n9 : Code := cL Check_n7
noncomputable def Check_n10 : Code := cR Check_n7
noncomputable def Check_n11 : Code := cL Check_n4
noncomputable def Check_n12 : Code := cR Check_n4
noncomputable def Check_n13 : Code := cL Check_n12
noncomputable def Check_n14 : Code := cR Check_n12
noncomputable def Check_n15 : Code := cL Check_n13
noncomputable def Check_n16 : Code := cR Check_n13
noncomputable def Check_n17 : Code := cL Check_n16
noncomputable def Check_n18 : Code := cL Check_n17
noncomputable def Check_n19 : Code := cL Check_n18
noncomputable def Check_n20 : Code := cR Check_n18
noncomputable def Check_n21 : Code := cL Check_n20
noncomputable def Check_n22 : Code := cR Check_n20
noncomputable def Check_n23 : Code := cL Check_n21
noncomputable def Check_n24 : Code := cR Check_n21
noncomputable def Check_n25 : Code := cL Check_n22
noncomputable def Check_n26 : Code := cR Check_n22
noncomputable def Check_n27 : Code := cL Check_n25
noncomputable def Check_n28 : Code := cL Check_n27
noncomputable def Check_n29 : Code := cR Check_n27
noncomputable def Check_n30 : Code := cL Check_n29
noncomputable def Check_n31 : Code := cR Check_n29
noncomputable def Check_n32 : Code := cL Check_n31
noncomputable def Check_n33 : Code := cR Check_n31
noncomputable def Check_n34 : Code := cL Check_n32
noncomputable def Check_n35 : Code := cR Check_n32
noncomputable def Check_n36 : Code := cL Check_n14
noncomputable def Check_n37 : Code := cR Check_n14
noncomputable def Check_n38 : Code := cL Check_n36
noncomputable def Check_n39 : Code := cR Check_n36
noncomputable def Check_n40 : Code := cL Check_n39
noncomputable def Check_n41 : Code := cL Check_n40
noncomputable def Check_n42 : Code := cL Check_n41
noncomputable def Check_n43 : Code := cR Check_n41
noncomputable def Check_n44 : Code := cL Check_n43
noncomputable def Check_n45 : Code := cR Check_n43
noncomputable def Check_n46 : Code := cL Check_n44
noncomputable def Check_n47 : Code := cR Check_n44
noncomputable def Check_n48 : Code := cL Check_n45
noncomputable def Check_n49 : Code := cR Check_n45
noncomputable def Check_n50 : Code := cL Check_n48
noncomputable def Check_n51 : Code := cL Check_n50
noncomputable def Check_n52 : Code := cR Check_n50
noncomputable def Check_n53 : Code := cL Check_n52
noncomputable def Check_n54 : Code := cR Check_n52
noncomputable def Check_n55 : Code := cL Check_n54
noncomputable def Check_n56 : Code := cR Check_n54
noncomputable def Check_n57 : Code := cL Check_n55
noncomputable def Check_n58 : Code := cR Check_n55
noncomputable def Check_n59 : Code := cL Check_n37
noncomputable def Check_n60 : Code := cR Check_n37
set_option maxRecDepth 10000 in
theorem Check_q {w : World} {M : Hp} {X : Fr} (n : Int) (ws : List (List Int)) {wsA : Option Addr} {wsc : Nat} {wsv : List SlV} (hws : RdA (cdV 22) (M.un X.h) wsA wsc wsv) (hdws : Rd2 cdInt (M.un X.h) wsv ws) (S : SH w M X []) : Cq Try.prog 11 [.int .i64 n, .slice wsA wsv.length wsc] w M X (fun u => u = .int .i64 (checkI n ws)) := by
 unfold Cq
 have rmhws : wsv.length * 24 ≤ 140737488355328 := hws.room
 refine calls_in (b := Check_n0) Try.func11 rfl Try.ntmps11 rfl (fun C hC => (ws_sub [(0, _), (1, _)] ⟨rfl, rfl, trivial⟩ (ws_seqN Check_n1 Check_n2 rfl rfl rfl (ws_region rfl (wlo 0 1 rfl rfl rfl (wo_box (l := [_]) rfl rfl rfl rfl rfl S ?_))))))
 intro gb1 w1 S1; clear S
 refine wla 1 2 rfl rfl rfl rfl rfl rfl rfl (wl_end rfl (nmk [1, 2] rfl (nm_thn (ws_seqN Check_n3 Check_n4 rfl rfl rfl ?_))))
 refine ws_seqN Check_n5 Check_n6 rfl rfl rfl (ws_region rfl (wlo 0 1 rfl rfl rfl (wo_run rfl rfl (run_load1 rfl rfl Try.underlying3 rfl (S1.boxc (i := 0) rfl rfl)) (wlo 1 2 rfl rfl rfl (wo_run rfl rfl (run_lss rfl rfl rfl) (wlm 2 3 rfl rfl rfl rfl rfl rfl rfl ?_))))))
 refine wl_split (t := 12) rfl (fun hg12 => ?_) (fun hg12 => ?_)
 ·replace hg12 := of_decide_eq_true hg12
  refine wln 3 4 rfl rfl rfl rfl rfl rfl rfl rfl rfl (wln 4 5 rfl rfl rfl rfl rfl rfl rfl rfl rfl (wlo 5 6 rfl rfl rfl (wo_run rfl rfl (run_pickT rfl rfl rfl) (wl_end rfl (nmk [1, 2, 15] rfl ?_)))))
  refine nm_thn (ws_condTN Check_n7 rfl rfl rfl (ws_seqN Check_n9 Check_n10 rfl rfl rfl (ws_region rfl (wla 0 1 rfl rfl rfl rfl rfl rfl rfl ?_))))
  refine wl_end rfl (nmk [4] rfl (nm_thn (ws_ret hC [_] rfl rfl ⟨rfl, trivial⟩ ?_)))
  exact ⟨_, rfl, (S1.pick [] [] (by decide) trivial), (by show Value.int _ _ = _; unfold checkI; first | rw [if_pos (by omega)] | rw [if_neg (by omega), if_pos (by rw [List.any_eq_true]; exact ⟨ga ws k, ga_mem (by omega), hb25⟩)])⟩
 ·replace hg12 := of_decide_eq_false hg12
  refine wlg 3 4 rfl rfl rfl rfl rfl rfl rfl rfl (wo_run rfl rfl (run_load1 rfl rfl Try.underlying3 rfl (S1.boxc (i := 0) rfl rfl)) (wlg 4 5 rfl rfl rfl rfl rfl rfl rfl rfl (wo_run rfl rfl (run_gtr rfl rfl rfl) (wlo 5 6 rfl rfl rfl (wo_run rfl rfl (run_pickF rfl rfl rfl) (wl_end rfl (nmk [1, 2, 15] rfl ?_)))))))
  refine nm_thn ?_
  refine ws_condN Check_n7 Check_n8 rfl rfl rfl rfl (fun hb15 => ?_) (fun hb15 => ?_)
  ·replace hb15 := of_decide_eq_true hb15
   refine ws_seqN Check_n9 Check_n10 rfl rfl rfl (ws_region rfl (wla 0 1 rfl rfl rfl rfl rfl rfl rfl (wl_end rfl (nmk [4] rfl ?_))))
   refine nm_thn (ws_ret hC [_] rfl rfl ⟨rfl, trivial⟩ ?_)
   exact ⟨_, rfl, (S1.pick [] [] (by decide) trivial), (by show Value.int _ _ = _; unfold checkI; first | rw [if_pos (by omega)] | rw [if_neg (by omega), if_pos (by rw [List.any_eq_true]; exact ⟨ga ws k, ga_mem (by omega), hb25⟩)])⟩
  ·replace hb15 := of_decide_eq_false hb15
   refine ws_skip rfl (nmk [1, 2] rfl (nm_thn (ws_seqN Check_n11 Check_n12 rfl rfl rfl (ws_region rfl ?_))))
   refine wlo 0 1 rfl rfl rfl (wo_run rfl rfl (run_makeFunc (vs := [_]) rfl rfl rfl rfl) (wla 1 2 rfl rfl rfl rfl rfl rfl rfl (wl_end rfl (nmk [1, 5] rfl (nm_thn ?_)))))
   refine ws_seqN Check_n13 Check_n14 rfl rfl rfl (ws_seqN Check_n15 Check_n16 rfl rfl rfl (ws_region rfl (wlm 0 1 rfl rfl rfl rfl rfl rfl rfl (wlo 1 2 rfl rfl rfl (wo_run rfl rfl (run_len rfl rfl rfl rfl rfl rfl Try.underlying23) ?_)))))
   refine wlm 2 3 rfl rfl rfl rfl rfl rfl rfl (wl_end rfl (nm_thn (ws_blockN Check_n17 0 rfl rfl rfl ?_)))
   refine ws_loopE (fun mx_ ax_ wx_ => ∃ (k : Nat), mx_ = wsv.length - k ∧ Env 37 [(1, .slice wsA wsv.length wsc), (5, .func (.func 22) #[] [.pointer (some ⟨gb1, 0, none⟩)].toArray), (17, .slice wsA wsv.length wsc), (18, .int .i64 (wsv.length : Int)), (19, .int .i64 (k : Int))] ax_ ∧ SH wx_ M X [Rs.box gb1 3 [.int .i64 n]] ∧ k ≤ wsv.length ∧ (∀ j, j < k → (ga ws j).any (wrongB n) = false)) rfl ?_ ?_
   ·intro ax_ hax_
    refine ⟨_, ⟨0, rfl, hax_.sub ⟨rfl, rfl, rfl, rfl, rfl, trivial⟩, S1.pick [0] [_] (by decide) ⟨rfl, trivial⟩, ?hq1f0, ?hq1f1⟩⟩
    case hq1f0 => omega
    case hq1f1 => (intro j hj; omega)
   ·rintro m1 a1 w2 ⟨k, rfl, he1, S2, hk, hno⟩
    clear S1
    refine ws_in he1 (c := Check_n18) rfl ?_
    clear he1 a1
    have hwl := hdws.1
    refine ws_seqN Check_n19 Check_n20 rfl rfl rfl (ws_region rfl (wlo 0 1 rfl rfl rfl (wo_run rfl rfl (run_lss rfl rfl rfl) (wl_end rfl (nm_thn ?_)))))
    refine ws_seqN Check_n21 Check_n22 rfl rfl rfl ?_
    refine ws_condN Check_n23 Check_n24 rfl rfl rfl rfl (fun hb20 => ?_) (fun hb20 => ?_)
    ·replace hb20 := of_decide_eq_true hb20
     refine ws_skip rfl (nmk [1, 5, 17, 18, 19] rfl (nm_thn (ws_seqN Check_n25 Check_n26 rfl rfl rfl (ws_blockN Check_n27 1 rfl rfl rfl ?_))))
     refine ws_seqN Check_n28 Check_n29 rfl rfl rfl (ws_region rfl (wlo 0 1 rfl rfl rfl (wo_run rfl rfl (run_indexM (C := (cdV 22)) k rfl rfl rfl sl23 (by first | rfl | omega) hws (by first | omega | (simp only [lens]; omega))) ?_)))
     obtain ⟨hn1, hr1⟩ := hdws.2 k (by first | omega | (simp only [lens]; omega))
     have rmhr1 : (ga ws k).length * 8 ≤ 140737488355328 := hr1.room
     refine wlo 1 2 rfl rfl rfl (wo_run rfl rfl (run_load1 rfl rfl Try.underlying22 rfl (hws.cell S2.um (i := k) (by first | omega | (simp only [lens]; omega)) 0 rfl (congrArg (fun n => some (Value.slice _ n _)) hn1))) ?_)
     refine wla 2 3 rfl rfl rfl rfl rfl rfl rfl (wl_end rfl (nmk [1, 5, 17, 18, 19, 7] rfl (nm_thn (ws_seqN Check_n30 Check_n31 rfl rfl rfl ?_))))
     refine ws_region rfl (wlm 0 1 rfl rfl rfl rfl rfl rfl rfl (wlm 1 2 rfl rfl rfl rfl rfl rfl rfl (wlo 2 3 rfl rfl rfl (wo_cq rfl rfl rfl rfl rfl rfl rfl cf23 S2 (ContainsFuncI_q (ga ws k) 22 _ (wrongB n) (hr1.mono S2.un_XH) cf22 (fun w9 Y9 hl9 S9 x9 _ => Check1_q x9 n ((S2.boxM (i := 0) rfl).mono hl9) (by omega) S9) S2.lend) ?_))))
     rintro _ w3 S3 rfl; clear S2
     refine wl_end rfl (nmk [1, 5, 17, 18, 19, 25] rfl (nm_thn ?_))
     refine ws_condN Check_n32 Check_n33 rfl rfl rfl rfl (fun hb25 => ?_) (fun hb25 => ?_)
     ·refine ws_seqN Check_n34 Check_n35 rfl rfl rfl (ws_region rfl (wla 0 1 rfl rfl rfl rfl rfl rfl rfl (wl_end rfl (nmk [4] rfl ?_))))
      refine nm_thn (ws_ret hC [_] rfl rfl ⟨rfl, trivial⟩ ?_)
      exact ⟨_, rfl, (S3.pick [] [] (by decide) trivial), (by show Value.int _ _ = _; unfold checkI; first | rw [if_pos (by omega)] | rw [if_neg (by omega), if_pos (by rw [List.any_eq_true]; exact ⟨ga ws k, ga_mem (by omega), hb25⟩)])⟩
     ·refine ws_skip rfl (nm_blk (nmk [1, 5, 17, 18, 19] rfl (nm_thn (ws_region rfl ?_))))
      refine wlo 0 1 rfl rfl rfl (wo_run rfl rfl (run_add rfl rfl rfl (by first | omega | (simp only [lens]; omega))) ?_)
      refine wlm 1 2 rfl rfl rfl rfl rfl rfl rfl (wl_end rfl (nm_lp ?_))
      intro ax_ hax_
      refine ⟨_, ?hq2m, ⟨k + 1, rfl, hax_.sub ⟨rfl, rfl, rfl, rfl, rfl, trivial⟩, S3.pick [0] [_] (by decide) ⟨rfl, trivial⟩, ?hq2f0, ?hq2f1⟩⟩
      case hq2f0 => first | assumption | omega
      case hq2f1 => (intro j hj; by_cases h : j = k; (subst h; exact hb25); exact hno j (by omega))
      case hq2m => omega
    ·replace hb20 := of_decide_eq_false hb20
     refine ws_exit rfl rfl (nmk [1] rfl (nm_thn (ws_seqN Check_n36 Check_n37 rfl rfl rfl (ws_seqN Check_n38 Check_n39 rfl rfl rfl ?_))))
     refine ws_region rfl (wlm 0 1 rfl rfl rfl rfl rfl rfl rfl (wlo 1 2 rfl rfl rfl (wo_run rfl rfl (run_len rfl rfl rfl rfl rfl rfl Try.underlying23) (wlm 2 3 rfl rfl rfl rfl rfl rfl rfl (wl_end rfl ?_)))))
     refine nmk [27, 28, 29] rfl (nm_thn (ws_blockN Check_n40 2 rfl rfl rfl ?_))
     refine ws_loopE (fun mx_ ax_ wx_ => ∃ (k2 : Nat), mx_ = wsv.length - k2 ∧ Env 37 [(27, .slice wsA wsv.length wsc), (28, .int .i64 (wsv.length : Int)), (29, .int .i64 (k2 : Int))] ax_ ∧ SH wx_ M X [] ∧ k2 ≤ wsv.length ∧ (∀ j, j < k2 → ¬ 20 < (ga ws j).length)) rfl ?_ ?_
     ·intro ax_ hax_
      refine ⟨_, ⟨0, rfl, hax_.sub ⟨rfl, rfl, rfl, trivial⟩, S2.pick [] [] (by decide) trivial, ?hq3f0, ?hq3f1⟩⟩
      case hq3f0 => omega
      case hq3f1 => (intro j hj; omega)
     ·rintro m2 a2 w4 ⟨k2, rfl, he2, S4, hk2, hno2⟩
      clear S2
      refine ws_in he2 (c := Check_n41) rfl ?_
      clear he2 a2
      refine ws_seqN Check_n42 Check_n43 rfl rfl rfl (ws_region rfl (wlo 0 1 rfl rfl rfl (wo_run rfl rfl (run_lss rfl rfl rfl) (wl_end rfl (nm_thn ?_)))))
      refine ws_seqN Check_n44 Check_n45 rfl rfl rfl ?_
      refine ws_condN Check_n46 Check_n47 rfl rfl rfl rfl (fun hb30 => ?_) (fun hb30 => ?_)
      ·replace hb30 := of_decide_eq_true hb30
       refine ws_skip rfl (nmk [27, 28, 29] rfl (nm_thn (ws_seqN Check_n48 Check_n49 rfl rfl rfl (ws_blockN Check_n50 3 rfl rfl rfl ?_))))
       refine ws_seqN Check_n51 Check_n52 rfl rfl rfl (ws_region rfl (wlo 0 1 rfl rfl rfl (wo_run rfl rfl (run_indexM (C := (cdV 22)) k2 rfl rfl rfl sl23 (by first | rfl | omega) hws (by first | omega | (simp only [lens]; omega))) ?_)))
       obtain ⟨hn2, hr2⟩ := hdws.2 k2 (by first | omega | (simp only [lens]; omega))
       have rmhr2 : (ga ws k2).length * 8 ≤ 140737488355328 := hr2.room
       refine wlo 1 2 rfl rfl rfl (wo_run rfl rfl (run_load1 rfl rfl Try.underlying22 rfl (hws.cell S4.um (i := k2) (by first | omega | (simp only [lens]; omega)) 0 rfl (congrArg (fun n => some (Value.slice _ n _)) hn2))) ?_)
       refine wla 2 3 rfl rfl rfl rfl rfl rfl rfl (wl_end rfl (nmk [27, 28, 29, 9] rfl (nm_thn (ws_seqN Check_n53 Check_n54 rfl rfl rfl ?_))))
       refine ws_region rfl (wlm 0 1 rfl rfl rfl rfl rfl rfl rfl (wlo 1 2 rfl rfl rfl (wo_run rfl rfl (run_len rfl rfl rfl rfl rfl rfl Try.underlying22) (wlo 2 3 rfl rfl rfl (wo_run rfl rfl (run_gtr rfl rfl rfl) (wl_end rfl ?_))))))
       refine nmk [27, 28, 29, 35] rfl (nm_thn ?_)
       refine ws_condN Check_n55 Check_n56 rfl rfl rfl rfl (fun hb35 => ?_) (fun hb35 => ?_)
       ·replace hb35 := of_decide_eq_true hb35
        refine ws_seqN Check_n57 Check_n58 rfl rfl rfl (ws_region rfl (wla 0 1 rfl rfl rfl rfl rfl rfl rfl (wl_end rfl (nmk [4] rfl ?_))))
        refine nm_thn (ws_ret hC [_] rfl rfl ⟨rfl, trivial⟩ ?_)
        exact ⟨_, rfl, (S4.pick [] [] (by decide) trivial), (by show Value.int _ _ = _; unfold checkI; rw [if_neg (by omega), if_neg (by rw [anyF (fun j hj => hno j (by omega))]; exact Bool.false_ne_true), if_pos (by rw [List.any_eq_true]; exact ⟨ga ws k2, ga_mem (by omega), by rw [decide_eq_true_iff]; omega⟩)])⟩
       ·replace hb35 := of_decide_eq_false hb35
        refine ws_skip rfl (nm_blk (nmk [27, 28, 29] rfl (nm_thn (ws_region rfl ?_))))
        refine wlo 0 1 rfl rfl rfl (wo_run rfl rfl (run_add rfl rfl rfl (by first | omega | (simp only [lens]; omega))) ?_)
        refine wlm 1 2 rfl rfl rfl rfl rfl rfl rfl (wl_end rfl (nm_lp ?_))
        intro ax_ hax_
        refine ⟨_, ?hq4m, ⟨k2 + 1, rfl, hax_.sub ⟨rfl, rfl, rfl, trivial⟩, S4.pick [] [] (by decide) trivial, ?hq4f0, ?hq4f1⟩⟩
        case hq4f0 => first | assumption | omega
        case hq4f1 => (intro j hj; by_cases h : j = k2; (subst h; omega); exact hno2 j (by omega))
        case hq4m => omega
      ·replace hb30 := of_decide_eq_false hb30
       refine ws_exit rfl rfl (nm_sub [] trivial (nm_thn (ws_seqN Check_n59 Check_n60 rfl rfl rfl (ws_region rfl ?_))))
       refine wla 0 1 rfl rfl rfl rfl rfl rfl rfl (wl_end rfl (nm_thn (ws_ret hC [_] rfl rfl ⟨rfl, trivial⟩ ?_)))
       exact ⟨_, rfl, (S4.pick [] [] (by decide) trivial), (by show Value.int _ _ = _; unfold checkI; rw [if_neg (by omega), if_neg (by rw [anyF (fun j hj => hno j (by omega))]; exact Bool.false_ne_true), if_neg (by rw [anyF (p := fun w : List Int => decide (20 < w.length)) (fun j hj => decide_eq_false (hno2 j (by omega)))]; exact Bool.false_ne_true)])⟩
end Go.Proofs.Ytomcgmialkdcbaa
namespace Go.Proofs.Ytomcgmialkdcbaa
open Go.ChangeShapes Go.WideShapes Go.ChangeAt Go.RowKit
/-- A list of numbers is told. -/
def IsE (xs : List Int) (u : Value) (M : Hp) : Prop := ∃ A c, u = .slice A xs.length c ∧ RdA cdInt M A c xs
/-- One letter behind a word. -/
def pushW (xs : List Int) (a : Int) : List Int := if 0 < xs.length ∧ ga xs (xs.length - 1) = -a then xs.take (xs.length - 1) else xs ++ [a]
/-- Letters are small. -/
def smW (xs : List Int) : Prop := ∀ i, i < xs.length → -100 < ga xs i ∧ ga xs i < 100
def gluW (xs ys : List Int) : List Int := ys.foldl pushW xs
def invW (xs : List Int) : List Int := xs.reverse.map (- ·)
theorem pushW_len (xs : List Int) (a : Int) : (pushW xs a).length ≤ xs.length + 1 := by
 unfold pushW; split
 ·simp; omega
 ·simp
theorem gluW_len (xs ys : List Int) : (gluW xs ys).length ≤ xs.length + ys.length := by
 unfold gluW
 induction ys generalizing xs with
 | nil => simp
 | cons y ys ih => have h1 := ih (pushW xs y); have h2 := pushW_len xs y; simp only [List.foldl_cons, List.length_cons]; omega
theorem gluW_take (xs ys : List Int) (k : Nat) (h : k < ys.length) : gluW xs (ys.take (k + 1)) = pushW (gluW xs (ys.take k)) (ga ys k) := by
 unfold gluW; rw [take_ga ys k h, List.foldl_append]; rfl
theorem smW.take_ {xs : List Int} (h : smW xs) (k : Nat) : smW (xs.take k) := fun i hi => by
 rw [List.length_take] at hi; rw [ga_take _ _ _ (by omega)]; exact h i (by omega)
theorem smW.snoc_ {xs : List Int} (h : smW xs) {a : Int} (ha : -100 < a ∧ a < 100) : smW (xs ++ [a]) := fun i hi => by
 rw [List.length_append, List.length_singleton] at hi
 by_cases h1 : i < xs.length
 ·rw [ga_append_left _ _ _ h1]; exact h i h1
 ·rw [ga_append_right _ _ _ (by omega), show i - xs.length = 0 by omega]; exact ha
theorem smW.push_ {xs : List Int} (h : smW xs) {a : Int} (ha : -100 < a ∧ a < 100) : smW (pushW xs a) := by
 unfold pushW; split
 ·exact h.take_ _
 ·exact h.snoc_ ha
def totW (l : List (List Int)) : Nat := (l.map List.length).sum
def prodW (l : List (List Int)) : List Int := l.foldl gluW []
theorem prodW_len (l : List (List Int)) : (prodW l).length ≤ totW l := by
 have h : ∀ (l : List (List Int)) (xs : List Int), (l.foldl gluW xs).length ≤ xs.length + totW l := by
  intro l
  induction l with
  | nil => intro xs; simp [totW]
  | cons y ys ih =>
   intro xs
   have h1 := ih (gluW xs y)
   have h2 := gluW_len xs y
   have h3 : totW (y :: ys) = y.length + totW ys := by simp [totW]
   simp only [List.foldl_cons]; omega
 have := h l []
 simpa [prodW] using this
theorem invW_len (xs : List Int) : (invW xs).length = xs.length := by simp [invW]
theorem invW_ga (xs : List Int) (i : Nat) (h : i < xs.length) : ga (invW xs) i = - ga xs (xs.length - 1 - i) := by
 unfold invW
 rw [ga_map _ _ _ (by simpa using h), ga_eq (by simpa using h), ga_eq (by omega)]; simp
noncomputable def IndexP_n0 : Code := Try.f34.body.getD .skip
noncomputable def IndexP_n1 : Code := cL IndexP_n0
noncomputable def IndexP_n2 : Code := cR IndexP_n0
noncomputable def IndexP_n3 : Code := cL IndexP_n2
noncomputable def IndexP_n4 : Code := cR IndexP_n2
noncomputable def IndexP_n5 : Code := cL IndexP_n3
noncomputable def IndexP_n6 : Code := cR IndexP_n3
noncomputable def IndexP_n7 : Code := cL IndexP_n6
noncomputable def IndexP_n8 : Code := cL IndexP_n7
noncomputable def IndexP_n9 : Code := cL IndexP_n8
noncomputable def IndexP_n10 : Code := cR IndexP_n8
noncomputable def IndexP_n11 : Code := cL IndexP_n10
noncomputable def IndexP_n12 : Code := cR IndexP_n10
noncomputable def IndexP_n13 : Code := cL IndexP_n11
noncomputable def IndexP_n14 : Code := cR IndexP_n11
noncomputable def IndexP_n15 : Code := cL IndexP_n12
noncomputable def IndexP_n16 : Code := cR IndexP_n12
noncomputable def IndexP_n17 : Code := cL IndexP_n15
noncomputable def IndexP_n18 : Code := cL IndexP_n17
noncomputable def IndexP_n19 : Code := cR IndexP_n17
noncomputable def IndexP_n20 : Code := cL IndexP_n19
noncomputable def IndexP_n21 : Code := cR IndexP_n19
noncomputable def IndexP_n22 : Code := cL IndexP_n21
noncomputable def IndexP_n23 : Code := cR IndexP_n21
noncomputable def IndexP_n24 : Code := cL IndexP_n22
noncomputable def IndexP_n25 : Code := cR IndexP_n22
noncomputable def IndexP_n26 : Code := cL IndexP_n4
noncomputable def IndexP_n27 : Code := cR IndexP_n4
set_option maxRecDepth 10000 in
theorem IndexP_q {w : World} {M : Hp} {X : Fr} (s : List Int) {sA : Option Addr} {sc : Nat} (v : Int) (hs : RdA cdInt (M.un X.h) sA sc s) (S : SH w M X []) : Cq Try.prog 34 [.slice sA s.length sc, .int .i64 v] w M X (fun u => u = .int .i64 (idxF (fun x => decide (x = v)) s)) := by
 unfold Cq
 have rmhs : s.length * 8 ≤ 140737488355328 := hs.room
 refine calls_in (b := IndexP_n0) Try.func34 rfl Try.ntmps34 rfl (fun C hC => (ws_sub [(0, _), (1, _)] ⟨rfl, rfl, trivial⟩ (ws_seqN IndexP_n1 IndexP_n2 rfl rfl rfl (ws_region rfl (wla 0 1 rfl rfl rfl rfl rfl rfl rfl ?_)))))
 refine wl_end rfl (nmk [0, 1] rfl (nm_thn (ws_seqN IndexP_n3 IndexP_n4 rfl rfl rfl (ws_seqN IndexP_n5 IndexP_n6 rfl rfl rfl ?_))))
 refine ws_region rfl (wlm 0 1 rfl rfl rfl rfl rfl rfl rfl (wlo 1 2 rfl rfl rfl (wo_run rfl rfl (run_len rfl rfl rfl rfl rfl rfl Try.underlying38) (wlm 2 3 rfl rfl rfl rfl rfl rfl rfl (wl_end rfl ?_)))))
 refine nmk [0, 1, 7, 8] rfl (nm_thn (ws_blockN IndexP_n7 0 rfl rfl rfl ?_))
 refine ws_loopE (fun mx_ ax_ wx_ => ∃ (k : Nat), mx_ = s.length - k ∧ Env 19 [(0, .slice sA s.length sc), (1, .int .i64 v), (7, .int .i64 (s.length : Int)), (8, .int .i64 (k : Int))] ax_ ∧ SH wx_ M X [] ∧ k ≤ s.length ∧ (∀ j, j < k → ga s j ≠ v)) rfl ?_ ?_
 ·intro ax_ hax_
  refine ⟨_, ⟨0, rfl, hax_.sub ⟨rfl, rfl, rfl, rfl, trivial⟩, S.pick [] [] (by decide) trivial, ?hq1f0, ?hq1f1⟩⟩
  case hq1f0 => omega
  case hq1f1 => (intro j hj; omega)
 ·rintro m1 a1 w1 ⟨k, rfl, he1, S1, hk, hno⟩
  clear S
  refine ws_in he1 (c := IndexP_n8) rfl ?_
  clear he1 a1
  refine ws_seqN IndexP_n9 IndexP_n10 rfl rfl rfl (ws_region rfl (wlo 0 1 rfl rfl rfl (wo_run rfl rfl (run_lss rfl rfl rfl) (wl_end rfl (nm_thn ?_)))))
  refine ws_seqN IndexP_n11 IndexP_n12 rfl rfl rfl ?_
  refine ws_condN IndexP_n13 IndexP_n14 rfl rfl rfl rfl (fun hb9 => ?_) (fun hb9 => ?_)
  ·replace hb9 := of_decide_eq_true hb9
   refine ws_skip rfl (nmk [0, 1, 7, 8] rfl (nm_thn (ws_seqN IndexP_n15 IndexP_n16 rfl rfl rfl (ws_blockN IndexP_n17 1 rfl rfl rfl ?_))))
   refine ws_seqN IndexP_n18 IndexP_n19 rfl rfl rfl (ws_region rfl (wlm 0 1 rfl rfl rfl rfl rfl rfl rfl (wla 1 2 rfl rfl rfl rfl rfl rfl rfl (wl_end rfl ?_))))
   refine nmk [0, 1, 7, 8, 5] rfl (nm_thn (ws_seqN IndexP_n20 IndexP_n21 rfl rfl rfl (ws_region rfl (wlm 0 1 rfl rfl rfl rfl rfl rfl rfl ?_))))
   refine wlm 1 2 rfl rfl rfl rfl rfl rfl rfl (wlm 2 3 rfl rfl rfl rfl rfl rfl rfl (wlo 3 4 rfl rfl rfl (wo_run rfl rfl (run_indexM (C := cdInt) k rfl rfl rfl sl38 (by first | rfl | omega) hs (by first | omega | (simp only [lens]; omega))) ?_)))
   refine wlo 4 5 rfl rfl rfl (wo_run rfl rfl (run_load1 rfl rfl Try.underlying3 rfl (hs.cell S1.um (i := k) (by first | omega | (simp only [lens]; omega)) 0 rfl rfl)) ?_)
   refine wlo 5 6 rfl rfl rfl (wo_run rfl rfl (run_eql rfl rfl rfl) (wl_end rfl (nmk [0, 1, 7, 8, 5, 16] rfl (nm_thn ?_))))
   refine ws_condN IndexP_n22 IndexP_n23 rfl rfl rfl rfl (fun hb16 => ?_) (fun hb16 => ?_)
   ·replace hb16 := of_decide_eq_true hb16
    refine ws_seqN IndexP_n24 IndexP_n25 rfl rfl rfl (ws_region rfl (wlm 0 1 rfl rfl rfl rfl rfl rfl rfl (wla 1 2 rfl rfl rfl rfl rfl rfl rfl (wl_end rfl ?_))))
    refine nmk [4] rfl (nm_thn (ws_ret hC [_] rfl rfl ⟨rfl, trivial⟩ ?_))
    exact ⟨_, rfl, (S1.pick [] [] (by decide) trivial), (by rw [idxF_hit (k := k) (by omega) (by rw [decide_eq_true_iff]; omega) (fun j hj => decide_eq_false (hno j hj))]; rfl)⟩
   ·replace hb16 := of_decide_eq_false hb16
    refine ws_skip rfl (nm_blk (nmk [0, 1, 7, 8] rfl (nm_thn (ws_region rfl ?_))))
    refine wlo 0 1 rfl rfl rfl (wo_run rfl rfl (run_add rfl rfl rfl (by first | omega | (simp only [lens]; omega))) ?_)
    refine wlm 1 2 rfl rfl rfl rfl rfl rfl rfl (wl_end rfl (nm_lp ?_))
    intro ax_ hax_
    refine ⟨_, ?hq2m, ⟨k + 1, rfl, hax_.sub ⟨rfl, rfl, rfl, rfl, trivial⟩, S1.pick [] [] (by decide) trivial, ?hq2f0, ?hq2f1⟩⟩
    case hq2f0 => first | assumption | omega
    case hq2f1 => (intro j hj; by_cases h : j = k; (subst h; omega); exact hno j (by omega))
    case hq2m => omega
  ·replace hb9 := of_decide_eq_false hb9
   refine ws_exit rfl rfl (nm_sub [] trivial (nm_thn (ws_seqN IndexP_n26 IndexP_n27 rfl rfl rfl (ws_region rfl ?_))))
   refine wla 0 1 rfl rfl rfl rfl rfl rfl rfl (wl_end rfl (nm_thn (ws_ret hC [_] rfl rfl ⟨rfl, trivial⟩ ?_)))
   exact ⟨_, rfl, (S1.pick [] [] (by decide) trivial), (by rw [idxF_none (fun j hj => decide_eq_false (hno j (by omega)))]; rfl)⟩
noncomputable def abs_n0 : Code := Try.f15.body.getD .skip
noncomputable def abs_n1 : Code := cL abs_n0
noncomputable def abs_n2 : Code := cR abs_n0
noncomputable def abs_n3 : Code := cL abs_n2
noncomputable def abs_n4 : Code := cR abs_n2
noncomputable def abs_n5 : Code := cL abs_n3
noncomputable def abs_n6 : Code := cR abs_n3
noncomputable def abs_n7 : Code := cL abs_n6
noncomputable def abs_n8 : Code := cR abs_n6
noncomputable def abs_n9 : Code := cL abs_n7
noncomputable def abs_n10 : Code := cR abs_n7
noncomputable def abs_n11 : Code := cL abs_n4
noncomputable def abs_n12 : Code := cR abs_n4
set_option maxRecDepth 10000 in
theorem abs_q {w : World} {M : Hp} {X : Fr} (a : Int) (ha : -9223372036854775808 < a) (S : SH w M X []) : Cq Try.prog 15 [.int .i64 a] w M X (fun u => u = .int .i64 (max a (-a))) := by
 unfold Cq
 refine calls_in (b := abs_n0) Try.func15 rfl Try.ntmps15 rfl (fun C hC => (ws_sub [(0, _)] ⟨rfl, trivial⟩ (ws_seqN abs_n1 abs_n2 rfl rfl rfl (ws_region rfl (wla 0 1 rfl rfl rfl rfl rfl rfl rfl ?_)))))
 refine wl_end rfl (nmk [0] rfl (nm_thn (ws_seqN abs_n3 abs_n4 rfl rfl rfl (ws_seqN abs_n5 abs_n6 rfl rfl rfl ?_))))
 refine ws_region rfl (wlm 0 1 rfl rfl rfl rfl rfl rfl rfl (wlo 1 2 rfl rfl rfl (wo_run rfl rfl (run_lss rfl rfl rfl) (wl_end rfl (nmk [0, 4] rfl ?_)))))
 refine nm_thn ?_
 refine ws_condN abs_n7 abs_n8 rfl rfl rfl rfl (fun hb4 => ?_) (fun hb4 => ?_)
 ·replace hb4 := of_decide_eq_true hb4
  refine ws_seqN abs_n9 abs_n10 rfl rfl rfl (ws_region rfl (wlm 0 1 rfl rfl rfl rfl rfl rfl rfl (wlo 1 2 rfl rfl rfl (wo_run rfl rfl (run_neg rfl rfl (by first | omega | (simp only [lens]; omega))) ?_))))
  refine wla 2 3 rfl rfl rfl rfl rfl rfl rfl (wl_end rfl (nmk [2] rfl (nm_thn (ws_ret hC [_] rfl rfl ⟨rfl, trivial⟩ ?_))))
  exact ⟨_, rfl, (S.pick [] [] (by decide) trivial), (by show Value.int _ _ = Value.int _ _; congr 1; omega)⟩
 ·replace hb4 := of_decide_eq_false hb4
  refine ws_skip rfl (nmk [0] rfl (nm_thn (ws_seqN abs_n11 abs_n12 rfl rfl rfl (ws_region rfl ?_))))
  refine wlm 0 1 rfl rfl rfl rfl rfl rfl rfl (wla 1 2 rfl rfl rfl rfl rfl rfl rfl (wl_end rfl (nmk [2] rfl (nm_thn ?_))))
  refine ws_ret hC [_] rfl rfl ⟨rfl, trivial⟩ ?_
  exact ⟨_, rfl, (S.pick [] [] (by decide) trivial), (by show Value.int _ _ = Value.int _ _; congr 1; omega)⟩
noncomputable def recip_n0 : Code := Try.f16.body.getD .skip
noncomputable def recip_n1 : Code := cL recip_n0
noncomputable def recip_n2 : Code := cR recip_n0
noncomputable def recip_n3 : Code := cL recip_n2
noncomputable def recip_n4 : Code := cR recip_n2
noncomputable def recip_n5 : Code := cL recip_n4
noncomputable def recip_n6 : Code := cR recip_n4
noncomputable def recip_n7 : Code := cL recip_n5
noncomputable def recip_n8 : Code := cR recip_n5
noncomputable def recip_n9 : Code := cL recip_n8
noncomputable def recip_n10 : Code := cL recip_n9
noncomputable def recip_n11 : Code := cL recip_n10
noncomputable def recip_n12 : Code := cR recip_n10
noncomputable def recip_n13 : Code := cL recip_n11
noncomputable def recip_n14 : Code := cR recip_n11
noncomputable def recip_n15 : Code := cL recip_n14
noncomputable def recip_n16 : Code := cR recip_n14
noncomputable def recip_n17 : Code := cL recip_n12
noncomputable def recip_n18 : Code := cR recip_n12
noncomputable def recip_n19 : Code := cL recip_n17
noncomputable def recip_n20 : Code := cL recip_n6
noncomputable def recip_n21 : Code := cR recip_n6
set_option maxRecDepth 10000 in
theorem recip_t {w : World} {M : Hp} {X : Fr} (s : List Int) {sA : Option Addr} {sc : Nat} (hs : RdA cdInt (M.un X.h) sA sc s) (hv : smW s) (S : SH w M X []) : Ct Try.prog 16 [.slice sA s.length sc] w M X (IsE (invW s)) := by
 unfold Ct
 have rmhs : s.length * 8 ≤ 140737488355328 := hs.room
 refine calls_in (b := recip_n0) Try.func16 rfl Try.ntmps16 rfl (fun C hC => (ws_sub [(0, _)] ⟨rfl, trivial⟩ (ws_seqN recip_n1 recip_n2 rfl rfl rfl (ws_region rfl (wla 0 1 rfl rfl rfl rfl rfl rfl rfl ?_)))))
 refine wl_end rfl (nmk [0] rfl (nm_thn (ws_seqN recip_n3 recip_n4 rfl rfl rfl (ws_region rfl ?_))))
 refine wla 0 1 rfl rfl rfl rfl rfl rfl rfl (wl_end rfl (nm_thn (ws_seqN recip_n5 recip_n6 rfl rfl rfl (ws_seqN recip_n7 recip_n8 rfl rfl rfl ?_))))
 refine ws_region rfl (wlm 0 1 rfl rfl rfl rfl rfl rfl rfl (wlo 1 2 rfl rfl rfl (wo_run rfl rfl (run_len rfl rfl rfl rfl rfl rfl Try.underlying22) (wlo 2 3 rfl rfl rfl (wo_run rfl rfl (run_sub rfl rfl rfl (by first | omega | (simp only [lens]; omega))) ?_)))))
 refine wl_eq 7 (.int .i64 ((s.length : Int) - 1 - ((0 : Nat) : Int))) rfl (int_eq (by omega)) ?_
 refine wla 3 4 rfl rfl rfl rfl rfl rfl rfl (wl_end rfl (nmk [0, 3, 4] rfl (nm_thn (ws_blockN recip_n9 0 rfl rfl rfl ?_))))
 have S1 := S.nilrow cdInt; clear S
 refine ws_loopE (fun mx_ ax_ wx_ => ∃ (k : Nat) (acc : List Int) (vro : Value), mx_ = s.length - k ∧ Env 21 [(0, .slice sA s.length sc), (3, vro), (4, .int .i64 ((s.length : Int) - 1 - (k : Int)))] ax_ ∧ SH wx_ M X [Rs.row cdInt vro acc] ∧ k ≤ s.length ∧ acc = (invW s).take k) rfl ?_ ?_
 ·intro ax_ hax_
  refine ⟨_, ⟨0, _, _, rfl, hax_.sub ⟨rfl, rfl, rfl, trivial⟩, S1.pick [0] [_] (by decide) ⟨rfl, trivial⟩, ?hq1f0, ?hq1f1⟩⟩
  case hq1f0 => omega
  case hq1f1 => rfl
 ·rintro m1 a1 w1 ⟨k, acc, vro, rfl, he1, S2, hk, hal⟩
  clear S1
  refine ws_in he1 (c := recip_n10) rfl ?_
  clear he1 a1
  have hll : acc.length = k := by rw [hal]; simp [invW]; omega
  have hmv := fun h => hv (s.length - 1 - k) h
  refine ws_seqN recip_n11 recip_n12 rfl rfl rfl (ws_seqN recip_n13 recip_n14 rfl rfl rfl (ws_region rfl (wlm 0 1 rfl rfl rfl rfl rfl rfl rfl (wlo 1 2 rfl rfl rfl (wo_run rfl rfl (run_geq rfl rfl rfl) ?_)))))
  refine wl_end rfl (nmk [0, 3, 4, 9] rfl (nm_thn ?_))
  refine ws_condN recip_n15 recip_n16 rfl rfl rfl rfl (fun hb9 => ?_) (fun hb9 => ?_)
  ·replace hb9 := of_decide_eq_true hb9
   refine ws_skip rfl (nmk [0, 3, 4] rfl (nm_thn (ws_seqN recip_n17 recip_n18 rfl rfl rfl (ws_blockN recip_n19 1 rfl rfl rfl ?_))))
   refine ws_region rfl (wl_eq 4 (.int .i64 ((s.length - 1 - k : Nat) : Int)) rfl (int_eq (by omega)) ?_)
   refine wlm 0 1 rfl rfl rfl rfl rfl rfl rfl (wlm 1 2 rfl rfl rfl rfl rfl rfl rfl (wlm 2 3 rfl rfl rfl rfl rfl rfl rfl (wlo 3 4 rfl rfl rfl (wo_run rfl rfl (run_indexM (C := cdInt) (s.length - 1 - k) rfl rfl rfl sl22 (by first | rfl | omega) hs (by first | omega | (simp only [lens]; omega))) ?_))))
   refine wlo 4 5 rfl rfl rfl (wo_run rfl rfl (run_load1 rfl rfl Try.underlying3 rfl (hs.cell S2.um (i := s.length - 1 - k) (by first | omega | (simp only [lens]; omega)) 0 rfl rfl)) ?_)
   refine wlo 5 6 rfl rfl rfl (wo_run rfl rfl (run_neg rfl rfl (by first | omega | (simp only [lens]; omega))) ?_)
   refine wlo 6 7 rfl rfl rfl (wo_buildSlice1 (C := cdInt) (l := [_]) rfl rfl rfl rfl sl22 rfl rfl rfl rfl S2 ?_)
   intro gb1 w2 S3; clear S2
   refine wlo 7 8 rfl rfl rfl (wo_append1 (C := cdInt) (i := 1) (q := 0) (-(ga s (s.length - 1 - k))) rfl rfl rfl rfl rfl rfl rfl rfl sl22 S3 rfl rfl rfl (by show (_ + 1) * 8 ≤ _; first | omega | (simp only [lens]; omega)) ?_)
   intro vro1 w3 S4; clear S3
   have S5 := S4.pick [1] [_] (by decide) ⟨rfl, trivial⟩; clear S4
   refine wla 8 9 rfl rfl rfl rfl rfl rfl rfl (wl_end rfl (nm_blk (nmk [0, 3, 4] rfl (nm_thn ?_))))
   refine ws_region rfl (wlm 0 1 rfl rfl rfl rfl rfl rfl rfl (wlo 1 2 rfl rfl rfl (wo_run rfl rfl (run_sub rfl rfl rfl (by first | omega | (simp only [lens]; omega))) ?_)))
   refine wl_eq 11 (.int .i64 ((s.length : Int) - 1 - ((k + 1 : Nat) : Int))) rfl (int_eq (by omega)) ?_
   refine wla 2 3 rfl rfl rfl rfl rfl rfl rfl (wl_end rfl (nm_lp ?_))
   intro ax_ hax_
   refine ⟨_, ?hq2m, ⟨k + 1, _, _, rfl, hax_.sub ⟨rfl, rfl, rfl, trivial⟩, S5.pick [0] [_] (by decide) ⟨rfl, trivial⟩, ?hq2f0, ?hq2f1⟩⟩
   case hq2f0 => first | assumption | omega
   case hq2f1 => (rw [take_ga _ _ (by rw [invW_len]; omega), hal, invW_ga _ _ (by omega)])
   case hq2m => omega
  ·replace hb9 := of_decide_eq_false hb9
   refine ws_exit rfl rfl (nmk [3] rfl (nm_thn (ws_seqN recip_n20 recip_n21 rfl rfl rfl (ws_region rfl ?_))))
   refine wlm 0 1 rfl rfl rfl rfl rfl rfl rfl (wla 1 2 rfl rfl rfl rfl rfl rfl rfl (wl_end rfl (nmk [2] rfl (nm_thn ?_))))
   obtain ⟨M1, hle2, S6, ⟨A1, c1, e1, hr1⟩⟩ := S2.pubrow (i := 0) (H' := [_]) rfl rfl (by show _ * 8 ≤ _; first | omega | (simp only [lens]; omega))
   clear S2; subst e1
   replace hs := hs.mono (Hp.un_mono hle2 S6.mx)
   refine ws_ret hC [_] rfl rfl ⟨rfl, trivial⟩ ?_
   refine ⟨_, rfl, _, hle2, (S6.pick [] [] (by decide) trivial), ?_⟩
   obtain rfl : k = s.length := by omega
   have e : acc = invW s := by rw [hal, ← invW_len s, List.take_length]
   subst e
   exact ⟨_, _, rfl, hr1⟩
noncomputable def glue_n0 : Code := Try.f32.body.getD .skip
noncomputable def glue_n1 : Code := cL glue_n0
noncomputable def glue_n2 : Code := cR glue_n0
noncomputable def glue_n3 : Code := cL glue_n2
noncomputable def glue_n4 : Code := cR glue_n2
noncomputable def glue_n5 : Code := cL glue_n4
noncomputable def glue_n6 : Code := cR glue_n4
noncomputable def glue_n7 : Code := cL glue_n5
noncomputable def glue_n8 : Code := cR glue_n5
noncomputable def glue_n9 : Code := cL glue_n8
noncomputable def glue_n10 : Code := cL glue_n9
noncomputable def glue_n11 : Code := cL glue_n10
noncomputable def glue_n12 : Code := cR glue_n10
noncomputable def glue_n13 : Code := cL glue_n11
noncomputable def glue_n14 : Code := cR glue_n11
noncomputable def glue_n15 : Code := cL glue_n14
noncomputable def glue_n16 : Code := cR glue_n14
noncomputable def glue_n17 : Code := cL glue_n12
noncomputable def glue_n18 : Code := cR glue_n12
noncomputable def glue_n19 : Code := cL glue_n17
noncomputable def glue_n20 : Code := cL glue_n19
noncomputable def glue_n21 : Code := cR glue_n19
noncomputable def glue_n22 : Code := cL glue_n21
noncomputable def glue_n23 : Code := cR glue_n21
noncomputable def glue_n24 : Code := cL glue_n23
noncomputable def glue_n25 : Code := cR glue_n23
noncomputable def glue_n26 : Code := cL glue_n6
noncomputable def glue_n27 : Code := cR glue_n6
set_option maxRecDepth 10000 in
theorem glue_t {w : World} {M : Hp} {X : Fr} (s : List Int) {sA : Option Addr} {sc : Nat} (t : List Int) {tA : Option Addr} {tc : Nat} (hs : RdA cdInt (M.un X.h) sA sc s) (ht : RdA cdInt (M.un X.h) tA tc t) (hs1 : smW s) (ht1 : smW t) (hro : (s.length + t.length) * 8 ≤ 140737488355328) (S : SH w M X []) : Ct Try.prog 32 [.slice sA s.length sc, .slice tA t.length tc] w M X (IsE (gluW s t)) := by
 unfold Ct
 have rmhs : s.length * 8 ≤ 140737488355328 := hs.room
 have rmht : t.length * 8 ≤ 140737488355328 := ht.room
 refine calls_in (b := glue_n0) Try.func32 rfl Try.ntmps32 rfl (fun C hC => (ws_sub [(0, _), (1, _)] ⟨rfl, rfl, trivial⟩ (ws_seqN glue_n1 glue_n2 rfl rfl rfl (ws_region rfl (wla 0 1 rfl rfl rfl rfl rfl rfl rfl ?_)))))
 refine wl_end rfl (nmk [0, 1] rfl (nm_thn (ws_seqN glue_n3 glue_n4 rfl rfl rfl (ws_region rfl ?_))))
 refine wlm 0 1 rfl rfl rfl rfl rfl rfl rfl ?_
 have S1 := S.nilrow cdInt; clear S
 refine wlo 1 2 rfl rfl rfl (wo_appendM (C := cdInt) (i := 0) rfl rfl rfl rfl rfl rfl rfl rfl sl22 S1 rfl hs S1.um (by have h : _ * 8 ≤ _ := hs.room; show (0 + _) * 8 ≤ _; first | omega | (simp only [lens]; omega)) ?_)
 intro vr2 w1 S2; clear S1
 change SH _ _ _ [Rs.row cdInt vr2 s] at S2
 refine wla 2 3 rfl rfl rfl rfl rfl rfl rfl (wl_end rfl (nmk [1, 5] rfl (nm_thn (ws_seqN glue_n5 glue_n6 rfl rfl rfl ?_))))
 refine ws_seqN glue_n7 glue_n8 rfl rfl rfl (ws_region rfl (wla 0 1 rfl rfl rfl rfl rfl rfl rfl (wl_end rfl (nm_thn ?_))))
 refine ws_blockN glue_n9 0 rfl rfl rfl ?_
 refine ws_loopE (fun mx_ ax_ wx_ => ∃ (k : Nat) (acc : List Int) (vro : Value), mx_ = t.length - k ∧ Env 45 [(1, .slice tA t.length tc), (5, vro), (6, .int .i64 (k : Int))] ax_ ∧ SH wx_ M X [Rs.row cdInt vro acc] ∧ k ≤ t.length ∧ acc = gluW s (t.take k) ∧ smW acc) rfl ?_ ?_
 ·intro ax_ hax_
  refine ⟨_, ⟨0, _, _, rfl, hax_.sub ⟨rfl, rfl, rfl, trivial⟩, S2.pick [0] [_] (by decide) ⟨rfl, trivial⟩, ?hq1f0, ?hq1f1, ?hq1f2⟩⟩
  case hq1f0 => omega
  case hq1f1 => rfl
  case hq1f2 => simpa using hs1
 ·rintro m1 a1 w2 ⟨k, acc, vro, rfl, he1, S3, hk, hal, hsa⟩
  clear S2
  refine ws_in he1 (c := glue_n10) rfl ?_
  clear he1 a1
  have hll : acc.length ≤ s.length + k := by rw [hal]; have h1 := gluW_len s (t.take k); rw [List.length_take] at h1; omega
  have hmv := fun h => ht1 k h
  have hma := fun h => hsa ((acc.length : Int) - 1).toNat h
  refine ws_seqN glue_n11 glue_n12 rfl rfl rfl (ws_seqN glue_n13 glue_n14 rfl rfl rfl (ws_region rfl (wlm 0 1 rfl rfl rfl rfl rfl rfl rfl (wlm 1 2 rfl rfl rfl rfl rfl rfl rfl ?_))))
  refine wlo 2 3 rfl rfl rfl (wo_run rfl rfl (run_len rfl rfl rfl rfl rfl rfl Try.underlying22) (wlo 3 4 rfl rfl rfl (wo_run rfl rfl (run_lss rfl rfl rfl) (wl_end rfl (nmk [1, 5, 6, 13] rfl (nm_thn ?_))))))
  refine ws_condN glue_n15 glue_n16 rfl rfl rfl rfl (fun hb13 => ?_) (fun hb13 => ?_)
  ·replace hb13 := of_decide_eq_true hb13
   refine ws_skip rfl (nmk [1, 5, 6] rfl (nm_thn (ws_seqN glue_n17 glue_n18 rfl rfl rfl (ws_blockN glue_n19 1 rfl rfl rfl ?_))))
   refine ws_seqN glue_n20 glue_n21 rfl rfl rfl (ws_region rfl (wlm 0 1 rfl rfl rfl rfl rfl rfl rfl (wlo 1 2 rfl rfl rfl (wo_run rfl rfl (run_lenR (C := cdInt) (i := 0) rfl rfl rfl rfl rfl rfl sl22 S3 rfl) (wla 2 3 rfl rfl rfl rfl rfl rfl rfl ?_)))))
   refine wl_end rfl (nmk [1, 5, 6, 7] rfl (nm_thn (ws_seqN glue_n22 glue_n23 rfl rfl rfl (ws_draw rfl (by kernel_rfl) S3 15 rfl ?_))))
   clear S3
   refine wap 0 14 rfl (by kernel_rfl) rfl rfl rfl (fun w3 => run_move rfl rfl) ?_
   refine wap 1 13 rfl (by kernel_rfl) rfl rfl rfl (fun w4 => run_gtr rfl rfl rfl) ?_
   refine wap 2 12 rfl (by kernel_rfl) rfl rfl rfl (fun w5 => run_move rfl rfl) ?_
   refine wa_split (t := 20) rfl (fun hg20 => ?_) (fun hg20 => ?_)
   ·replace hg20 := of_decide_eq_true hg20
    refine wap 3 11 rfl (by kernel_rfl) ⟨_, _, _, rfl, rfl, rfl, rfl⟩ rfl rfl (fun w6 => run_move rfl rfl) ?_
    refine wap 4 10 rfl (by kernel_rfl) ⟨_, _, _, rfl, rfl, rfl, rfl⟩ rfl rfl (fun w7 => run_move rfl rfl) ?_
    refine wap 5 9 rfl (by kernel_rfl) ⟨_, _, _, rfl, rfl, rfl, rfl⟩ rfl rfl (fun w8 => run_sub rfl rfl rfl (by first | omega | (simp only [lens]; omega))) ?_
    refine wat 6 8 rfl (by kernel_rfl) ⟨_, _, _, rfl, rfl, rfl, rfl⟩ rfl rfl (fun M7 N7 w9 hle8 S10 => .inl (run_indexR (C := cdInt) (i := 0) (((acc.length : Int) - 1).toNat) rfl rfl rfl sl22 S10.suf rfl (by first | rfl | omega) (by first | omega | (simp only [lens]; omega)))) ?_
    refine wat 7 7 rfl (by kernel_rfl) ⟨_, _, _, rfl, rfl, rfl, rfl⟩ rfl rfl (fun M8 N8 w10 hle9 S11 => .inl (run_load1 rfl rfl Try.underlying3 rfl (S11.suf.rowc (i := 0) (e := ((acc.length : Int) - 1).toNat) (j := 0) rfl (by first | omega | (simp only [lens]; omega)) rfl rfl))) ?_
    refine wap 8 6 rfl (by kernel_rfl) ⟨_, _, _, rfl, rfl, rfl, rfl⟩ rfl rfl (fun w11 => run_move rfl rfl) ?_
    refine wap 9 5 rfl (by kernel_rfl) ⟨_, _, _, rfl, rfl, rfl, rfl⟩ rfl rfl (fun w12 => run_move rfl rfl) ?_
    refine wat 10 4 rfl (by kernel_rfl) ⟨_, _, _, rfl, rfl, rfl, rfl⟩ rfl rfl (fun M11 N11 w13 hle12 S14 => .inl (run_indexM (C := cdInt) k rfl rfl rfl sl22 (by first | rfl | omega) (ht.mono (Hp.un_mono hle12 S14.mx)) (by first | omega | (simp only [lens]; omega)))) ?_
    refine wat 11 3 rfl (by kernel_rfl) ⟨_, _, _, rfl, rfl, rfl, rfl⟩ rfl rfl (fun M12 N12 w14 hle13 S15 => .inl (run_load1 rfl rfl Try.underlying3 rfl ((ht.mono (Hp.un_mono hle13 S15.mx)).cell S15.um (i := k) (by first | omega | (simp only [lens]; omega)) 0 rfl rfl))) ?_
    refine wap 12 2 rfl (by kernel_rfl) ⟨_, _, _, rfl, rfl, rfl, rfl⟩ rfl rfl (fun w15 => run_add rfl rfl rfl (by first | omega | (simp only [lens]; omega))) ?_
    refine wap 13 1 rfl (by kernel_rfl) ⟨_, _, _, rfl, rfl, rfl, rfl⟩ rfl rfl (fun w16 => run_eql rfl rfl rfl) ?_
    refine wap 14 0 rfl (by kernel_rfl) rfl rfl rfl (fun w17 => run_pickT rfl rfl rfl) ?_
    refine wa_end (by kernel_rfl) (fun w18 S19 => ?_)
    refine nmk [1, 5, 6, 7, 32] rfl (nm_thn ?_)
    refine ws_condN glue_n24 glue_n25 rfl rfl rfl rfl (fun hb32 => ?_) (fun hb32 => ?_)
    ·replace hb32 := of_decide_eq_true hb32
     refine ws_region rfl (wlm 0 1 rfl rfl rfl rfl rfl rfl rfl (wlm 1 2 rfl rfl rfl rfl rfl rfl rfl (wlo 2 3 rfl rfl rfl (wo_run rfl rfl (run_sub rfl rfl rfl (by first | omega | (simp only [lens]; omega))) ?_))))
     refine wlo 3 4 rfl rfl rfl (wo_takeR (C := cdInt) (i := 0) (((acc.length : Int) - 1).toNat) rfl rfl rfl rfl rfl sl22 (by first | rfl | omega) (by first | omega | (simp only [lens]; omega)) S19 rfl ?_)
     intro vro1 S20; clear S19
     change SH _ _ _ [Rs.row cdInt vro1 (acc.take (((acc.length : Int) - 1).toNat))] at S20
     refine wla 4 5 rfl rfl rfl rfl rfl rfl rfl (wl_end rfl (nm_blk (nmk [1, 5, 6] rfl (nm_thn ?_))))
     refine ws_region rfl (wlm 0 1 rfl rfl rfl rfl rfl rfl rfl (wlo 1 2 rfl rfl rfl (wo_run rfl rfl (run_add rfl rfl rfl (by first | omega | (simp only [lens]; omega))) ?_)))
     refine wla 2 3 rfl rfl rfl rfl rfl rfl rfl (wl_end rfl (nm_lp ?_))
     intro ax_ hax_
     refine ⟨_, ?hq2m, ⟨k + 1, _, _, rfl, hax_.sub ⟨rfl, rfl, rfl, trivial⟩, S20.pick [0] [_] (by decide) ⟨rfl, trivial⟩, ?hq2f0, ?hq2f1, ?hq2f2⟩⟩
     case hq2f0 => first | assumption | omega
     case hq2f1 => (rw [gluW_take _ _ _ (by omega), ← hal]; have hto : ((acc.length : Int) - 1).toNat = acc.length - 1 := (by omega); unfold pushW; rw [← hto]; first | rw [if_pos ⟨by omega, by omega⟩] | rw [if_neg (by omega)])
     case hq2f2 => first | exact hsa.take_ _ | exact hsa.snoc_ (by omega)
     case hq2m => omega
    ·replace hb32 := of_decide_eq_false hb32
     refine ws_region rfl (wlm 0 1 rfl rfl rfl rfl rfl rfl rfl (wlm 1 2 rfl rfl rfl rfl rfl rfl rfl (wlm 2 3 rfl rfl rfl rfl rfl rfl rfl (wlo 3 4 rfl rfl rfl (wo_run rfl rfl (run_indexM (C := cdInt) k rfl rfl rfl sl22 (by first | rfl | omega) ht (by first | omega | (simp only [lens]; omega))) ?_)))))
     refine wlo 4 5 rfl rfl rfl (wo_run rfl rfl (run_load1 rfl rfl Try.underlying3 rfl (ht.cell S19.um (i := k) (by first | omega | (simp only [lens]; omega)) 0 rfl rfl)) ?_)
     refine wlo 5 6 rfl rfl rfl (wo_buildSlice1 (C := cdInt) (l := [_]) rfl rfl rfl rfl sl22 rfl rfl rfl rfl S19 ?_)
     intro gb1 w19 S21; clear S19
     refine wlo 6 7 rfl rfl rfl (wo_append1 (C := cdInt) (i := 1) (q := 0) (ga t k) rfl rfl rfl rfl rfl rfl rfl rfl sl22 S21 rfl rfl rfl (by show (_ + 1) * 8 ≤ _; first | omega | (simp only [lens]; omega)) ?_)
     intro vro2 w20 S22; clear S21
     have S23 := S22.pick [1] [_] (by decide) ⟨rfl, trivial⟩; clear S22
     refine wla 7 8 rfl rfl rfl rfl rfl rfl rfl (wl_end rfl (nm_blk (nmk [1, 5, 6] rfl (nm_thn ?_))))
     refine ws_region rfl (wlm 0 1 rfl rfl rfl rfl rfl rfl rfl (wlo 1 2 rfl rfl rfl (wo_run rfl rfl (run_add rfl rfl rfl (by first | omega | (simp only [lens]; omega))) ?_)))
     refine wla 2 3 rfl rfl rfl rfl rfl rfl rfl (wl_end rfl (nm_lp ?_))
     intro ax_ hax_
     refine ⟨_, ?hq3m, ⟨k + 1, _, _, rfl, hax_.sub ⟨rfl, rfl, rfl, trivial⟩, S23.pick [0] [_] (by decide) ⟨rfl, trivial⟩, ?hq3f0, ?hq3f1, ?hq3f2⟩⟩
     case hq3f0 => first | assumption | omega
     case hq3f1 => (rw [gluW_take _ _ _ (by omega), ← hal]; have hto : ((acc.length : Int) - 1).toNat = acc.length - 1 := (by omega); unfold pushW; rw [← hto]; first | rw [if_pos ⟨by omega, by omega⟩] | rw [if_neg (by omega)])
     case hq3f2 => first | exact hsa.take_ _ | exact hsa.snoc_ (by omega)
     case hq3m => omega
   ·replace hg20 := of_decide_eq_false hg20
    refine wa_no (i := 3) (d := 21) 11 rfl (by kernel_rfl) (by kernel_rfl) (by kernel_rfl) ⟨_, _, _, rfl, rfl, rfl, rfl⟩ rfl rfl ?_
    refine wa_no (i := 4) (d := 22) 10 rfl (by kernel_rfl) (by kernel_rfl) (by kernel_rfl) ⟨_, _, _, rfl, rfl, rfl, rfl⟩ rfl rfl ?_
    refine wa_no (i := 5) (d := 23) 9 rfl (by kernel_rfl) (by kernel_rfl) (by kernel_rfl) ⟨_, _, _, rfl, rfl, rfl, rfl⟩ rfl rfl ?_
    refine wa_no (i := 6) (d := 24) 8 rfl (by kernel_rfl) (by kernel_rfl) (by kernel_rfl) ⟨_, _, _, rfl, rfl, rfl, rfl⟩ rfl rfl ?_
    refine wa_no (i := 7) (d := 25) 7 rfl (by kernel_rfl) (by kernel_rfl) (by kernel_rfl) ⟨_, _, _, rfl, rfl, rfl, rfl⟩ rfl rfl ?_
    refine wa_no (i := 8) (d := 26) 6 rfl (by kernel_rfl) (by kernel_rfl) (by kernel_rfl) ⟨_, _, _, rfl, rfl, rfl, rfl⟩ rfl rfl ?_
    refine wa_no (i := 9) (d := 27) 5 rfl (by kernel_rfl) (by kernel_rfl) (by kernel_rfl) ⟨_, _, _, rfl, rfl, rfl, rfl⟩ rfl rfl ?_
    refine wa_no (i := 10) (d := 28) 4 rfl (by kernel_rfl) (by kernel_rfl) (by kernel_rfl) ⟨_, _, _, rfl, rfl, rfl, rfl⟩ rfl rfl ?_
    refine wa_no (i := 11) (d := 29) 3 rfl (by kernel_rfl) (by kernel_rfl) (by kernel_rfl) ⟨_, _, _, rfl, rfl, rfl, rfl⟩ rfl rfl ?_
    refine wa_no (i := 12) (d := 30) 2 rfl (by kernel_rfl) (by kernel_rfl) (by kernel_rfl) ⟨_, _, _, rfl, rfl, rfl, rfl⟩ rfl rfl ?_
    refine wa_no (i := 13) (d := 31) 1 rfl (by kernel_rfl) (by kernel_rfl) (by kernel_rfl) ⟨_, _, _, rfl, rfl, rfl, rfl⟩ rfl rfl ?_
    refine wap 14 0 rfl (by kernel_rfl) rfl rfl rfl (fun w21 => run_pickF rfl rfl rfl) ?_
    refine wa_end (by kernel_rfl) (fun w22 S25 => ?_)
    refine nmk [1, 5, 6, 7, 32] rfl (nm_thn (ws_condFN glue_n25 rfl rfl rfl (ws_region rfl (wlm 0 1 rfl rfl rfl rfl rfl rfl rfl ?_))))
    refine wlm 1 2 rfl rfl rfl rfl rfl rfl rfl (wlm 2 3 rfl rfl rfl rfl rfl rfl rfl (wlo 3 4 rfl rfl rfl (wo_run rfl rfl (run_indexM (C := cdInt) k rfl rfl rfl sl22 (by first | rfl | omega) ht (by first | omega | (simp only [lens]; omega))) ?_)))
    refine wlo 4 5 rfl rfl rfl (wo_run rfl rfl (run_load1 rfl rfl Try.underlying3 rfl (ht.cell S25.um (i := k) (by first | omega | (simp only [lens]; omega)) 0 rfl rfl)) ?_)
    refine wlo 5 6 rfl rfl rfl (wo_buildSlice1 (C := cdInt) (l := [_]) rfl rfl rfl rfl sl22 rfl rfl rfl rfl S25 ?_)
    intro gb2 w23 S26; clear S25
    refine wlo 6 7 rfl rfl rfl (wo_append1 (C := cdInt) (i := 1) (q := 0) (ga t k) rfl rfl rfl rfl rfl rfl rfl rfl sl22 S26 rfl rfl rfl (by show (_ + 1) * 8 ≤ _; first | omega | (simp only [lens]; omega)) ?_)
    intro vro3 w24 S27; clear S26
    have S28 := S27.pick [1] [_] (by decide) ⟨rfl, trivial⟩; clear S27
    refine wla 7 8 rfl rfl rfl rfl rfl rfl rfl (wl_end rfl (nm_blk (nmk [1, 5, 6] rfl (nm_thn ?_))))
    refine ws_region rfl (wlm 0 1 rfl rfl rfl rfl rfl rfl rfl (wlo 1 2 rfl rfl rfl (wo_run rfl rfl (run_add rfl rfl rfl (by first | omega | (simp only [lens]; omega))) ?_)))
    refine wla 2 3 rfl rfl rfl rfl rfl rfl rfl (wl_end rfl (nm_lp ?_))
    intro ax_ hax_
    refine ⟨_, ?hq4m, ⟨k + 1, _, _, rfl, hax_.sub ⟨rfl, rfl, rfl, trivial⟩, S28.pick [0] [_] (by decide) ⟨rfl, trivial⟩, ?hq4f0, ?hq4f1, ?hq4f2⟩⟩
    case hq4f0 => first | assumption | omega
    case hq4f1 => (rw [gluW_take _ _ _ (by omega), ← hal]; have hto : ((acc.length : Int) - 1).toNat = acc.length - 1 := (by omega); unfold pushW; rw [← hto]; first | rw [if_pos ⟨by omega, by omega⟩] | rw [if_neg (by omega)])
    case hq4f2 => first | exact hsa.take_ _ | exact hsa.snoc_ (by omega)
    case hq4m => omega
  ·replace hb13 := of_decide_eq_false hb13
   refine ws_exit rfl rfl (nmk [5] rfl (nm_thn (ws_seqN glue_n26 glue_n27 rfl rfl rfl (ws_region rfl ?_))))
   refine wlm 0 1 rfl rfl rfl rfl rfl rfl rfl (wla 1 2 rfl rfl rfl rfl rfl rfl rfl (wl_end rfl (nmk [4] rfl (nm_thn ?_))))
   obtain ⟨M17, hle18, S29, ⟨A1, c1, e1, hr1⟩⟩ := S3.pubrow (i := 0) (H' := [_]) rfl rfl (by show _ * 8 ≤ _; first | omega | (simp only [lens]; omega))
   clear S3; subst e1
   replace hs := hs.mono (Hp.un_mono hle18 S29.mx)
   replace ht := ht.mono (Hp.un_mono hle18 S29.mx)
   refine ws_ret hC [_] rfl rfl ⟨rfl, trivial⟩ ?_
   refine ⟨_, rfl, _, hle18, (S29.pick [] [] (by decide) trivial), ?_⟩
   obtain rfl : k = t.length := by omega
   have e : acc = gluW s t := by rw [hal, List.take_length]
   subst e
   exact ⟨_, _, rfl, hr1⟩
end Go.Proofs.Ytomcgmialkdcbaa
namespace Go.Proofs.Ytomcgmialkdcbaa
open Go.ChangeShapes Go.WideShapes Go.ChangeAt Go.RowKit
/-- The places of i and of i + 1 change what they hold. -/
def plL (xs : List Int) (i : Int) : Nat := (idxF (fun x => decide (x = i)) xs).toNat
def thenL (xs : List Int) (i : Int) : List Int := (xs.set (plL xs i) (ga xs (plL xs (i + 1)))).set (plL xs (i + 1)) (ga xs (plL xs i))
def idL (n : Nat) : List Int := (List.range (n + 1)).map (fun (i : Nat) => (i : Int))
theorem idxF_in {v : Int} {xs : List Int} (h : v ∈ xs) : 0 ≤ idxF (fun x => decide (x = v)) xs ∧ idxF (fun x => decide (x = v)) xs < xs.length := by
 have h1 : decide (0 ≤ idxF (fun x => decide (x = v)) xs) = true := by rw [idxF_any, List.any_eq_true]; exact ⟨v, h, by simp⟩
 refine ⟨of_decide_eq_true h1, ?_⟩
 unfold idxF
 split
 ·rename_i i e
  rw [List.findIdx?_eq_some_iff_getElem] at e
  obtain ⟨h2, _⟩ := e
  omega
 ·omega
noncomputable def identity_n0 : Code := Try.f24.body.getD .skip
noncomputable def identity_n1 : Code := cL identity_n0
noncomputable def identity_n2 : Code := cR identity_n0
noncomputable def identity_n3 : Code := cL identity_n2
noncomputable def identity_n4 : Code := cR identity_n2
noncomputable def identity_n5 : Code := cL identity_n4
noncomputable def identity_n6 : Code := cR identity_n4
noncomputable def identity_n7 : Code := cL identity_n5
noncomputable def identity_n8 : Code := cR identity_n5
noncomputable def identity_n9 : Code := cL identity_n8
noncomputable def identity_n10 : Code := cL identity_n9
noncomputable def identity_n11 : Code := cL identity_n10
noncomputable def identity_n12 : Code := cR identity_n10
noncomputable def identity_n13 : Code := cL identity_n12
noncomputable def identity_n14 : Code := cR identity_n12
noncomputable def identity_n15 : Code := cL identity_n13
noncomputable def identity_n16 : Code := cR identity_n13
noncomputable def identity_n17 : Code := cL identity_n14
noncomputable def identity_n18 : Code := cR identity_n14
noncomputable def identity_n19 : Code := cL identity_n17
noncomputable def identity_n20 : Code := cL identity_n19
noncomputable def identity_n21 : Code := cR identity_n19
noncomputable def identity_n22 : Code := cL identity_n6
noncomputable def identity_n23 : Code := cR identity_n6
set_option maxRecDepth 10000 in
theorem identity_o {w : World} {M : Hp} {X : Fr} (n : Nat) (hn : n ≤ 6) (S : SH w M X []) : Co Try.prog 24 [.int .i64 (n : Int)] w M X (fun u N => N = [Rs.row cdInt u (idL n)]) := by
 unfold Co
 have hrep : (List.replicate (n + 1) cdInt.z).length = n + 1 := List.length_replicate
 refine calls_in (b := identity_n0) Try.func24 rfl Try.ntmps24 rfl (fun C hC => (ws_sub [(0, _)] ⟨rfl, trivial⟩ (ws_seqN identity_n1 identity_n2 rfl rfl rfl (ws_region rfl (wla 0 1 rfl rfl rfl rfl rfl rfl rfl ?_)))))
 refine wl_end rfl (nmk [0] rfl (nm_thn (ws_seqN identity_n3 identity_n4 rfl rfl rfl (ws_region rfl ?_))))
 refine wlm 0 1 rfl rfl rfl rfl rfl rfl rfl (wlo 1 2 rfl rfl rfl (wo_run rfl rfl (run_add rfl rfl rfl (by first | omega | (simp only [lens]; omega))) ?_))
 refine wlo 2 3 rfl rfl rfl (wo_make (C := cdInt) (n + 1) rfl rfl rfl rfl rfl sl38 (by first | rfl | omega) (by show _ * 8 ≤ _; first | omega | (simp only [lens]; omega)) S ?_)
 intro vr1 w1 S1; clear S
 refine wla 3 4 rfl rfl rfl rfl rfl rfl rfl (wl_end rfl (nmk [3] rfl (nm_thn (ws_seqN identity_n5 identity_n6 rfl rfl rfl ?_))))
 refine ws_seqN identity_n7 identity_n8 rfl rfl rfl (ws_region rfl (wlm 0 1 rfl rfl rfl rfl rfl rfl rfl (wlo 1 2 rfl rfl rfl (wo_run rfl rfl (run_lenR (C := cdInt) (i := 0) rfl rfl rfl rfl rfl rfl sl38 S1 rfl) (wlm 2 3 rfl rfl rfl rfl rfl rfl rfl ?_)))))
 refine wl_end rfl (nmk [3, 9, 10] rfl (nm_thn (ws_blockN identity_n9 0 rfl rfl rfl ?_)))
 refine ws_loopE (fun mx_ ax_ wx_ => ∃ (k : Nat) (acc : List Int) (vro : Value), mx_ = n + 1 - k ∧ Env 19 [(3, vro), (9, .int .i64 ((List.replicate (n + 1) cdInt.z).length : Int)), (10, .int .i64 (k : Int))] ax_ ∧ SH wx_ M X [Rs.row cdInt vro acc] ∧ k ≤ n + 1 ∧ acc.length = n + 1 ∧ (∀ j, j < k → ga acc j = (j : Int))) rfl ?_ ?_
 ·intro ax_ hax_
  refine ⟨_, ⟨0, _, _, rfl, hax_.sub ⟨rfl, rfl, rfl, trivial⟩, S1.pick [0] [_] (by decide) ⟨rfl, trivial⟩, ?hq1f0, ?hq1f1, ?hq1f2⟩⟩
  case hq1f0 => omega
  case hq1f1 => simp
  case hq1f2 => (intro j h1; omega)
 ·rintro m1 a1 w2 ⟨k, acc, vro, rfl, he1, S2, hk, hal, hg⟩
  clear S1
  refine ws_in he1 (c := identity_n10) rfl ?_
  clear he1 a1
  refine ws_seqN identity_n11 identity_n12 rfl rfl rfl (ws_region rfl (wlo 0 1 rfl rfl rfl (wo_run rfl rfl (run_lss rfl rfl rfl) (wl_end rfl (nm_thn ?_)))))
  refine ws_seqN identity_n13 identity_n14 rfl rfl rfl ?_
  refine ws_condN identity_n15 identity_n16 rfl rfl rfl rfl (fun hb11 => ?_) (fun hb11 => ?_)
  ·replace hb11 := of_decide_eq_true hb11
   refine ws_skip rfl (nmk [3, 9, 10] rfl (nm_thn (ws_seqN identity_n17 identity_n18 rfl rfl rfl (ws_blockN identity_n19 1 rfl rfl rfl ?_))))
   refine ws_seqN identity_n20 identity_n21 rfl rfl rfl (ws_region rfl (wlm 0 1 rfl rfl rfl rfl rfl rfl rfl (wla 1 2 rfl rfl rfl rfl rfl rfl rfl (wl_end rfl ?_))))
   refine nmk [3, 9, 10, 4] rfl (nm_thn (ws_region rfl (wlm 0 1 rfl rfl rfl rfl rfl rfl rfl (wlm 1 2 rfl rfl rfl rfl rfl rfl rfl ?_))))
   refine wlm 2 3 rfl rfl rfl rfl rfl rfl rfl (wlo 3 4 rfl rfl rfl (wo_run rfl rfl (run_indexR (C := cdInt) (i := 0) k rfl rfl rfl sl38 S2 rfl (by first | rfl | omega) (by first | omega | (simp only [lens]; omega))) ?_))
   refine wlo 4 5 rfl rfl rfl (wo_storeR (C := cdInt) (i := 0) (e := k) (j := 0) (us := [_]) (H' := [_]) (k : Int) rfl rfl S2 rfl (by first | omega | (simp only [lens]; omega)) rfl rfl rfl sz3 rfl rfl rfl rfl ?_)
   intro w3 S3; clear S2
   refine wl_end rfl (nm_blk (nmk [3, 9, 10] rfl (nm_thn (ws_region rfl ?_))))
   refine wlo 0 1 rfl rfl rfl (wo_run rfl rfl (run_add rfl rfl rfl (by first | omega | (simp only [lens]; omega))) ?_)
   refine wlm 1 2 rfl rfl rfl rfl rfl rfl rfl (wl_end rfl (nm_lp ?_))
   intro ax_ hax_
   refine ⟨_, ?hq2m, ⟨k + 1, _, _, rfl, hax_.sub ⟨rfl, rfl, rfl, trivial⟩, S3.pick [0] [_] (by decide) ⟨rfl, trivial⟩, ?hq2f0, ?hq2f1, ?hq2f2⟩⟩
   case hq2f0 => first | assumption | omega
   case hq2f1 => simpa using hal
   case hq2f2 => (intro j h1; rw [ga_set _ _ _ _ (by omega)]; split; (rename_i e; rw [e]); exact hg j (by omega))
   case hq2m => omega
  ·replace hb11 := of_decide_eq_false hb11
   refine ws_exit rfl rfl (nmk [3] rfl (nm_thn (ws_seqN identity_n22 identity_n23 rfl rfl rfl (ws_region rfl ?_))))
   refine wlm 0 1 rfl rfl rfl rfl rfl rfl rfl (wla 1 2 rfl rfl rfl rfl rfl rfl rfl (wl_end rfl (nmk [2] rfl (nm_thn ?_))))
   have e : acc = idL n := ga_ext (by rw [hal]; simp [idL]) fun i hi => by rw [hg i (by omega), ga_eq (by simp [idL]; omega)]; simp [idL]
   subst e
   refine ws_ret hC [_] rfl rfl ⟨rfl, trivial⟩ ?_
   exact ⟨_, rfl, _, S2.pick [0] [_] (by decide) ⟨rfl, trivial⟩, rfl⟩
noncomputable def thenP_n0 : Code := Try.f25.body.getD .skip
noncomputable def thenP_n1 : Code := cL thenP_n0
noncomputable def thenP_n2 : Code := cR thenP_n0
set_option maxRecDepth 10000 in
theorem thenP_w {w : World} {M : Hp} {X : Fr} (vp : Value) (p : List Int) (i : Int) (h1 : i ∈ p) (h2 : i + 1 ∈ p) (hpl : p.length ≤ 7) (hib : 0 ≤ i ∧ i ≤ 6) (S : SH w M X [Rs.row cdInt vp p]) : C1 Try.prog 25 [vp, .int .i64 i] w M X (fun u M' r' => u = tup [] ∧ M' = M ∧ r' = Rs.row cdInt vp (thenL p i)) := by
 unfold C1
 have hj := idxF_in h1
 have hk := idxF_in h2
 refine calls_in (b := thenP_n0) Try.func25 rfl Try.ntmps25 rfl (fun C hC => (ws_sub [(0, _), (1, _)] ⟨rfl, rfl, trivial⟩ (ws_seqN thenP_n1 thenP_n2 rfl rfl rfl (ws_region rfl (wlm 0 1 rfl rfl rfl rfl rfl rfl rfl ?_)))))
 refine wlm 1 2 rfl rfl rfl rfl rfl rfl rfl ?_
 obtain ⟨A1, c1, e1, hr1⟩ := S.lendRd (i := 0) rfl (by show _ * 8 ≤ _; first | omega | (simp only [lens]; omega))
 have hcall1 := IndexP_q p i hr1 S.lend
 refine wlo 2 3 rfl rfl rfl (wo_cq rfl rfl rfl rfl rfl rfl rfl cf34 S (Cq.cast (by simp only [e1]) (hcall1)) ?_)
 rintro _ w1 S1 rfl; clear S
 refine wlm 3 4 rfl rfl rfl rfl rfl rfl rfl (wlm 4 5 rfl rfl rfl rfl rfl rfl rfl (wlo 5 6 rfl rfl rfl (wo_run rfl rfl (run_add rfl rfl rfl (by first | omega | (simp only [lens]; omega))) ?_)))
 obtain ⟨A2, c2, e2, hr2⟩ := S1.lendRd (i := 0) rfl (by show _ * 8 ≤ _; first | omega | (simp only [lens]; omega))
 have hcall2 := IndexP_q p (i + 1) hr2 S1.lend
 refine wlo 6 7 rfl rfl rfl (wo_cq rfl rfl rfl rfl rfl rfl rfl cf34 S1 (Cq.cast (by simp only [e2]) (hcall2)) ?_)
 rintro _ w2 S2 rfl; clear S1
 refine wla 7 8 rfl rfl rfl rfl rfl rfl rfl (wla 8 9 rfl rfl rfl rfl rfl rfl rfl (wl_end rfl (nmk [0, 4, 5] rfl (nm_thn ?_))))
 refine ws_draw rfl (by kernel_rfl) S2 16 rfl ?_
 clear S2
 refine wap 0 15 rfl (by kernel_rfl) rfl rfl rfl (fun w3 => run_move rfl rfl) ?_
 refine wap 1 14 rfl (by kernel_rfl) rfl rfl rfl (fun w4 => run_move rfl rfl) ?_
 refine wap 2 13 rfl (by kernel_rfl) rfl rfl rfl (fun w5 => run_move rfl rfl) ?_
 refine wap 3 12 rfl (by kernel_rfl) rfl rfl rfl (fun w6 => run_move rfl rfl) ?_
 refine wap 4 11 rfl (by kernel_rfl) rfl rfl rfl (fun w7 => run_move rfl rfl) ?_
 refine wap 5 10 rfl (by kernel_rfl) rfl rfl rfl (fun w8 => run_move rfl rfl) ?_
 refine wat 6 9 rfl (by kernel_rfl) rfl rfl rfl (fun M7 N7 w9 hle7 S9 => .inl (run_indexR (C := cdInt) (i := 0) ((idxF (fun x => decide (x = i + 1)) p).toNat) rfl rfl rfl sl38 S9.suf rfl (by first | rfl | omega) (by first | omega | (simp only [lens]; omega)))) ?_
 refine wat 7 8 rfl (by kernel_rfl) rfl rfl rfl (fun M8 N8 w10 hle8 S10 => .inl (run_load1 rfl rfl Try.underlying3 rfl (S10.suf.rowc (i := 0) (e := (idxF (fun x => decide (x = i + 1)) p).toNat) (j := 0) rfl (by first | omega | (simp only [lens]; omega)) rfl rfl))) ?_
 refine wap 8 7 rfl (by kernel_rfl) rfl rfl rfl (fun w11 => run_move rfl rfl) ?_
 refine wap 9 6 rfl (by kernel_rfl) rfl rfl rfl (fun w12 => run_move rfl rfl) ?_
 refine wat 10 5 rfl (by kernel_rfl) rfl rfl rfl (fun M11 N11 w13 hle11 S13 => .inl (run_indexR (C := cdInt) (i := 0) ((idxF (fun x => decide (x = i)) p).toNat) rfl rfl rfl sl38 S13.suf rfl (by first | rfl | omega) (by first | omega | (simp only [lens]; omega)))) ?_
 refine wat 11 4 rfl (by kernel_rfl) rfl rfl rfl (fun M12 N12 w14 hle12 S14 => .inl (run_load1 rfl rfl Try.underlying3 rfl (S14.suf.rowc (i := 0) (e := (idxF (fun x => decide (x = i)) p).toNat) (j := 0) rfl (by first | omega | (simp only [lens]; omega)) rfl rfl))) ?_
 refine wat 12 3 rfl (by kernel_rfl) rfl rfl rfl (fun M13 N13 w15 hle13 S15 => .inl (run_indexR (C := cdInt) (i := 0) ((idxF (fun x => decide (x = i)) p).toNat) rfl rfl rfl sl38 S15.suf rfl (by first | rfl | omega) (by first | omega | (simp only [lens]; omega)))) ?_
 refine wa_only (i := 13) 2 rfl (by kernel_rfl) rfl rfl (fun w17 S17 => ?_)
 refine (wo_storeR (C := cdInt) (i := 0) (e := (idxF (fun x => decide (x = i)) p).toNat) (j := 0) (us := [_]) (H' := [_]) (ga p ((idxF (fun x => decide (x = i + 1)) p).toNat)) rfl rfl S17 rfl (by first | omega | (simp only [lens]; omega)) rfl rfl rfl sz3 rfl rfl rfl rfl ?_)
 intro w18 S18; clear S17
 refine LeftW.turn (by kernel_rfl) S18 ?_; clear S18
 change WA _ _ _ _ _ _ _ _ _ _ _ _ [_]
 refine wat 14 1 rfl (by kernel_rfl) rfl rfl rfl (fun M15 N15 w19 hle15 S19 => .inl (run_indexR (C := cdInt) (i := 0) ((idxF (fun x => decide (x = i + 1)) p).toNat) rfl rfl rfl sl38 S19.suf rfl (by first | rfl | omega) (by first | omega | (simp only [lens]; omega)))) ?_
 refine wa_only (i := 15) 0 rfl (by kernel_rfl) rfl rfl (fun w21 S21 => ?_)
 refine (wo_storeR (C := cdInt) (i := 0) (e := (idxF (fun x => decide (x = i + 1)) p).toNat) (j := 0) (us := [_]) (H' := [_]) (ga p ((idxF (fun x => decide (x = i)) p).toNat)) rfl rfl S21 rfl (by first | omega | (simp only [lens]; omega)) rfl rfl rfl sz3 rfl rfl rfl rfl ?_)
 intro w22 S22; clear S21
 refine LeftW.turn (by kernel_rfl) S22 ?_; clear S22
 change WA _ _ _ _ _ _ _ _ _ _ _ _ [_]
 refine wa_end (by kernel_rfl) (fun w23 S23 => ?_)
 refine nm_end hC [] rfl trivial ?_
 exact ⟨_, rfl, _, _, Hp.le_refl _, S23.pick [0] [_] (by decide) ⟨rfl, trivial⟩, ⟨rfl, rfl, rfl⟩⟩
end Go.Proofs.Ytomcgmialkdcbaa
namespace Go.Proofs.Ytomcgmialkdcbaa
open Go.ChangeShapes Go.WideShapes Go.ChangeAt Go.RowKit
/-- What a letter does to the table. -/
def stepA (t : List (List Int)) (x : Int) : List (List Int) :=
 let i := (max x (-x) - 1).toNat
 if 0 < x then (t.set i (prodW [ga t i, ga t (i + 1), invW (ga t i)])).set (i + 1) (ga t i)
 else (t.set i (ga t (i + 1))).set (i + 1) (prodW [invW (ga t (i + 1)), ga t i, ga t (i + 1)])
def unitA (n : Nat) : List (List Int) := (List.range n).map (fun (i : Nat) => [(i : Int) + 1])
def actP (n : Nat) (w : List Int) : List (List Int) := w.foldl stepA (unitA n)
theorem actP_take (n : Nat) (w : List Int) (k : Nat) (h : k < w.length) : actP n (w.take (k + 1)) = stepA (actP n (w.take k)) (ga w k) := by
 unfold actP; rw [take_ga _ _ h, List.foldl_append]; rfl
/-- A table of small words, none longer than b. -/
def okA (n b : Nat) (t : List (List Int)) : Prop := t.length = n ∧ ∀ i, i < n → smW (ga t i) ∧ (ga t i).length ≤ b
theorem smW.glu_ {xs : List Int} (h : smW xs) {ys : List Int} (hy : smW ys) : smW (gluW xs ys) := by
 unfold gluW
 induction ys generalizing xs with
 | nil => exact h
 | cons y ys ih =>
  exact ih (h.push_ (hy 0 (by simp))) (fun i hi => hy (i + 1) (by simpa using hi))
theorem smW.nil_ : smW [] := fun i hi => by simp at hi
theorem smW.inv_ {xs : List Int} (h : smW xs) : smW (invW xs) := fun i hi => by
 rw [invW_len] at hi
 rw [invW_ga _ _ hi]
 have := h (xs.length - 1 - i) (by omega)
 omega
theorem prod3_sm {a b c : List Int} (ha : smW a) (hb : smW b) (hc : smW c) : smW (prodW [a, b, c]) := ((smW.nil_.glu_ ha).glu_ hb).glu_ hc
theorem prod3_len (a b c : List Int) : (prodW [a, b, c]).length ≤ a.length + b.length + c.length := by
 have := prodW_len [a, b, c]; simp [totW] at this; omega
theorem okA.unit (n : Nat) (hn : n ≤ 6) : okA n 1 (unitA n) := by
 refine ⟨by simp [unitA], fun i hi => ?_⟩
 have e : ga (unitA n) i = [(i : Int) + 1] := by rw [ga_eq (by simpa [unitA] using hi)]; simp [unitA]
 rw [e]
 exact ⟨fun j hj => by (simp at hj; subst hj; show -100 < (i : Int) + 1 ∧ (i : Int) + 1 < 100; omega), by simp⟩
theorem okA.step {n b : Nat} {t : List (List Int)} (h : okA n b t) {x : Int} (hx : 1 ≤ max x (-x) ∧ max x (-x) < n) : okA n (b * 3) (stepA t x) := by
 obtain ⟨hl, ht⟩ := h
 have hi : (max x (-x) - 1).toNat + 1 < n := by omega
 have t1 := ht _ (show (max x (-x) - 1).toNat < n by omega)
 have t2 := ht _ hi
 refine ⟨by unfold stepA; dsimp only; split <;> simp [hl], fun j hj => ?_⟩
 have tj := ht j hj
 unfold stepA
 dsimp only
 split
 ·rw [ga_set _ _ _ _ (by simp; omega)]
  split
  ·exact ⟨t1.1, by omega⟩
  ·rw [ga_set _ _ _ _ (by omega)]
   split
   ·have := prod3_len (ga t (max x (-x) - 1).toNat) (ga t ((max x (-x) - 1).toNat + 1)) (invW (ga t (max x (-x) - 1).toNat))
    rw [invW_len] at this
    exact ⟨prod3_sm t1.1 t2.1 t1.1.inv_, by omega⟩
   ·exact ⟨tj.1, by omega⟩
 ·rw [ga_set _ _ _ _ (by simp; omega)]
  split
  ·have := prod3_len (invW (ga t ((max x (-x) - 1).toNat + 1))) (ga t (max x (-x) - 1).toNat) (ga t ((max x (-x) - 1).toNat + 1))
   rw [invW_len] at this
   exact ⟨prod3_sm t2.1.inv_ t1.1 t2.1, by omega⟩
  ·rw [ga_set _ _ _ _ (by omega)]
   split
   ·exact ⟨t2.1, by omega⟩
   ·exact ⟨tj.1, by omega⟩
end Go.Proofs.Ytomcgmialkdcbaa
namespace Go.Proofs.Ytomcgmialkdcbaa
open Go.ChangeShapes Go.WideShapes Go.ChangeAt Go.RowKit
/-- No two neighbours cancel. -/
def redW (xs : List Int) : Prop := ∀ i, i + 1 < xs.length → ga xs (i + 1) ≠ - ga xs i
theorem redW.push_ {xs : List Int} (h : redW xs) (a : Int) : redW (pushW xs a) := by
 unfold pushW
 split
 ·intro i hi
  rw [List.length_take] at hi
  rw [ga_take _ _ _ (by omega), ga_take _ _ _ (by omega)]; exact h i (by omega)
 ·rename_i hc
  intro i hi
  rw [List.length_append, List.length_singleton] at hi
  by_cases h1 : i + 1 < xs.length
  ·rw [ga_append_left _ _ _ h1, ga_append_left _ _ _ (by omega)]; exact h i h1
  ·rw [ga_append_right _ _ _ (by omega), ga_append_left _ _ _ (by omega), show i + 1 - xs.length = 0 by omega]
   intro e
   have e2 : a = - ga xs i := e
   exact hc ⟨by omega, by rw [show xs.length - 1 = i by omega]; omega⟩
theorem redW.glu_ {xs : List Int} (h : redW xs) (ys : List Int) : redW (gluW xs ys) := by
 unfold gluW
 induction ys generalizing xs with
 | nil => exact h
 | cons y ys ih => exact ih (h.push_ y)
theorem redW.nil_ : redW [] := fun i hi => by simp at hi
theorem redW.inv_ {xs : List Int} (h : redW xs) : redW (invW xs) := fun i hi => by
 rw [invW_len] at hi
 rw [invW_ga _ _ hi, invW_ga _ _ (by omega)]
 have := h (xs.length - 1 - (i + 1)) (by omega)
 rw [show xs.length - 1 - (i + 1) + 1 = xs.length - 1 - i by omega] at this
 omega
theorem redW.self {xs : List Int} (h : redW xs) : gluW [] xs = xs := by
 have key : ∀ k, k ≤ xs.length → gluW [] (xs.take k) = xs.take k := by
  intro k
  induction k with
  | zero => intro _; rfl
  | succ k ih =>
   intro hk
   rw [gluW_take _ _ _ (by omega), ih (by omega), take_ga _ _ (by omega)]
   unfold pushW
   rw [if_neg]
   rintro ⟨h1, h2⟩
   rw [List.length_take] at h1 h2
   rw [ga_take _ _ _ (by omega), show min k xs.length - 1 = k - 1 by omega] at h2
   have := h (k - 1) (by omega)
   rw [show k - 1 + 1 = k by omega] at this
   omega
 have := key xs.length (Nat.le_refl _)
 rwa [List.take_length] at this
theorem prod3_red {a b c : List Int} (h : redW a) : prodW [a, b, c] = gluW (gluW a b) c := by
 show gluW (gluW (gluW [] a) b) c = _
 rw [h.self]
/-- A table of words without neighbours that cancel. -/
def redA (n : Nat) (t : List (List Int)) : Prop := ∀ i, i < n → redW (ga t i)
theorem redA.unit (n : Nat) : redA n (unitA n) := fun i hi => by
 have e : ga (unitA n) i = [(i : Int) + 1] := by rw [ga_eq (by simpa [unitA] using hi)]; simp [unitA]
 rw [e]
 intro j hj; simp at hj
theorem redA.step {n : Nat} {t : List (List Int)} (hl : t.length = n) (h : redA n t) {x : Int} (hx : 1 ≤ max x (-x) ∧ max x (-x) < n) : redA n (stepA t x) := by
 have hi : (max x (-x) - 1).toNat + 1 < n := by omega
 have t1 := h _ (show (max x (-x) - 1).toNat < n by omega)
 have t2 := h _ hi
 intro j hj
 have tj := h j hj
 unfold stepA
 dsimp only
 split
 ·rw [ga_set _ _ _ _ (by simp; omega)]
  split
  ·exact t1
  ·rw [ga_set _ _ _ _ (by omega)]
   split
   ·exact redW.glu_ (redW.glu_ (redW.nil_.glu_ _) _) _
   ·exact tj
 ·rw [ga_set _ _ _ _ (by simp; omega)]
  split
  ·exact redW.glu_ (redW.glu_ (redW.nil_.glu_ _) _) _
  ·rw [ga_set _ _ _ _ (by omega)]
   split
   ·exact t2
   ·exact tj
theorem unitA_take (n : Nat) (k : Nat) (h : k < n) : (unitA n).take k ++ [[(k : Int) + 1]] = (unitA n).take (k + 1) := by
 rw [take_ga _ _ (by simpa [unitA] using h)]
 congr 2
 rw [ga_eq (by simpa [unitA] using h)]; simp [unitA]
theorem stepA_p {t : List (List Int)} {x : Int} (h : redW (ga t (max x (-x) - 1).toNat)) (hx : 0 < x) : (t.set (max x (-x) - 1).toNat (gluW (gluW (ga t (max x (-x) - 1).toNat) (ga t ((max x (-x) - 1).toNat + 1))) (invW (ga t (max x (-x) - 1).toNat)))).set ((max x (-x) - 1).toNat + 1) (ga t (max x (-x) - 1).toNat) = stepA t x := by
 unfold stepA; dsimp only; rw [if_pos hx, prod3_red h]
theorem stepA_n {t : List (List Int)} {x : Int} (h : redW (invW (ga t ((max x (-x) - 1).toNat + 1)))) (hx : ¬ 0 < x) : (t.set (max x (-x) - 1).toNat (ga t ((max x (-x) - 1).toNat + 1))).set ((max x (-x) - 1).toNat + 1) (gluW (gluW (invW (ga t ((max x (-x) - 1).toNat + 1))) (ga t (max x (-x) - 1).toNat)) (ga t ((max x (-x) - 1).toNat + 1))) = stepA t x := by
 unfold stepA; dsimp only; rw [if_neg hx, prod3_red h]
def TabA (xss : List (List Int)) (u : Value) (M : Hp) : Prop := ∃ A c vs, u = .slice A vs.length c ∧ RdA (cdV 22) M A c vs ∧ Rd2 cdInt M vs xss
end Go.Proofs.Ytomcgmialkdcbaa
namespace Go.Proofs.Ytomcgmialkdcbaa
open Go.RowKit
theorem snoc_cases {α : Type} (xs : List α) : xs = [] ∨ ∃ ys b, xs = ys ++ [b] := by
  by_cases h : xs = []
  · exact .inl h
  · exact .inr ⟨xs.dropLast, xs.getLast h, (List.dropLast_concat_getLast h).symm⟩
theorem pushW_nil (a : Int) : pushW [] a = [a] := rfl
theorem pushW_snoc (ys : List Int) (b a : Int) : pushW (ys ++ [b]) a = if b = -a then ys else ys ++ [b] ++ [a] := by
  unfold pushW
  have e : ga (ys ++ [b]) ((ys ++ [b]).length - 1) = b := by
    rw [List.length_append, List.length_singleton, Nat.add_sub_cancel, ga_append_right _ _ _ (Nat.le_refl _), Nat.sub_self]; rfl
  rw [e]
  by_cases h : b = -a
  · rw [if_pos ⟨by simp, h⟩, if_pos h, List.length_append, List.length_singleton, Nat.add_sub_cancel, List.take_left']
    rfl
  · rw [if_neg (fun h' => h h'.2), if_neg h]
theorem redW.two {ys : List Int} {b c : Int} (h : redW (ys ++ [b] ++ [c])) : c ≠ -b := by
  have := h ys.length (by simp)
  rw [ga_append_right _ _ _ (by simp), ga_append_left _ _ _ (by simp), ga_append_right _ _ _ (Nat.le_refl _)] at this
  simpa [ga] using this
theorem push_push {xs : List Int} (h : redW xs) (a : Int) : pushW (pushW xs a) (-a) = xs := by
  rcases snoc_cases xs with rfl | ⟨ys, b, rfl⟩
  · have := pushW_snoc [] a (-a)
    rw [pushW_nil]
    simpa using this
  · rw [pushW_snoc]
    split
    · rename_i hb
      rcases snoc_cases ys with rfl | ⟨zs, c, rfl⟩
      · rw [pushW_nil, hb]; rfl
      · have := h.two
        rw [pushW_snoc, if_neg (by omega), hb]
    · rw [pushW_snoc, if_pos (by omega)]
theorem gluW_snoc (xs ys : List Int) (b : Int) : gluW xs (ys ++ [b]) = pushW (gluW xs ys) b := by unfold gluW; rw [List.foldl_append]; rfl
theorem glu_push {xs ys : List Int} (hx : redW xs) (a : Int) : gluW xs (pushW ys a) = pushW (gluW xs ys) a := by
  rcases snoc_cases ys with rfl | ⟨zs, b, rfl⟩
  · rfl
  · rw [pushW_snoc]
    split
    · rename_i hb
      have := push_push (hx.glu_ zs) b
      rw [gluW_snoc, show a = -b by omega, this]
    · rw [gluW_snoc]
theorem glu_assoc {xs : List Int} (hx : redW xs) : ∀ {ys zs : List Int}, gluW (gluW xs ys) zs = gluW xs (gluW ys zs)
  | ys, [] => rfl
  | ys, z :: zs => by
    show gluW (pushW (gluW xs ys) z) zs = gluW xs (gluW (pushW ys z) zs)
    rw [← glu_push hx, glu_assoc hx]
theorem invW_snoc (ys : List Int) (b : Int) : invW (ys ++ [b]) = -b :: invW ys := by unfold invW; simp
theorem invW_inv (xs : List Int) : invW (invW xs) = xs := by
  unfold invW
  rw [← List.map_reverse, List.reverse_reverse, List.map_map]
  have e : ((fun x : Int => -x) ∘ fun x : Int => -x) = id := by funext x; simp
  rw [e, List.map_id]
theorem glu_inv : ∀ (n : Nat) (xs : List Int), xs.length = n → gluW xs (invW xs) = []
  | 0, xs, h => by rw [List.eq_nil_of_length_eq_zero h]; rfl
  | n + 1, xs, h => by
    rcases snoc_cases xs with rfl | ⟨ys, b, rfl⟩
    · cases h
    · rw [invW_snoc]
      show gluW (pushW (ys ++ [b]) (-b)) (invW ys) = []
      rw [pushW_snoc, if_pos (by omega)]
      exact glu_inv n ys (by simpa using h)
def Wd := {xs : List Int // redW xs}
namespace Wd
def one : Wd := ⟨[], redW.nil_⟩
def mul (x y : Wd) : Wd := ⟨gluW x.1 y.1, x.2.glu_ y.1⟩
def inv (x : Wd) : Wd := ⟨invW x.1, x.2.inv_⟩
instance : Inhabited Wd := ⟨one⟩
instance : Mul Wd := ⟨mul⟩
theorem ext {x y : Wd} (h : x.1 = y.1) : x = y := Subtype.ext h
theorem assoc (x y z : Wd) : x * y * z = x * (y * z) := ext (glu_assoc x.2)
theorem one_mul (x : Wd) : one * x = x := ext x.2.self
theorem mul_one (x : Wd) : x * one = x := rfl
theorem mul_inv (x : Wd) : x * inv x = one := ext (glu_inv _ _ rfl)
theorem inv_inv (x : Wd) : inv (inv x) = x := ext (invW_inv _)
theorem inv_mul (x : Wd) : inv x * x = one := by have := mul_inv (inv x); rwa [inv_inv] at this
theorem inv_mul_c (x y : Wd) : inv x * (x * y) = y := by rw [← assoc, inv_mul, one_mul]
theorem mul_inv_c (x y : Wd) : x * (inv x * y) = y := by rw [← assoc, mul_inv, one_mul]
theorem inv_one : inv one = one := rfl
theorem inv_of {x y : Wd} (h : x * y = one) : inv x = y := by have := inv_mul_c x y; rw [h, mul_one] at this; exact this
theorem mul_inv_rev (x y : Wd) : inv (x * y) = inv y * inv x := inv_of (by rw [assoc, mul_inv_c, mul_inv])
theorem len_mul (x y : Wd) : (x * y).1.length ≤ x.1.length + y.1.length := gluW_len _ _
theorem len_inv (x : Wd) : (inv x).1.length = x.1.length := invW_len _
end Wd
open Wd
def stT (T : Nat → Wd) (i : Nat) : Nat → Wd := fun j => if j = i then T i * T (i + 1) * inv (T i) else if j = i + 1 then T i else T j
def stI (T : Nat → Wd) (i : Nat) : Nat → Wd := fun j => if j = i then T (i + 1) else if j = i + 1 then inv (T (i + 1)) * T i * T (i + 1) else T j
theorem stT_i (T : Nat → Wd) (i : Nat) : stT T i i = T i * T (i + 1) * inv (T i) := by unfold stT; rw [if_pos rfl]
theorem stT_s (T : Nat → Wd) (i : Nat) : stT T i (i + 1) = T i := by unfold stT; rw [if_neg (by omega), if_pos rfl]
theorem stT_j (T : Nat → Wd) {i j : Nat} (h : j ≠ i) (h2 : j ≠ i + 1) : stT T i j = T j := by unfold stT; rw [if_neg h, if_neg h2]
theorem stI_i (T : Nat → Wd) (i : Nat) : stI T i i = T (i + 1) := by unfold stI; rw [if_pos rfl]
theorem stI_s (T : Nat → Wd) (i : Nat) : stI T i (i + 1) = inv (T (i + 1)) * T i * T (i + 1) := by unfold stI; rw [if_neg (by omega), if_pos rfl]
theorem stI_j (T : Nat → Wd) {i j : Nat} (h : j ≠ i) (h2 : j ≠ i + 1) : stI T i j = T j := by unfold stI; rw [if_neg h, if_neg h2]
theorem stI_stT (T : Nat → Wd) (i : Nat) : stI (stT T i) i = T := by
  funext j
  by_cases h : j = i
  · subst h; rw [stI_i, stT_s]
  · by_cases h2 : j = i + 1
    · subst h2
      rw [stI_s, stT_s, stT_i]
      simp only [assoc, inv_mul_c, mul_inv_c, inv_mul, mul_one]
    · rw [stI_j _ h h2, stT_j _ h h2]
theorem stT_stI (T : Nat → Wd) (i : Nat) : stT (stI T i) i = T := by
  funext j
  by_cases h : j = i
  · subst h
    rw [stT_i, stI_i, stI_s]
    simp only [assoc, inv_mul_c, mul_inv_c, mul_inv, mul_one]
  · by_cases h2 : j = i + 1
    · subst h2; rw [stT_s, stI_i]
    · rw [stT_j _ h h2, stI_j _ h h2]
/-- The product of those of T j that P has, from a on. -/
def pr (T : Nat → Wd) (P : Nat → Bool) : Nat → Nat → Wd
  | _, 0 => one
  | a, m + 1 => (if P a then T a else one) * pr T P (a + 1) m
theorem pr_add (T : Nat → Wd) (P : Nat → Bool) : ∀ (m a k : Nat), pr T P a (m + k) = pr T P a m * pr T P (a + m) k
  | 0, a, k => by rw [Nat.zero_add, pr, one_mul, Nat.add_zero]
  | m + 1, a, k => by
    rw [show m + 1 + k = (m + k) + 1 by omega, pr, pr, pr_add T P m (a + 1) k, assoc, show a + (m + 1) = a + 1 + m by omega]
theorem pr_cong {T U : Nat → Wd} {P Q : Nat → Bool} : ∀ {m a : Nat}, (∀ j, a ≤ j → j < a + m → (if P j then T j else one) = if Q j then U j else one) → pr T P a m = pr U Q a m
  | 0, a, _ => rfl
  | m + 1, a, h => by rw [pr, pr, h a (Nat.le_refl _) (by omega), pr_cong (m := m) (a := a + 1) fun j h1 h2 => h j (by omega) (by omega)]
theorem pr_one {T : Nat → Wd} {P : Nat → Bool} : ∀ {m a : Nat}, (∀ j, a ≤ j → j < a + m → P j = false) → pr T P a m = one
  | 0, a, _ => rfl
  | m + 1, a, h => by rw [pr, h a (Nat.le_refl _) (by omega), pr_one (m := m) (a := a + 1) fun j h1 h2 => h j (by omega) (by omega)]; exact one_mul _
theorem pr_at {T U : Nat → Wd} {p q : Nat → Nat} {k k' m a : Nat} (h : ∀ j, a ≤ j → j < a + m → (k < p j ↔ k' < q j) ∧ T j = U j) : pr T (fun j => decide (k < p j)) a m = pr U (fun j => decide (k' < q j)) a m := pr_cong fun j h1 h2 => by
  obtain ⟨e1, e2⟩ := h j h1 h2
  show (if decide (k < p j) = true then T j else one) = if decide (k' < q j) = true then U j else one
  rw [e2, decide_eq_decide.2 e1]
/-- The strands that end behind k. -/
def sK (n : Nat) (p : Nat → Nat) (T : Nat → Wd) (k : Nat) : Wd := pr T (fun j => decide (k < p j)) 1 n
def acT (n : Nat) (p : Nat → Nat) (T : Nat → Wd) : Nat → Wd := fun k => if 1 ≤ k ∧ k ≤ n then sK n p T (k - 1) * inv (sK n p T k) else T k
/-- p is a permutation of 1..n. -/
structure Pm (n : Nat) (p : Nat → Nat) : Prop where
  rg : ∀ j, 1 ≤ j → j ≤ n → 1 ≤ p j ∧ p j ≤ n
  ij : ∀ i j, 1 ≤ i → i ≤ n → 1 ≤ j → j ≤ n → p i = p j → i = j
theorem sK_n {n : Nat} {p : Nat → Nat} (h : Pm n p) (T : Nat → Wd) : sK n p T n = one := pr_one fun j h1 h2 => decide_eq_false (by have := h.rg j h1 (by omega); omega)
/-- Products behind a place. -/
def suf (n : Nat) (T : Nat → Wd) (k : Nat) : Wd := pr T (fun _ => true) (k + 1) (n - k)
theorem suf_step {n k : Nat} (h : k < n) (T : Nat → Wd) : suf n T k = T (k + 1) * suf n T (k + 1) := by
  unfold suf
  rw [show n - k = (n - (k + 1)) + 1 by omega, pr, if_pos rfl]
theorem suf_n (n : Nat) (T : Nat → Wd) : suf n T n = one := by unfold suf; rw [Nat.sub_self]; rfl
theorem suf_acT {n : Nat} {p : Nat → Nat} (h : Pm n p) (T : Nat → Wd) : ∀ {m k : Nat}, k + m = n → suf n (acT n p T) k = sK n p T k
  | 0, k, e => by rw [show k = n by omega, suf_n, sK_n h]
  | m + 1, k, e => by
    rw [suf_step (by omega), suf_acT h T (m := m) (k := k + 1) (by omega)]
    unfold acT
    rw [if_pos (by omega), Nat.add_sub_cancel, assoc, inv_mul, mul_one]
theorem suf_tab {n k : Nat} (h1 : 1 ≤ k) (h2 : k ≤ n) (T : Nat → Wd) : T k = suf n T (k - 1) * inv (suf n T k) := by
  rw [suf_step (by omega), show k - 1 + 1 = k by omega, assoc, mul_inv, mul_one]
/-- Tables that agree at 1..n. -/
def EqT (n : Nat) (T U : Nat → Wd) : Prop := ∀ k, 1 ≤ k → k ≤ n → T k = U k
theorem EqT.refl (n : Nat) (T : Nat → Wd) : EqT n T T := fun _ _ _ => rfl
theorem EqT.symm {n : Nat} {T U : Nat → Wd} (h : EqT n T U) : EqT n U T := fun k h1 h2 => (h k h1 h2).symm
theorem EqT.trans {n : Nat} {T U V : Nat → Wd} (h : EqT n T U) (k : EqT n U V) : EqT n T V := fun j h1 h2 => (h j h1 h2).trans (k j h1 h2)
theorem EqT.of_suf {n : Nat} {T U : Nat → Wd} (h : ∀ k, k ≤ n → suf n T k = suf n U k) : EqT n T U := fun k h1 h2 => by
  rw [suf_tab h1 h2 T, suf_tab h1 h2 U, h _ (by omega), h _ h2]
theorem EqT.suf_ {n : Nat} {T U : Nat → Wd} (h : EqT n T U) (k : Nat) : suf n T k = suf n U k := pr_cong fun j h1 h2 => by rw [h j (by omega) (by omega)]
theorem EqT.stT_ {n i : Nat} {T U : Nat → Wd} (h : EqT n T U) (h1 : 1 ≤ i) (h2 : i < n) : EqT n (stT T i) (stT U i) := fun k k1 k2 => by
  unfold stT; rw [h i h1 (by omega), h (i + 1) (by omega) (by omega), h k k1 k2]
theorem EqT.stI_ {n i : Nat} {T U : Nat → Wd} (h : EqT n T U) (h1 : 1 ≤ i) (h2 : i < n) : EqT n (stI T i) (stI U i) := fun k k1 k2 => by
  unfold stI; rw [h i h1 (by omega), h (i + 1) (by omega) (by omega), h k k1 k2]
theorem EqT.acT_ {n : Nat} {p : Nat → Nat} {T U : Nat → Wd} (h : EqT n T U) : EqT n (acT n p T) (acT n p U) := fun k k1 k2 => by
  have e : ∀ k, sK n p T k = sK n p U k := fun k => pr_cong fun j h1 h2 => by rw [h j (by omega) (by omega)]
  unfold acT
  rw [e, e, h k k1 k2]
theorem acT_cong {n : Nat} {p q : Nat → Nat} (h : ∀ j, 1 ≤ j → j ≤ n → p j = q j) (T : Nat → Wd) : EqT n (acT n p T) (acT n q T) := fun k _ _ => by
  have e : ∀ k, sK n p T k = sK n q T k := fun k => pr_cong fun j h1 h2 => by rw [h j (by omega) (by omega)]
  unfold acT
  rw [e, e]
/-- The permutation that changes nothing. -/
theorem acT_id (n : Nat) (T : Nat → Wd) : EqT n (acT n id T) T := by
  have h : Pm n id := ⟨fun j h1 h2 => ⟨h1, h2⟩, fun i j _ _ _ _ e => e⟩
  refine EqT.of_suf fun k hk => ?_
  rw [suf_acT h T (m := n - k) (by omega)]
  unfold sK suf
  have e := pr_add T (fun j => decide (k < id j)) k 1 (n - k)
  rw [show k + (n - k) = n by omega] at e
  rw [e, pr_one (m := k) (fun j h1 h2 => decide_eq_false (by show ¬ k < j; omega)), one_mul, Nat.add_comm 1 k]
  exact pr_cong fun j h1 h2 => by rw [if_pos (decide_eq_true (show k < id j by show k < j; omega)), if_pos rfl]
/-- Two strands change places at the start. -/
theorem acT_first {n i : Nat} {p q : Nat → Nat} (h1 : 1 ≤ i) (h2 : i < n) (hd : p (i + 1) < p i) (hq : ∀ j, q j = if j = i then p (i + 1) else if j = i + 1 then p i else p j) (T : Nat → Wd) : EqT n (acT n q (stT T i)) (acT n p T) := fun k k1 k2 => by
  have e : ∀ k, sK n q (stT T i) k = sK n p T k := fun k => by
    have sp : ∀ (U : Nat → Wd) (P : Nat → Bool), pr U P 1 n = pr U P 1 (i - 1) * ((if P i then U i else one) * ((if P (i + 1) then U (i + 1) else one) * pr U P (i + 2) (n - (i + 1)))) := fun U P => by
      have e1 := pr_add U P (i - 1) 1 (n - (i - 1))
      rw [show i - 1 + (n - (i - 1)) = n by omega, show 1 + (i - 1) = i by omega, show n - (i - 1) = (n - (i + 1)) + 1 + 1 by omega] at e1
      rw [e1, pr, pr]
    unfold sK
    rw [sp, sp]
    have qj : ∀ j, j ≠ i → j ≠ i + 1 → q j = p j := fun j x y => by rw [hq, if_neg x, if_neg y]
    have tj : ∀ j, j ≠ i → j ≠ i + 1 → stT T i j = T j := fun j x y => by unfold stT; rw [if_neg x, if_neg y]
    have a1 : pr (stT T i) (fun j => decide (k < q j)) 1 (i - 1) = pr T (fun j => decide (k < p j)) 1 (i - 1) := pr_at fun j j1 j2 => ⟨by rw [qj j (by omega) (by omega)], tj j (by omega) (by omega)⟩
    have a2 : pr (stT T i) (fun j => decide (k < q j)) (i + 2) (n - (i + 1)) = pr T (fun j => decide (k < p j)) (i + 2) (n - (i + 1)) := pr_at fun j j1 j2 => ⟨by rw [qj j (by omega) (by omega)], tj j (by omega) (by omega)⟩
    have q1 : q i = p (i + 1) := by rw [hq, if_pos rfl]
    have q2 : q (i + 1) = p i := by rw [hq, if_neg (by omega), if_pos rfl]
    rw [a1, a2, q1, q2, stT_i, stT_s]
    refine congrArg _ ?_
    by_cases c1 : k < p (i + 1)
    · have c2 : k < p i := by omega
      simp only [c1, c2, decide_true, if_true, assoc, inv_mul_c]
    · by_cases c2 : k < p i
      · simp only [c1, c2, decide_true, decide_false, if_true, Bool.false_eq_true, if_false, one_mul]
      · simp only [c1, c2, decide_false, Bool.false_eq_true, if_false, one_mul]
  unfold acT
  rw [if_pos ⟨k1, k2⟩, if_pos ⟨k1, k2⟩, e, e]
/-- Two strands change places at the end. -/
theorem acT_then {n i a b : Nat} {p q : Nat → Nat} (h : Pm n p) (ha : 1 ≤ a) (hab : a < b) (hb : b ≤ n) (pa : p a = i) (pb : p b = i + 1) (hq : ∀ j, q j = if j = a then i + 1 else if j = b then i else p j) (T : Nat → Wd) : EqT n (acT n q T) (stT (acT n p T) i) := by
  have hi := h.rg a ha (by omega)
  have hi2 := h.rg b (by omega) hb
  rw [pa] at hi
  rw [pb] at hi2
  have ne : ∀ j, 1 ≤ j → j ≤ n → j ≠ a → j ≠ b → p j ≠ i ∧ p j ≠ i + 1 := fun j j1 j2 ja jb => ⟨fun e => ja (h.ij j a j1 j2 ha (by omega) (by rw [e, pa])), fun e => jb (h.ij j b j1 j2 (by omega) hb (by rw [e, pb]))⟩
  -- elsewhere nothing changes
  have qa : q a = i + 1 := by rw [hq, if_pos rfl]
  have qb : q b = i := by rw [hq, if_neg (by omega), if_pos rfl]
  have qj : ∀ j, j ≠ a → j ≠ b → q j = p j := fun j x y => by rw [hq, if_neg x, if_neg y]
  have far : ∀ k, k ≠ i → sK n q T k = sK n p T k := fun k hk => pr_at fun j j1 j2 => ⟨by
    by_cases ja : j = a
    · subst ja; omega
    · by_cases jb : j = b
      · subst jb; omega
      · rw [qj j ja jb], rfl⟩
  have sp : ∀ (P : Nat → Bool), pr T P 1 n = pr T P 1 (a - 1) * ((if P a then T a else one) * (pr T P (a + 1) (b - a - 1) * ((if P b then T b else one) * pr T P (b + 1) (n - b)))) := fun P => by
    have e1 := pr_add T P (a - 1) 1 (n - (a - 1))
    rw [show a - 1 + (n - (a - 1)) = n by omega, show 1 + (a - 1) = a by omega, show n - (a - 1) = (n - a) + 1 by omega, pr] at e1
    have e2 := pr_add T P (b - a - 1) (a + 1) (n - b + 1)
    rw [show b - a - 1 + (n - b + 1) = n - a by omega, show a + 1 + (b - a - 1) = b by omega, pr] at e2
    rw [e1, e2]
  -- the same parts for i-1, i, i+1
  have part : ∀ (k m u : Nat), (k = i - 1 ∨ k = i ∨ k = i + 1) → 1 ≤ u → (∀ j, u ≤ j → j < u + m → j ≤ n ∧ j ≠ a ∧ j ≠ b) → pr T (fun j => decide (k < p j)) u m = pr T (fun j => decide (i + 1 < p j)) u m := fun k m u hk hu hj => pr_at fun j j1 j2 => by
    obtain ⟨x1, x2, x3⟩ := hj j j1 j2
    obtain ⟨y1, y2⟩ := ne j (by omega) x1 x2 x3
    exact ⟨by omega, rfl⟩
  have partq : ∀ (m u : Nat), 1 ≤ u → (∀ j, u ≤ j → j < u + m → j ≤ n ∧ j ≠ a ∧ j ≠ b) → pr T (fun j => decide (i < q j)) u m = pr T (fun j => decide (i + 1 < p j)) u m := fun m u hu hj => pr_at fun j j1 j2 => by
    obtain ⟨x1, x2, x3⟩ := hj j j1 j2
    obtain ⟨y1, y2⟩ := ne j (by omega) x1 x2 x3
    rw [qj j x2 x3]
    exact ⟨by omega, rfl⟩
  obtain ⟨X, hX⟩ : ∃ X, pr T (fun j => decide (i + 1 < p j)) 1 (a - 1) = X := ⟨_, rfl⟩
  obtain ⟨Y, hY⟩ : ∃ Y, pr T (fun j => decide (i + 1 < p j)) (a + 1) (b - a - 1) = Y := ⟨_, rfl⟩
  obtain ⟨Z, hZ⟩ : ∃ Z, pr T (fun j => decide (i + 1 < p j)) (b + 1) (n - b) = Z := ⟨_, rfl⟩
  have r1 : ∀ j, 1 ≤ j → j < 1 + (a - 1) → j ≤ n ∧ j ≠ a ∧ j ≠ b := fun j _ _ => by omega
  have r2 : ∀ j, a + 1 ≤ j → j < a + 1 + (b - a - 1) → j ≤ n ∧ j ≠ a ∧ j ≠ b := fun j _ _ => by omega
  have r3 : ∀ j, b + 1 ≤ j → j < b + 1 + (n - b) → j ≤ n ∧ j ≠ a ∧ j ≠ b := fun j _ _ => by omega
  have s0 : sK n p T (i - 1) = X * (T a * (Y * (T b * Z))) := by
    unfold sK
    rw [sp, part _ _ _ (.inl rfl) (Nat.le_refl _) r1, part _ _ _ (.inl rfl) (by omega) r2, part _ _ _ (.inl rfl) (by omega) r3, hX, hY, hZ, pa, pb, if_pos (decide_eq_true (by omega)), if_pos (decide_eq_true (by omega))]
  have s1 : sK n p T i = X * (Y * (T b * Z)) := by
    unfold sK
    rw [sp, part _ _ _ (.inr (.inl rfl)) (Nat.le_refl _) r1, part _ _ _ (.inr (.inl rfl)) (by omega) r2, part _ _ _ (.inr (.inl rfl)) (by omega) r3, hX, hY, hZ, pa, pb, if_neg (by simp), if_pos (decide_eq_true (by omega)), one_mul]
  have s2 : sK n p T (i + 1) = X * (Y * Z) := by
    unfold sK
    rw [sp, hX, hY, hZ, pa, pb, if_neg (by simp), if_neg (by simp), one_mul, one_mul]
  have t1 : sK n q T i = X * (T a * (Y * Z)) := by
    unfold sK
    rw [sp, partq _ _ (Nat.le_refl _) r1, partq _ _ (by omega) r2, partq _ _ (by omega) r3, hX, hY, hZ, qa, qb, if_pos (decide_eq_true (by omega)), if_neg (by simp), one_mul]
  intro k k1 k2
  have ac : ∀ (r : Nat → Nat) k, 1 ≤ k → k ≤ n → acT n r T k = sK n r T (k - 1) * inv (sK n r T k) := fun r k x y => by unfold acT; rw [if_pos ⟨x, y⟩]
  by_cases e1 : k = i
  · subst e1
    rw [stT_i, ac q k k1 k2, ac p k k1 k2, ac p (k + 1) (by omega) (by omega), Nat.add_sub_cancel, far _ (by omega), t1, s0, s1, s2]
    simp only [mul_inv_rev, inv_inv, assoc, inv_mul_c, mul_inv_c, mul_inv, inv_mul, mul_one]
  · by_cases e2 : k = i + 1
    · subst e2
      rw [stT_s, ac q _ k1 k2, ac p i (by omega) (by omega), Nat.add_sub_cancel, far (i + 1) (by omega), t1, s0, s1, s2]
      simp only [mul_inv_rev, inv_inv, assoc, inv_mul_c, mul_inv_c, mul_inv, inv_mul, mul_one]
    · rw [stT_j _ e1 e2, ac q k k1 k2, ac p k k1 k2, far _ (by omega), far _ e1]
end Go.Proofs.Ytomcgmialkdcbaa
