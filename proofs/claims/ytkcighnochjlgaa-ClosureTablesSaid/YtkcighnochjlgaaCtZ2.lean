/- Part 2 of the proof of the law ClosureTables: the walks through its functions and the plain laws that they need. -/
import Derived.Test.YtkcighnochjlgaaCtZ1
import Derived.Laws.Cover3
import Derived.Laws.Pointers
import Derived.Laws.StructEq
import Derived.MapKept
import Derived.Carry
import Derived.Sort.OwnSortedInts
import Derived.Shelf.Sort.Plain
import Derived.Shelf.Slices.In.SortNone
import Derived.Maps.RangeRun
import Derived.Shelf.SlMaps.Clone
set_option linter.unusedSimpArgs false
set_option linter.unusedVariables false
namespace Go.Proofs.Ytkcighnochjlgaa
open Go.ChangeShapes Go.WideShapes Go.ChangeAt Go.RowKit
theorem ce3 : Nat.blt 0 (Try.prog.cellsOf 3) = true := by kernel_rfl
theorem nf3 : ∃ i, Try.prog.info? 3 = some i := Option.isSome_iff_exists.1 (by kernel_rfl)
theorem zr3 : (Try.prog.info? 3).map (·.zero) = some (some (.int .i64 0)) := by kernel_rfl
theorem sz22 : (Try.prog.info? 22).map (·.size) = some 1 := by kernel_rfl
theorem sz36 : (Try.prog.info? 36).map (·.size) = some 1 := by kernel_rfl
theorem sz84 : (Try.prog.info? 84).map (·.size) = some 1 := by kernel_rfl
theorem sz86 : (Try.prog.info? 86).map (·.size) = some 2 := by kernel_rfl
theorem st86 : StOf Try.prog 86 [(0, 1), (1, 1)] [.int .i64 0, .int .i64 0] := ⟨_, Try.underlying86, by kernel_rfl, ⟨⟨rfl, by kernel_rfl⟩, ⟨rfl, by kernel_rfl⟩, trivial⟩⟩
theorem sz91 : (Try.prog.info? 91).map (·.size) = some 1 := by kernel_rfl
theorem sz92 : (Try.prog.info? 92).map (·.size) = some 2 := by kernel_rfl
theorem zr92 : (Try.prog.info? 92).map (·.zero) = some (some (.agg [.map none, .map none].toArray)) := by kernel_rfl
theorem sz93 : (Try.prog.info? 93).map (·.size) = some 4 := by kernel_rfl
theorem zr93 : (Try.prog.info? 93).map (·.zero) = some (some (.agg [.map none, .map none, .map none, .map none].toArray)) := by kernel_rfl
theorem cf16 : ∀ args w, (callFunc 16 args).run Try.prog w = .ok (.enter 16 args) w := enter_ok (c := Try.f16.body.getD .skip) Try.func16 (by decide) rfl
theorem cf17 : ∀ args w, (callFunc 17 args).run Try.prog w = .ok (.enter 17 args) w := enter_ok (c := Try.f17.body.getD .skip) Try.func17 (by decide) rfl
theorem cf18 : ∀ args w, (callFunc 18 args).run Try.prog w = .ok (.enter 18 args) w := enter_ok (c := Try.f18.body.getD .skip) Try.func18 (by decide) rfl
theorem cf25 : ∀ args w, (callFunc 25 args).run Try.prog w = .ok (.enter 25 args) w := enter_ok (c := Try.f25.body.getD .skip) Try.func25 (by decide) rfl
theorem cf26 : ∀ args w, (callFunc 26 args).run Try.prog w = .ok (.enter 26 args) w := enter_ok (c := Try.f26.body.getD .skip) Try.func26 (by decide) rfl
theorem cf27 : ∀ args w, (callFunc 27 args).run Try.prog w = .ok (.enter 27 args) w := enter_ok (c := Try.f27.body.getD .skip) Try.func27 (by decide) rfl
theorem cf28 : ∀ args w, (callFunc 28 args).run Try.prog w = .ok (.enter 28 args) w := enter_ok (c := Try.f28.body.getD .skip) Try.func28 (by decide) rfl
theorem cf56 : ∀ args w, (callFunc 56 args).run Try.prog w = .ok (.enter 56 args) w := enter_ok (c := Try.f56.body.getD .skip) Try.func56 (by decide) rfl
theorem cf57 : ∀ args w, (callFunc 57 args).run Try.prog w = .ok (.enter 57 args) w := enter_ok (c := Try.f57.body.getD .skip) Try.func57 (by decide) rfl
theorem cf58 : ∀ args w, (callFunc 58 args).run Try.prog w = .ok (.enter 58 args) w := enter_ok (c := Try.f58.body.getD .skip) Try.func58 (by decide) rfl
theorem cf61 : ∀ args w, (callFunc 61 args).run Try.prog w = .ok (.enter 61 args) w := enter_ok (c := Try.f61.body.getD .skip) Try.func61 (by decide) rfl
theorem cf62 : ∀ args w, (callFunc 62 args).run Try.prog w = .ok (.enter 62 args) w := enter_ok (c := Try.f62.body.getD .skip) Try.func62 (by decide) rfl
theorem cf63 : ∀ args w, (callFunc 63 args).run Try.prog w = .ok (.enter 63 args) w := enter_ok (c := Try.f63.body.getD .skip) Try.func63 (by decide) rfl
theorem cf97 : ∀ args w, (callFunc 97 args).run Try.prog w = .ok (.enter 97 args) w := enter_ok (c := Try.f97.body.getD .skip) Try.func97 (by decide) rfl
theorem cf99 : ∀ args w, (callFunc 99 args).run Try.prog w = .ok (.enter 99 args) w := enter_ok (c := Try.f99.body.getD .skip) Try.func99 (by decide) rfl
theorem cf100 : ∀ args w, (callFunc 100 args).run Try.prog w = .ok (.enter 100 args) w := enter_ok (c := Try.f100.body.getD .skip) Try.func100 (by decide) rfl
theorem cf101 : ∀ args w, (callFunc 101 args).run Try.prog w = .ok (.enter 101 args) w := enter_ok (c := Try.f101.body.getD .skip) Try.func101 (by decide) rfl
theorem cf102 : ∀ args w, (callFunc 102 args).run Try.prog w = .ok (.enter 102 args) w := enter_ok (c := Try.f102.body.getD .skip) Try.func102 (by decide) rfl
theorem cf133 : ∀ args w, (callFunc 133 args).run Try.prog w = .ok (.enter 133 args) w := enter_ok (c := Try.f133.body.getD .skip) Try.func133 (by decide) rfl
theorem cf134 : ∀ args w, (callFunc 134 args).run Try.prog w = .ok (.enter 134 args) w := enter_ok (c := Try.f134.body.getD .skip) Try.func134 (by decide) rfl
theorem cf135 : ∀ args w, (callFunc 135 args).run Try.prog w = .ok (.enter 135 args) w := enter_ok (c := Try.f135.body.getD .skip) Try.func135 (by decide) rfl
theorem cf136 : ∀ args w, (callFunc 136 args).run Try.prog w = .ok (.enter 136 args) w := enter_ok (c := Try.f136.body.getD .skip) Try.func136 (by decide) rfl
theorem cf151 : ∀ args w, (callFunc 151 args).run Try.prog w = .ok (.enter 151 args) w := enter_ok (c := Try.f151.body.getD .skip) Try.func151 (by decide) rfl
end Go.Proofs.Ytkcighnochjlgaa
namespace Go.Proofs.Ytkcighnochjlgaa
open Go.ChangeShapes Go.WideShapes Go.ChangeAt Go.RowKit
section
variable {P : Program} {o : Oper} {L : List (Nat × Value)} {w w' : World} {x y z : Operand} {t t' T E : TypeId} {a b : Int} {v u : Value} {n d : Nat} {Kt : List (Nat × Value) → World → Prop} {M M' : Hp} {X : Fr} {H H' : List Rs} {i g off : Nat} {l : List Value}
theorem run_makeFunc {f : FuncId} {ys : List Operand} {vs : List Value} {fa ca : Array Operand} (hop : o.op = .makeFunc (.func f) fa ca) (hf : fa = #[]) (hc : ca = ys.toArray) (hv : oevs L ys = some vs) : Run P o L w (.func (.func f) #[] vs.toArray) w := by
  intro n c he
  unfold execOp
  subst hf
  simp only [hop, hc, List.map_toArray, he.evals hv, Instr.makeFunc, Sem.run_bind, Sem.run_pure, Result.andThen_ok]
  rfl
/-- A call of a function value. -/
theorem wo_cqF {f : FuncId} {vs cap : List Value} {ca : Call} {fo : Operand} {xs : List Operand} (hd : o.dst = some d) (hop : o.op = .call ca) (hca : ca.callee = .value fo) (hfo : oev L fo = some (.func (.func f) #[] cap.toArray))
    (hxs : ca.args = xs.toArray) (hvs : oevs L xs = some vs) (hn : Nat.blt d n = true) (hen : ∀ args w, (callFunc f args).run P w = .ok (.enter f args) w) (S : SH w M X H)
    {R : Value → Prop} (hcall : Cq P f (vs ++ cap) w M (XH w X H) R) (h : ∀ v w', SH w' M X H → R v → Kt ((d, v) :: L) w') : WO P n o L w Kt := by
  intro a ha next Q hk
  have hr : (execOp a.eval o).run P w = .ok (.enter f (vs ++ cap).toArray) w := by
    unfold execOp
    simp only [hop, resolve, hca, ha.eval hfo, hxs, List.map_toArray, ha.evals hvs, Deferred.ofValue, Sem.run_bind, Sem.run_pure, Result.andThen_ok, invoke, Array.empty_append, List.append_toArray]
    exact hen _ _
  unfold Oper.wp
  rw [hr, Oper.upon_enter, hd]
  refine hcall.mono ?_
  rintro e w' ⟨v, rfl, h2, h4⟩
  exact hk _ _ _ (ha.put (by simpa using hn) v) (h v w' (S.back h2) h4)
theorem SH.lendBox {α : Type} {C : Cd α} {z : α} (S : SH w M X H) (hi : nth H i = some (Rs.box g E l)) (hl : l = C.f z) (hr : C.u8 ≤ 140737488355328) : RdA C (M.un (XH w X H).h) (some ⟨g, 0, none⟩) 1 [z] := by
  have hmem : Rs.box g E l ∈ H := by rw [nth_eq] at hi; exact List.mem_of_getElem? hi
  refine ⟨by simp, by simpa using hr, fun _ => ⟨rfl, l.toArray, E, (0, 0), ?_, fun j u hu => ?_⟩⟩
  · show (M.un (XH w X H).h) g = _
    have h1 := S.bl _ hmem g (by simp [Rs.box])
    have h2 : hp w g = some (.cells l.toArray E (0, 0)) := S.get hi
    have h3 : (H.any fun r => r.bl.contains g) = true := any_bl.2 ⟨_, hmem, List.mem_singleton.2 rfl⟩
    simp only [Hp.un, h1.2.1, XH, h3, if_true, h2]
  · rw [List.flatMap_cons, List.flatMap_nil, List.append_nil, ← hl] at hu
    simpa [adO] using hu
theorem SH.boxM (S : SH w M X H) (hi : nth H i = some (Rs.box g E l)) : BxM (M.un (XH w X H).h) g E l := by
  have hmem : Rs.box g E l ∈ H := by rw [nth_eq] at hi; exact List.mem_of_getElem? hi
  have h1 := S.bl _ hmem g (by simp [Rs.box])
  have h2 : hp w g = some (.cells l.toArray E (0, 0)) := S.get hi
  unfold BxM
  have h3 : (H.any fun r => r.bl.contains g) = true := any_bl.2 ⟨_, hmem, List.mem_singleton.2 rfl⟩
  simp only [Hp.un, h1.2.1, XH, h3, if_true, h2]
theorem run_max {ca : Call} {ops : List Operand} {ts : List TypeId} (hop : o.op = .call ca) (hca : ca.callee = .builtin .max) (hxs : ca.args = ops.toArray) (hts : ca.argTypes = ts.toArray) (hx : oevs L ops = some [.int .i64 a, .int .i64 b]) : Run P o L w (.int .i64 (max a b)) w := by
  intro n c he
  have e : (if b > a then b else a) = max a b := by
    by_cases h : b > a
    · rw [if_pos h]; omega
    · rw [if_neg h]; omega
  unfold execOp
  simp only [hop, resolve, hca, hxs, hts, List.map_toArray, he.evals hx, Sem.run_bind, Sem.run_pure, Result.andThen_ok, invoke, builtin, Builtin.max_, List.foldlM_cons, List.foldlM_nil, Builtin.max2, e]
theorem run_sliceI {A : Option Addr} {len cap lo hi size : Nat} {lx hx : Option Operand} {lv hv : Option Value} (hop : o.op = .slice T x lx hx none) (hxx : oev L x = some (.slice A len cap)) (hlo : lx.map (oev L) = lv.map some) (hhi : hx.map (oev L) = hv.map some) (hu : P.underlying T = some (.slice E)) (hk : (P.info? E).map (·.size) = some size)
    (h1 : (lv = none ∧ lo = 0) ∨ lv = some (.int .i64 (lo : Int))) (h2 : (hv = none ∧ hi = len) ∨ hv = some (.int .i64 (hi : Int))) (hle : lo ≤ hi) (hc : hi ≤ cap) :
    Run P o L w (.slice (if cap = lo then A else A.map (·.add (lo * size))) (hi - lo) (cap - lo)) w := by
  intro n c he
  have e1 : lx.map c.eval = lv := by
    cases lx <;> cases lv <;> simp at hlo ⊢
    exact he.eval hlo
  have e2 : hx.map c.eval = hv := by
    cases hx <;> cases hv <;> simp at hhi ⊢
    exact he.eval hhi
  have g1 : (0 : Int) ≤ (lo : Int) ∧ (lo : Int) ≤ (hi : Int) := by omega
  have g2 : (0 : Int) ≤ (hi : Int) ∧ (hi : Int) ≤ (cap : Int) := by omega
  unfold execOp
  rcases h1 with ⟨rfl, rfl⟩ | rfl <;> rcases h2 with ⟨rfl, rfl⟩ | rfl <;>
    simp only [hop, he.eval hxx, e1, e2, Instr.sliceAt, Instr.slice, Instr.sliceBounds, Instr.sliceBound, asIntOf, Option.map_none, Sem.run_bind, Sem.run_pure, Result.andThen_ok, run_underlying hu, run_sizeOf hk, g1, g2, and_self, if_true, Int.toNat_natCast, Option.isSome_none, Bool.false_eq_true, if_false]
/-- x[lo:hi] of a slice that lasts. -/
theorem sliceM {α : Type} {C : Cd α} {N : Hp} {A : Option Addr} {c : Nat} {xs : List α} {lx hx : Option Operand} {lv hv : Option Value} (lo hi : Nat) (hop : o.op = .slice T x lx hx none) (hxx : oev L x = some (.slice A xs.length c)) (hlo : lx.map (oev L) = lv.map some) (hhi : hx.map (oev L) = hv.map some) (hT : SlOf P T C)
    (h1 : (lv = none ∧ lo = 0) ∨ lv = some (.int .i64 (lo : Int))) (h2 : (hv = none ∧ hi = xs.length) ∨ hv = some (.int .i64 (hi : Int))) (hle : lo ≤ hi) (hc : hi ≤ xs.length) (h : RdA C N A c xs) :
    ∃ A' c', Run P o L w (.slice A' ((xs.take hi).drop lo).length c') w ∧ RdA C N A' c' ((xs.take hi).drop lo) := by
  obtain ⟨zv, hu, h2', h3, h4, h5⟩ := hT
  obtain ⟨inf, hinf, hz, hs, h8⟩ := info_parts h2'
  have hlen : ((xs.take hi).drop lo).length = hi - lo := by simp; omega
  refine ⟨if c = lo then A else A.map (·.add (lo * C.k)), c - lo, ?_, ?_⟩
  · rw [hlen]
    exact run_sliceI (P := P) (w := w) (size := C.k) hop hxx hlo hhi hu (by rw [hinf]; simp [hs]) h1 h2 hle (by have := h.1; omega)
  · have hroom := h.2.1
    refine ⟨by rw [hlen]; have := h.1; omega, Nat.le_trans (Nat.mul_le_mul_right _ (by rw [hlen]; omega)) hroom, fun h0 => ?_⟩
    rw [hlen] at h0
    obtain ⟨e, cs, T', fz, hcs, hat⟩ := h.2.2 (by omega)
    have hcl : ¬ c = lo := by have := h.1; omega
    rw [if_neg hcl, e]
    simp only [Option.map_some, add_mul0, adB, adO]
    refine ⟨trivial, cs, T', fz, hcs, fun j u hu => ?_⟩
    have hj : j < (hi - lo) * C.k := by
      have := (List.getElem?_eq_some_iff.1 hu).1
      rwa [flat_len C.hf, hlen] at this
    have hmi : j / C.k < hi - lo := (Nat.div_lt_iff_lt_mul h4).2 hj
    have hmj : j % C.k < C.k := Nat.mod_lt _ h4
    have em : j / C.k * C.k + j % C.k = j := by rw [Nat.mul_comm]; exact Nat.div_add_mod j C.k
    have g1 := flat_get C.hf (xs := xs) (i := lo + j / C.k) (by omega) hmj
    have g2 := flat_get C.hf (xs := (xs.take hi).drop lo) (i := j / C.k) (by rw [hlen]; exact hmi) hmj
    rw [em] at g2
    rw [g2] at hu
    have e2 : ((xs.take hi).drop lo)[j / C.k]'(by rw [hlen]; exact hmi) = xs[lo + j / C.k]'(by omega) := by
      rw [List.getElem_drop, List.getElem_take]
    rw [e2, ← g1] at hu
    have := hat _ u hu
    rw [show adO A + ((lo + j / C.k) * C.k + j % C.k) = adO A + lo * C.k + j by rw [Nat.add_mul]; omega] at this
    exact this
theorem wo_sliceT {α : Type} {C : Cd α} {N : Hp} {A : Option Addr} {c : Nat} {xs : List α} {hx : Operand} (k : Nat) (hop : o.op = .slice T x none (some hx) none) (hd : o.dst = some d) (hn : Nat.blt d n = true) (hxx : oev L x = some (.slice A xs.length c)) (hhi : oev L hx = some (.int .i64 a)) (hT : SlOf P T C) (ha : a = (k : Int)) (hk : k ≤ xs.length) (hr : RdA C N A c xs)
    (h : ∀ A' c', RdA C N A' c' (xs.take k) → Kt ((d, .slice A' (xs.take k).length c') :: L) w) : WO P n o L w Kt := by
  subst ha
  obtain ⟨A', c', h1, h2⟩ := sliceM (P := P) (w := w) 0 k hop hxx (lv := none) (hv := some (.int .i64 (k : Int))) rfl (by simpa using hhi) hT (.inl ⟨rfl, rfl⟩) (.inr rfl) (Nat.zero_le _) hk hr
  exact wo_run hd hn h1 (h _ _ h2)
theorem wo_sliceD {α : Type} {C : Cd α} {N : Hp} {A : Option Addr} {c : Nat} {xs : List α} {lx : Operand} (k : Nat) (hop : o.op = .slice T x (some lx) none none) (hd : o.dst = some d) (hn : Nat.blt d n = true) (hxx : oev L x = some (.slice A xs.length c)) (hlo : oev L lx = some (.int .i64 a)) (hT : SlOf P T C) (ha : a = (k : Int)) (hk : k ≤ xs.length) (hr : RdA C N A c xs)
    (h : ∀ A' c', RdA C N A' c' (xs.drop k) → Kt ((d, .slice A' (xs.drop k).length c') :: L) w) : WO P n o L w Kt := by
  subst ha
  obtain ⟨A', c', h1, h2⟩ := sliceM (P := P) (w := w) k xs.length hop hxx (lv := some (.int .i64 (k : Int))) (hv := none) (by simpa using hlo) rfl hT (.inr rfl) (.inl ⟨rfl, rfl⟩) hk (Nat.le_refl _) hr
  rw [List.take_length] at h1 h2
  exact wo_run hd hn h1 (h _ _ h2)
/-- '[]T{x, y, ..}'. -/
theorem wo_buildSliceN {α : Type} {C : Cd α} {len : Nat} {pa : Array (Nat × Operand)} {ps : List (Nat × Operand)} {vs : List (Nat × Value)} {pl : List (Nat × Nat)} (hop : o.op = .buildSlice T len pa) (hpa : pa = ps.toArray) (hd : o.dst = some d) (hn : Nat.blt d n = true) (hT : SlOf P T C) (hps : partL L ps = some vs) (hpl : plOk C.k 0 pl = true)
    (hl : fillL pl (List.flatten (List.replicate len (C.f C.z))) vs = some l) (hsm : Nat.ble (len * C.k) 16777216 = true) (hlen : Nat.blt 0 len = true) (S : SH w M X H)
    (h : ∀ g w', SH w' M X (Rs.box g C.E l :: H) → Kt ((d, .slice (some ⟨g, 0, none⟩) len len) :: L) w') : WO P n o L w Kt := by
  obtain ⟨zv, h1, h2, h3, h4, h5⟩ := hT
  obtain ⟨inf, hinf, hz, hs, h8⟩ := info_parts h2
  have hzk : zv.cells.size = C.k := by rw [← C.hf C.z, ← h3]; simp
  subst hpa
  have hzl : ((Array.range (len * C.k)).map (zv.cells[· % zv.cells.size]!)).toList = List.flatten (List.replicate len (C.f C.z)) := by
    have e0 : List.flatten (List.replicate len (C.f C.z)) = (List.replicate len C.z).flatMap C.f := by
      rw [List.flatMap_def, List.map_replicate]
    rw [e0]
    apply List.ext_getElem?
    intro q
    by_cases hq : q < len * C.k
    · have hi : q / C.k < (List.replicate len C.z).length := by rw [List.length_replicate]; exact (Nat.div_lt_iff_lt_mul h4).2 hq
      have hj : q % C.k < C.k := Nat.mod_lt _ h4
      have e := flat_get C.hf hi hj
      rw [show q / C.k * C.k + q % C.k = q by rw [Nat.mul_comm]; exact Nat.div_add_mod q C.k] at e
      rw [e, List.getElem_replicate, ← h3]
      simp only [hzk, Array.toList_map, Array.toList_range, List.getElem?_map, List.getElem?_range hq, Option.map_some]
      rw [Array.getElem!_eq_getD]
      simp [hzk, hj]
    · rw [List.getElem?_eq_none, List.getElem?_eq_none]
      · rw [flat_len C.hf, List.length_replicate]; omega
      · simp; omega
  have hf : Instr.fill (fun i => some (i * C.k, C.k)) ((Array.range (len * C.k)).map (zv.cells[· % zv.cells.size]!)) vs = some l.toArray :=
    fill_eq' (pl := pl) (fun i p hp => by rw [plOk_spec hpl i p hp, Nat.zero_add]) vs _ l (by rw [hzl]; exact hl)
  have hlen' : 0 < len := by simpa using hlen
  have hr := run_buildSlice (P := P) w T C.E len vs.toArray l.toArray inf zv h1 hinf hz (by rw [hs]; have := Nat.le_of_ble_eq_true hsm; omega) (by rw [hs]; have := Nat.mul_pos hlen' h4; omega) (by rw [hs]; exact hf)
  refine wo_run (v := .slice (some ⟨w.heap.size, 0, none⟩) len len) (w' := w.alloc (.cells l.toArray C.E)) hd hn ?_ (h _ _ (S.newbox C.E l))
  intro n c he
  unfold execOp
  simp only [hop, List.map_toArray, partL_eq he hps, hr, Sem.run_bind, Sem.run_pure, Result.andThen_ok]
end
section
variable {α : Type} {C : Cd α} {N : Hp} {vs : List SlV} {xss : List (List α)}
theorem Rd2.set_ (h : Rd2 C N vs xss) {A : Option Addr} {xs : List α} {c : Nat} (hx : RdA C N A c xs) (i : Nat) (hi : i < xss.length) : Rd2 C N (vs.set i ⟨A, xs.length, c⟩) (xss.set i xs) := by
  refine ⟨by simp [h.1], fun j hj => ?_⟩
  rw [List.length_set] at hj
  rw [ga_set _ _ _ _ (by rw [h.1]; exact hi), ga_set _ _ _ _ hi]
  by_cases hij : i = j
  · rw [if_pos hij, if_pos hij]; exact ⟨rfl, hx⟩
  · rw [if_neg hij, if_neg hij]; exact h.2 j hj
theorem Rd2.rep (n : Nat) : Rd2 C N (List.replicate n ⟨none, 0, 0⟩) (List.replicate n ([] : List α)) := by
  refine ⟨by simp, fun i hi => ?_⟩
  rw [List.length_replicate] at hi
  rw [ga_rep _ _ _ hi, ga_rep _ _ _ hi]
  exact ⟨rfl, RdA.nil_⟩
end
end Go.Proofs.Ytkcighnochjlgaa
namespace Go.Proofs.Ytkcighnochjlgaa
open Go.ChangeShapes Go.WideShapes Go.ChangeAt Go.RowKit
section
variable {P : Program} {f : FuncId} {vs vs' : List Value} {w : World} {M : Hp} {X : Fr}
/-- A drawn-up slice of one element is given to all. -/
theorem SH.pubbox {α : Type} {C : Cd α} {z : α} {H H' : List Rs} {i g : Nat} {E : TypeId} {l : List Value} (S : SH w M X H) (hi : nth H i = some (Rs.box g E l)) (hH : H.set i Rs.emp = H') (hl : l = C.f z) (hr : C.u8 ≤ 140737488355328) : ∃ M', M.le M' ∧ SH w M' X H' ∧ RdA C M' (some ⟨g, 0, none⟩) 1 [z] := by
  obtain ⟨h1, h2, h3⟩ := S.pub hi hH
  refine ⟨_, h1, h2, by simp, by simpa using hr, fun _ => ⟨rfl, l.toArray, E, (0, 0), ?_, fun j u hu => ?_⟩⟩
  · have h4 : hp w g = some (.cells l.toArray E (0, 0)) := S.get hi
    show (M.put w _) g = _
    rw [h3 g (by simp [Rs.box]), h4]
  · rw [List.flatMap_cons, List.flatMap_nil, List.append_nil, ← hl] at hu
    simpa [adO] using hu
end
end Go.Proofs.Ytkcighnochjlgaa
namespace Go.Proofs.Ytkcighnochjlgaa
open Go.ChangeShapes Go.WideShapes Go.ChangeAt Go.RowKit
def SlV.v (s : SlV) : Value := .slice s.A s.n s.c
def tabBl (vs : List SlV) : List Nat := vs.flatMap (fun s => s.v.ownBlock.toList)
def TabOk {α : Type} (C : Cd α) (vs : List SlV) (xss : List (List α)) (h : Hp) : Prop :=
  vs.length = xss.length ∧ (∀ i, i < xss.length → RowOk C (ga vs i).v (ga xss i) h) ∧ ∀ i j, i < vs.length → j < vs.length → i ≠ j → ∀ b ∈ (ga vs i).v.ownBlock.toList, b ∉ (ga vs j).v.ownBlock.toList
theorem tab_mem {vs : List SlV} {b : Nat} : b ∈ tabBl vs ↔ ∃ i, i < vs.length ∧ b ∈ (ga vs i).v.ownBlock.toList := by
  unfold tabBl
  rw [List.mem_flatMap]
  constructor
  · rintro ⟨s, hs, hb⟩
    obtain ⟨i, hi, rfl⟩ := List.mem_iff_getElem.1 hs
    exact ⟨i, hi, by rw [ga_eq hi]; exact hb⟩
  · rintro ⟨i, hi, hb⟩
    exact ⟨ga vs i, ga_mem hi, hb⟩
/-- The inner rows. -/
def Rs.tab {α : Type} (C : Cd α) (vs : List SlV) (xss : List (List α)) : Rs :=
  ⟨tabBl vs, TabOk C vs xss, fun h h' hb hk => ⟨hk.1, fun i hi => (Rs.row C (ga vs i).v (ga xss i)).loc h h' (fun b hm => hb b (tab_mem.2 ⟨i, by rw [hk.1]; exact hi, hm⟩)) (hk.2.1 i hi), hk.2.2⟩⟩
section
variable {α : Type} {C : Cd α} {xs zs : List α} {v : Value} {w w' : World} {M : Hp} {X : Fr} {H H' : List Rs} {i q g k : Nat} {T : TypeId} {l : List Value} {vs : List SlV} {xss : List (List α)} {r s t : Rs}
theorem SH.newtab (S : SH w M X H) (C : Cd α) (n : Nat) : SH w M X (Rs.tab C (List.replicate n ⟨none, 0, 0⟩) (List.replicate n []) :: H) := by
  have hb : tabBl (List.replicate n ⟨none, 0, 0⟩) = [] := by
    unfold tabBl
    rw [List.flatMap_eq_nil_iff]
    intro x hx
    rw [List.eq_of_mem_replicate hx]
    rfl
  refine S.add ⟨by simp, fun i hi => ?_, fun i j hi hj _ b hb' => ?_⟩ hb
  · rw [List.length_replicate] at hi
    rw [ga_rep _ _ _ hi, ga_rep _ _ _ hi]
    exact .inl ⟨rfl, rfl⟩
  · rw [List.length_replicate] at hi
    rw [ga_rep _ _ _ hi] at hb'
    cases hb'
theorem SH.newtab0 (S : SH w M X H) (C : Cd α) : SH w M X (Rs.tab C [] [] :: H) := S.newtab C 0
/-- Two things become one. -/
theorem SH.merge (S : SH w M X H) (hi : nth H i = some r) (hq : nth H q = some s) (hiq : i ≠ q) (hok : t.ok (hp w)) (hbl : ∀ b ∈ t.bl, b ∈ r.bl ∨ b ∈ s.bl) (hH : (H.set i t).set q Rs.emp = H') : SH w M X H' := by
  subst hH
  rw [nth_eq] at hi hq
  have hget : ∀ j u, ((H.set i t).set q Rs.emp)[j]? = some u → (j = q ∧ u = Rs.emp) ∨ (j ≠ q ∧ j = i ∧ u = t) ∨ (j ≠ q ∧ j ≠ i ∧ H[j]? = some u) := fun j u hu => by
    rw [List.getElem?_set] at hu
    by_cases h1 : q = j
    · subst h1
      rw [if_pos rfl] at hu
      split at hu
      · injection hu with hu; exact .inl ⟨rfl, hu.symm⟩
      · cases hu
    · rw [if_neg h1, List.getElem?_set] at hu
      by_cases h2 : i = j
      · subst h2
        rw [if_pos rfl] at hu
        split at hu
        · injection hu with hu; exact .inr (.inl ⟨fun e => h1 e.symm, rfl, hu.symm⟩)
        · cases hu
      · rw [if_neg h2] at hu
        exact .inr (.inr ⟨fun e => h1 e.symm, fun e => h2 e.symm, hu⟩)
  refine ⟨S.m, S.x, S.mx, fun u hu => ?_, fun u hu b hb => ?_, fun j m u y hjm hu hy b hb => ?_, S.like⟩
  · obtain ⟨j, hj⟩ := List.mem_iff_getElem?.1 hu
    rcases hget j u hj with ⟨_, rfl⟩ | ⟨_, _, rfl⟩ | ⟨_, _, h⟩
    · trivial
    · exact hok
    · exact S.ok u (List.mem_of_getElem? h)
  · obtain ⟨j, hj⟩ := List.mem_iff_getElem?.1 hu
    rcases hget j u hj with ⟨_, rfl⟩ | ⟨_, _, rfl⟩ | ⟨_, _, h⟩
    · cases hb
    · rcases hbl b hb with h | h
      · exact S.bl r (List.mem_of_getElem? hi) b h
      · exact S.bl s (List.mem_of_getElem? hq) b h
    · exact S.bl u (List.mem_of_getElem? h) b hb
  · rcases hget j u hu with ⟨_, rfl⟩ | ⟨h1, rfl, rfl⟩ | ⟨h1, h2, h⟩
    · cases hb
    · rcases hget m y hy with ⟨_, rfl⟩ | ⟨_, rfl, _⟩ | ⟨h3, h4, h⟩
      · intro hc; cases hc
      · exact absurd rfl hjm
      · rcases hbl b hb with hb | hb
        · exact S.ap j m r y hjm hi h b hb
        · exact S.ap q m s y (fun e => h3 e.symm) hq h b hb
    · rcases hget m y hy with ⟨_, rfl⟩ | ⟨h3, rfl, rfl⟩ | ⟨_, _, h'⟩
      · intro hc; cases hc
      · intro hc
        rcases hbl b hc with hc | hc
        · exact S.ap j m u r hjm h hi b hb hc
        · exact S.ap j q u s h1 h hq b hb hc
      · exact S.ap j m u y hjm h h' b hb
/-- A row goes into the table. -/
theorem SH.tabput {A : Option Addr} {c : Nat} (S : SH w M X H) (k : Nat) (hi : nth H i = some (Rs.tab C vs xss)) (hq : nth H q = some (Rs.row C (.slice A zs.length c) zs)) (hiq : i ≠ q) (hk : k < xss.length) (hH : (H.set i (Rs.tab C (vs.set k ⟨A, zs.length, c⟩) (xss.set k zs))).set q Rs.emp = H') : SH w M X H' := by
  have ht : TabOk C vs xss (hp w) := S.get hi
  have hr : RowOk C (.slice A zs.length c) zs (hp w) := S.get hq
  have hkv : k < vs.length := by rw [ht.1]; exact hk
  have hap : ∀ j, j < vs.length → ∀ b ∈ (ga vs j).v.ownBlock.toList, b ∉ (Value.slice A zs.length c).ownBlock.toList := fun j hj b hb => by
    rw [nth_eq] at hi hq
    exact S.ap i q _ _ hiq hi hq b (tab_mem.2 ⟨j, hj, hb⟩)
  refine S.merge (t := Rs.tab C (vs.set k ⟨A, zs.length, c⟩) (xss.set k zs)) hi hq hiq ⟨by simp [ht.1], fun j hj => ?_, fun j m hj hm hjm b hb => ?_⟩ (fun b hb => ?_) hH
  · rw [List.length_set] at hj
    rw [ga_set _ _ _ _ hkv, ga_set _ _ _ _ hk]
    by_cases h : k = j
    · rw [if_pos h, if_pos h]; exact hr
    · rw [if_neg h, if_neg h]; exact ht.2.1 j hj
  · rw [List.length_set] at hj hm
    rw [ga_set _ _ _ _ hkv] at hb ⊢
    by_cases h1 : k = j
    · rw [if_pos h1] at hb
      rw [if_neg (by omega)]
      exact fun hc => hap m hm b hc hb
    · rw [if_neg h1] at hb
      by_cases h2 : k = m
      · rw [if_pos h2]; exact hap j hj b hb
      · rw [if_neg h2]; exact ht.2.2 j m hj hm hjm b hb
  · obtain ⟨j, hj, hb⟩ := tab_mem.1 hb
    rw [List.length_set] at hj
    rw [ga_set _ _ _ _ hkv] at hb
    by_cases h : k = j
    · rw [if_pos h] at hb; exact .inr hb
    · rw [if_neg h] at hb; exact .inl (tab_mem.2 ⟨j, hj, hb⟩)
/-- A row goes behind the table's last one. -/
theorem SH.tabsnoc {A : Option Addr} {c : Nat} (S : SH w M X H) (hi : nth H i = some (Rs.tab C vs xss)) (hq : nth H q = some (Rs.row C (.slice A zs.length c) zs)) (hiq : i ≠ q) (hH : (H.set i (Rs.tab C (vs ++ [⟨A, zs.length, c⟩]) (xss ++ [zs]))).set q Rs.emp = H') : SH w M X H' := by
  have ht : TabOk C vs xss (hp w) := S.get hi
  have hr : RowOk C (.slice A zs.length c) zs (hp w) := S.get hq
  have hap : ∀ j, j < vs.length → ∀ b ∈ (ga vs j).v.ownBlock.toList, b ∉ (Value.slice A zs.length c).ownBlock.toList := fun j hj b hb => by
    rw [nth_eq] at hi hq
    exact S.ap i q _ _ hiq hi hq b (tab_mem.2 ⟨j, hj, hb⟩)
  have hga : ∀ j, j < vs.length + 1 → ga (vs ++ [(⟨A, zs.length, c⟩ : SlV)]) j = if j < vs.length then ga vs j else ⟨A, zs.length, c⟩ := fun j hj => by
    split
    · rename_i h; exact ga_append_left _ _ _ h
    · rw [ga_append_right _ _ _ (by omega), show j - vs.length = 0 by omega]; rfl
  refine S.merge (t := Rs.tab C (vs ++ [⟨A, zs.length, c⟩]) (xss ++ [zs])) hi hq hiq ⟨by simp [ht.1], fun j hj => ?_, fun j m hj hm hjm b hb => ?_⟩ (fun b hb => ?_) hH
  · rw [List.length_append, List.length_singleton] at hj
    rw [hga j (by rw [ht.1]; exact hj)]
    by_cases h : j < vs.length
    · rw [if_pos h, ga_append_left _ _ _ (by rw [← ht.1]; exact h)]; exact ht.2.1 j (by rw [← ht.1]; exact h)
    · rw [if_neg h, ga_append_right _ _ _ (by rw [← ht.1]; omega), show j - xss.length = 0 by rw [← ht.1]; rw [← ht.1] at hj; omega]; exact hr
  · rw [List.length_append, List.length_singleton] at hj hm
    rw [hga j hj] at hb
    rw [hga m hm]
    by_cases h1 : j < vs.length
    · rw [if_pos h1] at hb
      by_cases h2 : m < vs.length
      · rw [if_pos h2]; exact ht.2.2 j m h1 h2 hjm b hb
      · rw [if_neg h2]; exact hap j h1 b hb
    · rw [if_neg h1] at hb
      rw [if_pos (by omega)]
      exact fun hc => hap m (by omega) b hc hb
  · obtain ⟨j, hj, hb⟩ := tab_mem.1 hb
    rw [List.length_append, List.length_singleton] at hj
    rw [hga j hj] at hb
    by_cases h : j < vs.length
    · rw [if_pos h] at hb; exact .inl (tab_mem.2 ⟨j, h, hb⟩)
    · rw [if_neg h] at hb; exact .inr hb
/-- A box is a row. -/
theorem SH.boxrow (S : SH w M X H) (zs : List α) (hi : nth H i = some (Rs.box g C.E l)) (hl : l = zs.flatMap C.f) (hm : zs.length ≤ 16777216) (hH : H.set i (Rs.row C (.slice (some ⟨g, 0, none⟩) zs.length zs.length) zs) = H') : SH w M X H' := by
  have hb : hp w g = some (.cells l.toArray C.E (0, 0)) := S.get hi
  refine S.step hi hH (Like.refl w) (fun _ _ _ => rfl) (.inr ⟨g, zs.length, l.toArray, rfl, hb, Nat.le_refl _, by unfold maxLen; omega, by rw [hl]; simpa using flat_len C.hf zs, ?_⟩) (fun b hb' => ⟨.inl ?_, ?_⟩)
  · rw [hl, List.take_of_length_le (by rw [List.toList_toArray, flat_len C.hf]; exact Nat.le_refl _)]
  · simpa [Rs.row, Value.ownBlock, Rs.box] using hb'
  · simp [Rs.row, Value.ownBlock] at hb'
    subst hb'
    exact hp_lt hb
/-- What is known of an inner row. -/
theorem SH.tabrow (S : SH w M X H) (hi : nth H i = some (Rs.tab C vs xss)) (hk : k < xss.length) : (ga vs k).n = (ga xss k).length ∧ (0 < (ga xss k).length → (ga vs k).A = some ⟨adB (ga vs k).A, 0, none⟩) ∧ (ga xss k).length ≤ (ga vs k).c := by
  rcases (S.get hi : TabOk C vs xss (hp w)).2.1 k hk with ⟨h1, h2⟩ | ⟨g, cap, cur, h1, h2, h3, _⟩
  · injection h1 with h1 h1' h1''
    rw [h2]
    exact ⟨h1', fun h => absurd h (by simp), by simp⟩
  · injection h1 with h1 h1' h1''
    exact ⟨h1', fun _ => by rw [h1]; rfl, by rw [h1'']; exact h3⟩
theorem rb_v (s : SlV) : rb s.v = adB s.A := by
  obtain ⟨A, n, c⟩ := s
  cases A <;> rfl
theorem RowOk.cell [Inhabited α] (h : RowOk C v xs (hp w)) {e j : Nat} {u : Value} (he : e < xs.length) (hj : Nat.blt j C.k = true) (hu : nth (C.f (ga xs e)) j = some u) : w.cell? ⟨rb v, e * C.k + j, none⟩ = some u := by
  rcases h with ⟨_, h2⟩ | ⟨g, cap, cur, rfl, h2, h3, h4, h5, h6⟩
  · rw [h2] at he; simp at he
  · have hj' : j < C.k := by simpa using hj
    show w.cell? ⟨g, e * C.k + j, none⟩ = some u
    rw [cell_of_row w g _ cur C.E (0, 0) h2]
    have hlt : e * C.k + j < xs.length * C.k := by
      have := Nat.mul_le_mul_right C.k (show e + 1 ≤ xs.length by omega)
      rw [Nat.succ_mul] at this
      omega
    have h7 := flat_get C.hf (xs := xs) he hj'
    rw [← h6, List.getElem?_take, if_pos hlt, ← ga_eq he, ← nth_eq (C.f (ga xs e)), hu] at h7
    simpa using h7
theorem SH.tabc [Inhabited α] (S : SH w M X H) (hi : nth H i = some (Rs.tab C vs xss)) (hk : k < xss.length) {e j : Nat} {u : Value} (he : e < (ga xss k).length) (hj : Nat.blt j C.k = true) (hu : nth (C.f (ga (ga xss k) e)) j = some u) : w.cell? ⟨adB (ga vs k).A, e * C.k + j, none⟩ = some u := by
  have := ((S.get hi : TabOk C vs xss (hp w)).2.1 k hk).cell he hj hu
  rwa [rb_v] at this
theorem RowOk.rds (h : RowOk C v xs (hp w)) (hr : xs.length * C.u8 ≤ 140737488355328) {N : Hp} (hN : ∀ b ∈ v.ownBlock.toList, N b = hp w b) : Rds C N v xs := by
  rcases h with ⟨h1, h2⟩ | ⟨g, cap, cur, h1, h2, h3, h4, h5, h6⟩
  · subst h1; subst h2
    exact Rds.nil_
  · subst h1
    refine ⟨_, cap, rfl, h3, hr, fun _ => ⟨rfl, cur, C.E, (0, 0), ?_, fun j u hu => ?_⟩⟩
    · show N g = _
      rw [hN g (by simp [Value.ownBlock])]
      exact h2
    · show cur[0 + j]? = some u
      rw [Nat.zero_add]
      rw [← h6, List.getElem?_take] at hu
      split at hu
      · simpa using hu
      · cases hu
theorem SH.tabRd (S : SH w M X H) (hi : nth H i = some (Rs.tab C vs xss)) (hr : ∀ i, i < xss.length → (ga xss i).length * C.u8 ≤ 140737488355328) {N : Hp} (hN : ∀ b ∈ tabBl vs, N b = hp w b) : Rd2 C N vs xss := by
  have ht : TabOk C vs xss (hp w) := S.get hi
  refine ⟨ht.1, fun j hj => ?_⟩
  obtain ⟨A, c, e, h⟩ := (ht.2.1 j hj).rds (hr j hj) (fun b hb => hN b (tab_mem.2 ⟨j, by rw [ht.1]; exact hj, hb⟩))
  injection e with e1 e2 e3
  rw [e1, e2, e3]
  exact ⟨rfl, h⟩
/-- A table is laid down for good. -/
theorem SH.pubtab (S : SH w M X H) (hi : nth H i = some (Rs.tab C vs xss)) (hH : H.set i Rs.emp = H') (hr : ∀ i, i < xss.length → (ga xss i).length * C.u8 ≤ 140737488355328) : ∃ M', M.le M' ∧ SH w M' X H' ∧ Rd2 C M' vs xss := by
  obtain ⟨h1, h2, h3⟩ := S.pub hi hH
  exact ⟨_, h1, h2, S.tabRd hi hr h3⟩
end
section
variable {P : Program} {o : Oper} {L : List (Nat × Value)} {w w' : World} {x y z : Operand} {t t' T E : TypeId} {a b : Int} {v u : Value} {n d : Nat} {Kt : List (Nat × Value) → World → Prop} {M M' : Hp} {X : Fr} {H H' : List Rs} {i k g off : Nat} {l : List Value}
theorem run_indexT {α : Type} {C : Cd α} {vs : List SlV} {xss : List (List α)} {m : Nat} (k e : Nat) (hop : o.op = .indexAddr T x y) (hx : oev L x = some (.slice (ga vs k).A m (ga vs k).c)) (hm : m = (ga vs k).n) (hy : oev L y = some (.int .i64 a)) (hT : SlOf P T C) (S : SH w M X H) (hi : nth H i = some (Rs.tab C vs xss)) (hk : k < xss.length)
    (ha : a = (e : Int)) (he : e < (ga xss k).length) : Run P o L w (.pointer (some ⟨adB (ga vs k).A, e * C.k, none⟩)) w := by
  obtain ⟨h0, h1, _⟩ := S.tabrow hi hk
  obtain ⟨z, hu, h2, _⟩ := hT
  obtain ⟨inf, hinf, _, hs, _⟩ := info_parts h2
  have := run_indexAddr (P := P) (w := w) hop hx hy hu (k := C.k) (by rw [hinf]; simp [hs]) ha (by rw [hm, h0]; exact he) (h1 (by omega))
  rwa [Nat.zero_add] at this
theorem run_lenT {α : Type} {C : Cd α} {vs : List SlV} {xss : List (List α)} {k m : Nat} {ca : Call} {ops : List Operand} {ts : List TypeId} (hop : o.op = .call ca) (hca : ca.callee = .builtin .len) (hxs : ca.args = ops.toArray) (hts : ca.argTypes = ts.toArray) (hx : oevs L ops = some [.slice (ga vs k).A m (ga vs k).c]) (hm : m = (ga vs k).n) (ht : nth ts 0 = some t) (hT : SlOf P t C) (S : SH w M X H) (hi : nth H i = some (Rs.tab C vs xss)) (hk : k < xss.length) : Run P o L w (.int .i64 ((ga xss k).length : Int)) w := by
  obtain ⟨h0, _⟩ := S.tabrow hi hk
  obtain ⟨z, h1, _⟩ := hT
  rw [← h0, ← hm]
  exact run_len hop hca hxs hts hx ht h1
theorem row_stored {α : Type} [Inhabited α] {C : Cd α} {ys : List α} {us : List Value} {rv : Value} {e j : Nat} (y' : α) (hok : RowOk C rv ys (hp w)) (he : e < ys.length) (hfit' : j + us.length ≤ C.k) (hl' : spl (C.f (ga ys e)) j us = C.f y') :
    ∃ cur : Array Value, hp w (rb rv) = some (.cells cur C.E (0, 0)) ∧ rb rv ∈ rv.ownBlock.toList ∧ (∀ b ∈ rv.ownBlock.toList, b = rb rv) ∧ e * C.k + j + us.length ≤ cur.size ∧ RowOk C rv (ys.set e y') (hp (w.setRow (rb rv) (cur.toList.take (e * C.k + j) ++ us ++ cur.toList.drop (e * C.k + j + us.length)).toArray)) := by
  rw [ga_eq he] at hl'
  rcases hok with ⟨_, h2⟩ | ⟨g, cap, cur, rfl, h2, h3, h4, h5, h6⟩
  · subst h2; simp at he
  · have hcur : e * C.k + j + us.length ≤ cur.size := by
      have h7 : e * C.k + C.k ≤ cap * C.k := by rw [← Nat.succ_mul]; exact Nat.mul_le_mul_right _ (by omega)
      omega
    refine ⟨cur, h2, by simp [rb, Value.ownBlock], fun b hb => by simpa [rb, Value.ownBlock] using hb, hcur, ?_⟩
    have hcur' : e * C.k + j + us.length ≤ cur.toList.length := by simpa using hcur
    rw [← spl_eq us cur.toList (e * C.k + j) hcur']
    have hs := setRow_heap w g cur (spl cur.toList (e * C.k + j) us).toArray C.E (0, 0) h2
    refine .inr ⟨g, cap, (spl cur.toList (e * C.k + j) us).toArray, by rw [List.length_set], hs, by rw [List.length_set]; exact h3, h4, by simp [spl_len, h5], ?_⟩
    rw [List.length_set, ← flat_spl ys e j us y' he hfit' hl', ← h6]
    apply List.ext_getElem?
    intro m
    have hle : e * C.k + C.k ≤ ys.length * C.k := by rw [← Nat.succ_mul]; exact Nat.mul_le_mul_right _ he
    have hys : ys.length * C.k ≤ cur.size := by rw [h5]; exact Nat.mul_le_mul_right _ h3
    rw [List.getElem?_take, spl_get us _ _ _ hcur', spl_get us _ _ _ (by simp; omega), List.getElem?_take]
    by_cases hm : m < ys.length * C.k
    · rw [if_pos hm, if_pos hm]
    · rw [if_neg hm, if_neg hm, if_neg (by omega)]
theorem wo_storeT {α : Type} [Inhabited α] {C : Cd α} {vs : List SlV} {xss : List (List α)} {us : List Value} {k e j : Nat} (y' : α) (hop : o.op = .store T x y) (hd : o.dst = none) (S : SH w M X H) (hi : nth H i = some (Rs.tab C vs xss)) (hkk : k < xss.length) (he : e < (ga xss k).length) (hx : oev L x = some (.pointer (some ⟨adB (ga vs k).A, e * C.k + j, none⟩))) (hy : oev L y = some v) (hl : v.cells.toList = us) (hk : (P.info? T).map (·.size) = some us.length)
    (hfit : Nat.ble (j + us.length) C.k = true) (h1 : ones us = true) (hl' : spl (C.f (ga (ga xss k) e)) j us = C.f y') (hH : H.set i (Rs.tab C vs (xss.set k ((ga xss k).set e y'))) = H') (h : ∀ w', SH w' M X H' → Kt L w') : WO P n o L w Kt := by
  have hfit' : j + us.length ≤ C.k := by simpa using hfit
  have ht : TabOk C vs xss (hp w) := S.get hi
  have hkv : k < vs.length := by rw [ht.1]; exact hkk
  obtain ⟨cur, h2, h3, h4, h5, h6⟩ := row_stored (w := w) y' (ht.2.1 k hkk) he hfit' hl'
  rw [← rb_v] at hx
  refine wo_runS hd (run_storeAt hop hx hy hl hk h2 h5 (ones_spec h1)) (h _ ?_)
  have hmem : rb (ga vs k).v ∈ tabBl vs := tab_mem.2 ⟨k, hkv, h3⟩
  refine S.step hi hH (like_setRow _ _ _) (fun b _ hb => keep_setRow _ _ _ b (fun e => hb (by rw [e]; exact hmem))) ⟨by simp [ht.1], fun m hm => ?_, ht.2.2⟩ (fun b hb => ⟨.inl hb, ?_⟩)
  · rw [List.length_set] at hm
    rw [ga_set _ _ _ _ hkk]
    by_cases hkm : k = m
    · subst hkm
      rw [if_pos rfl]; exact h6
    · rw [if_neg hkm]
      refine (Rs.row C (ga vs m).v (ga xss m)).loc _ _ (fun b hb => keep_setRow _ _ _ b (fun e => ?_)) (ht.2.1 m hm)
      subst e
      exact ht.2.2 k m hkv (by rw [ht.1]; exact hm) hkm _ h3 hb
  · have hm : Rs.tab C vs xss ∈ H := by rw [nth_eq] at hi; exact List.mem_of_getElem? hi
    have := S.bl _ hm b hb
    simpa using this.1
end
end Go.Proofs.Ytkcighnochjlgaa
namespace Go.Proofs.Ytkcighnochjlgaa
open Go.ChangeShapes Go.WideShapes Go.ChangeAt Go.RowKit
/-- A field of one cell, compared: its offset; is it a Bool? -/
def FE (P : Program) (f : Field) (p : Nat × Bool) : Prop :=
  (f.name == "_") = false ∧ f.offset = p.1 ∧ (match p.2 with | true => P.underlying f.type = some .bool | false => ∃ k, P.underlying f.type = some (.int k))
def EqIs (xs ys : List Value) : List (Nat × Bool) → Prop → Prop
  | [], Q => Q = True
  | [(o, false)], Q => ∃ k x y, nth xs o = some (.int k x) ∧ nth ys o = some (.int k y) ∧ Q = (x = y)
  | [(o, true)], Q => ∃ x y, nth xs o = some (.bool x) ∧ nth ys o = some (.bool y) ∧ Q = (x = y)
  | (o, false) :: r, Q => ∃ k x y Q', nth xs o = some (.int k x) ∧ nth ys o = some (.int k y) ∧ EqIs xs ys r Q' ∧ Q = (x = y ∧ Q')
  | (o, true) :: r, Q => ∃ x y Q', nth xs o = some (.bool x) ∧ nth ys o = some (.bool y) ∧ EqIs xs ys r Q' ∧ Q = (x = y ∧ Q')
def StEq (P : Program) (T : TypeId) (pl : List (Nat × Bool)) : Prop :=
  ∃ fs : List Field, P.underlying T = some (.struct fs.toArray) ∧ Al2 (FE P) fs pl ∧ P.stoodInHeld T = false ∧ P.eqGuardType P.depth T = false
section
variable {P : Program}
theorem eqIs_go {xs ys : List Value} {o : Nat} {b : Bool} : ∀ {r : List (Nat × Bool)} {Q : Prop}, EqIs xs ys ((o, b) :: r) Q → ∃ Q1 Q2, (match b with | false => ∃ k x y, nth xs o = some (.int k x) ∧ nth ys o = some (.int k y) ∧ Q1 = (x = y) | true => ∃ x y, nth xs o = some (.bool x) ∧ nth ys o = some (.bool y) ∧ Q1 = (x = y)) ∧ EqIs xs ys r Q2 ∧ (Q ↔ Q1 ∧ Q2)
  | [], Q, h => by
    cases b with
    | false => obtain ⟨k, x, y, h1, h2, rfl⟩ := h; exact ⟨_, True, ⟨k, x, y, h1, h2, rfl⟩, rfl, by simp⟩
    | true => obtain ⟨x, y, h1, h2, rfl⟩ := h; exact ⟨_, True, ⟨x, y, h1, h2, rfl⟩, rfl, by simp⟩
  | (_ :: _), Q, h => by
    cases b with
    | false => obtain ⟨k, x, y, Q', h1, h2, h3, rfl⟩ := h; exact ⟨_, Q', ⟨k, x, y, h1, h2, rfl⟩, h3, Iff.rfl⟩
    | true => obtain ⟨x, y, Q', h1, h2, h3, rfl⟩ := h; exact ⟨_, Q', ⟨x, y, h1, h2, rfl⟩, h3, Iff.rfl⟩
theorem part1 {T : TypeId} {dd : TypeDesc} {cs : List Value} {o : Nat} {v : Value} {w : World} (hu : P.underlying T = some dd) (hd : flatD dd = true) (hv : nth cs o = some v) : (part T cs.toArray o).run P w = .ok v w := by
  rw [nth_eq] at hv
  simp only [part, Sem.run_bind, run_isAgg hu, hd, Result.andThen_ok, Bool.not_true, Bool.false_eq_true, if_false, List.getElem?_toArray, hv, Sem.run_pure]
theorem run_eqFields {xs ys : List Value} {w : World} : ∀ {fs : List Field} {pl : List (Nat × Bool)} {Q : Prop}, Al2 (FE P) fs pl → EqIs xs ys pl Q → ∃ r : Bool, (Op.eqFields 9999 xs.toArray ys.toArray fs).run P w = .ok r w ∧ (r = true ↔ Q)
  | [], [], Q, _, h => ⟨true, rfl, by rw [show Q = True from h]; simp⟩
  | f :: fs, (o, b) :: pl, Q, ha, h => by
    obtain ⟨⟨hn, ho, hu⟩, ha⟩ := ha
    obtain ⟨Q1, Q2, h1, h2, hiff⟩ := eqIs_go h
    obtain ⟨r2, hr2, hi2⟩ := run_eqFields (w := w) ha h2
    have hne : f.name ≠ "_" := by simpa using hn
    simp only at ho
    have key : ∃ r1 : Bool, ∃ u v, (part f.type xs.toArray f.offset).run P w = .ok u w ∧ (part f.type ys.toArray f.offset).run P w = .ok v w ∧ (Op.equalIn 9999 f.type u v).run P w = .ok r1 w ∧ (r1 = true ↔ Q1) := by
      cases b with
      | false =>
        obtain ⟨k, x, y, g1, g2, rfl⟩ := h1
        obtain ⟨k', hu⟩ := hu
        exact ⟨_, _, _, part1 hu rfl (by rw [ho]; exact g1), part1 hu rfl (by rw [ho]; exact g2), run_equalIn_int w 9998 _ _ _ _ _ hu, by simp⟩
      | true =>
        obtain ⟨x, y, g1, g2, rfl⟩ := h1
        exact ⟨_, _, _, part1 hu rfl (by rw [ho]; exact g1), part1 hu rfl (by rw [ho]; exact g2), run_equalIn_bool' w 9998 _ _ _ hu, by simp⟩
    obtain ⟨r1, u, v, k1, k2, k3, k4⟩ := key
    refine ⟨r1 && r2, ?_, by rw [hiff, ← k4, ← hi2]; simp⟩
    rw [Op.eqFields, if_pos hne]
    simp only [Sem.run_bind, k1, k2, k3, Result.andThen_ok]
    cases r1 <;> simp [hr2]
  | [], _ :: _, _, ha, _ => False.elim ha
  | _ :: _, [], _, ha, _ => False.elim ha
variable {o : Oper} {L : List (Nat × Value)} {w : World} {x y : Operand} {t t' : TypeId}
theorem run_equalSt {xs ys : List Value} {pl : List (Nat × Bool)} {Q : Prop} [Decidable Q] (hT : StEq P t pl) (he : EqIs xs ys pl Q) : (Op.equalIn 10000 t (.agg xs.toArray) (.agg ys.toArray)).run P w = .ok (decide Q) w := by
  obtain ⟨fs, hu, ha, hs, _⟩ := hT
  have hfs : P.fieldsOf t = fs.toArray := by simp [Program.fieldsOf, hu]
  obtain ⟨r, hr, hi⟩ := run_eqFields (w := w) ha he
  rw [run_equalIn_struct w 9999 t _ _ (by rw [hfs]; exact hu) hs, hfs]
  have : r = decide Q := by
    by_cases h : Q
    · rw [decide_eq_true h]; exact hi.2 h
    · rw [decide_eq_false h]
      cases r with
      | false => rfl
      | true => exact absurd (hi.1 rfl) h
  rw [← this]
  exact hr
theorem run_neSt {xs ys : List Value} {pl : List (Nat × Bool)} {Q : Prop} [Decidable Q] (hop : o.op = .binOp .neq t x y t') (hx : oev L x = some (.agg xs.toArray)) (hy : oev L y = some (.agg ys.toArray)) (hT : StEq P t pl) (he : EqIs xs ys pl Q) : Run P o L w (.bool (decide (¬ Q))) w := by
  intro n c' he'
  have hg := run_eqGuard_agg (P := P) w .neq t x y xs.toArray ys.toArray hT.choose_spec.2.2.2
  unfold execOp
  simp only [hop, he'.eval hx, he'.eval hy, hg, Sem.run_bind, Sem.run_pure, Result.andThen_ok, run_neq_struct, run_equalSt hT he, decide_not]
end
end Go.Proofs.Ytkcighnochjlgaa
namespace Go.Proofs.Ytkcighnochjlgaa
open Go.ChangeShapes Go.WideShapes Go.ChangeAt Go.RowKit
def wr (x : Int) : Int := IntKind.i64.wrap x
theorem wr_id {x : Int} (h : -9223372036854775808 ≤ x ∧ x ≤ 9223372036854775807) : wr x = x := by unfold wr; rw [IntKind.wrap_i64]; omega
theorem wr_wr (x y : Int) : wr (wr x + y) = wr (x + y) := by unfold wr; rw [IntKind.wrap_i64, IntKind.wrap_i64, IntKind.wrap_i64]; omega
section
variable {P : Program} {o : Oper} {L : List (Nat × Value)} {w : World} {x y : Operand} {t t' E : TypeId} {a b : Int}
theorem run_addW (ho : o.op = .binOp .add t x y t') (hx : oev L x = some (.int .i64 a)) (hy : oev L y = some (.int .i64 b)) : Run P o L w (.int .i64 (wr (a + b))) w :=
  run_bin ho hx hy fun w => by simp [binOp, Op.intArith, wr]
end
end Go.Proofs.Ytkcighnochjlgaa
namespace Go.Proofs.Ytkcighnochjlgaa
open Go.ChangeShapes Go.WideShapes Go.ChangeAt Go.RowKit
section
variable {κ ε : Type} [DecidableEq κ]
def mg (k : κ) : List (κ × ε) → Option ε
  | [] => none
  | p :: r => if k = p.1 then some p.2 else mg k r
def mp (k : κ) (v : ε) : List (κ × ε) → List (κ × ε)
  | [] => [(k, v)]
  | p :: r => if k = p.1 then (k, v) :: r else p :: mp k v r
def fk (k : κ) : List (κ × ε) → Nat → Option (Nat × ε)
  | [], _ => none
  | p :: r, i => if k = p.1 then some (i, p.2) else fk k r (i + 1)
theorem fk_none {k : κ} : ∀ {es : List (κ × ε)} {i : Nat}, fk k es i = none → mg k es = none ∧ ∀ v, mp k v es = es ++ [(k, v)]
  | [], _, _ => ⟨rfl, fun _ => rfl⟩
  | p :: r, i, h => by
    unfold fk at h
    split at h
    · cases h
    · rename_i hne
      obtain ⟨h1, h2⟩ := fk_none h
      exact ⟨by simp [mg, hne, h1], fun v => by simp [mp, hne, h2 v]⟩
theorem fk_some {k : κ} : ∀ {es : List (κ × ε)} {i j : Nat} {v : ε}, fk k es i = some (j, v) → mg k es = some v ∧ ∃ m, j = i + m ∧ ∃ p, es[m]? = some p ∧ p.1 = k ∧ ∀ v', mp k v' es = es.set m (k, v')
  | p :: r, i, j, v, h => by
    unfold fk at h
    split at h
    · rename_i he
      injection h with h
      injection h with h1 h2
      exact ⟨by simp [mg, he, h2], 0, by omega, p, rfl, he.symm, fun v' => by simp [mp, he]⟩
    · rename_i hne
      obtain ⟨h1, m, h2, q, h3, h4, h5⟩ := fk_some h
      exact ⟨by simp [mg, hne, h1], m + 1, by omega, q, by simpa using h3, h4, fun v' => by simp [mp, hne, h5 v']⟩
end
/-- How a map's keys lie: each value's key. -/
structure MapK (P : Program) (K : TypeId) {κ : Type} [DecidableEq κ] (kc : κ → Value) : Prop where
  check : ∀ k w b, (Instr.checkKey b 10000 K (kc k)).run P w = .ok () w
  find : ∀ (k : κ) (es : List (κ × Value)) (l : List MapEntry) (w : World), l.map (fun e => (e.key, e.val)) = es.map (fun p => (kc p.1, p.2)) → (Instr.findKey K (kc k) l).run P w = .ok (fk k es 0) w
  bits : ∀ k, Instr.sameBits 10000 (kc k) (kc k) = true
theorem mapK_int {P : Program} {K : TypeId} (hu : P.underlying K = some (.int .i64)) : MapK P K (Value.int .i64) := by
  have hfind : ∀ (k : Int) (es : List (Int × Value)) (l : List MapEntry) (i : Nat), l.map (fun e => (e.key, e.val)) = es.map (fun p => (Value.int .i64 p.1, p.2)) → Instr.findNow (.int .i64) (.int .i64 k) l i = some (fk k es i) := by
    intro k es
    induction es with
    | nil => intro l i h; rw [List.map_nil, List.map_eq_nil_iff] at h; subst h; rfl
    | cons p es ih =>
      intro l i h
      cases l with
      | nil => cases h
      | cons e l =>
        simp only [List.map_cons, List.cons.injEq, Prod.mk.injEq] at h
        unfold Instr.findNow fk
        rw [h.1.1]
        simp only [Instr.sameNow, if_true]
        by_cases hk : k = p.1
        · simp [hk, h.1.2]
        · have e1 : (k == p.1) = false := by simpa using hk
          rw [e1, if_neg hk]
          exact ih l (i + 1) h.2
  refine ⟨fun k w b => ?_, fun k es l w h => MapKept.run_findKey hu (hfind k es l 0 h), fun k => by simp [Instr.sameBits]⟩
  rw [show (10000 : Nat) = 9999 + 1 from rfl]
  unfold Instr.checkKey
  simp only [Sem.run_bind, run_underlying hu, Result.andThen]
  rfl
/-- No stamp stands twice; all are older than the clock. -/
def Stm (arr : Array MapEntry) (clock : Nat) : Prop := (arr.toList.map (·.born)).Nodup ∧ ∀ e ∈ arr.toList, e.born < clock
def MpOk {κ ε : Type} (kc : κ → Value) (vc : ε → Value) (g : Nat) (es : List (κ × ε)) (h : Hp) : Prop :=
  ∃ arr clock, h g = some (.map arr clock) ∧ arr.toList.map (fun e => (e.key, e.val)) = es.map (fun p => (kc p.1, vc p.2)) ∧ Stm arr clock
def Rs.mp {κ ε : Type} (kc : κ → Value) (vc : ε → Value) (g : Nat) (es : List (κ × ε)) : Rs :=
  ⟨[g], MpOk kc vc g es, fun h h' hb hk => by
    obtain ⟨arr, clock, h1, h2⟩ := hk
    exact ⟨arr, clock, by rw [hb g (by simp)]; exact h1, h2⟩⟩
section
variable {P : Program} {o : Oper} {L : List (Nat × Value)} {w w' : World} {x y z : Operand} {t T K E : TypeId} {v u : Value} {n d g i : Nat} {Kt : List (Nat × Value) → World → Prop} {M M' : Hp} {X : Fr} {H H' : List Rs}
variable {κ ε : Type} [DecidableEq κ] {kc : κ → Value} {vc : ε → Value} {es : List (κ × ε)}
theorem wo_makeMap (κ ε : Type) (kc : κ → Value) (vc : ε → Value) (hop : o.op = .makeMap T none) (hd : o.dst = some d) (hn : Nat.blt d n = true) (S : SH w M X H)
    (h : ∀ g w', SH w' M X (Rs.mp kc vc g ([] : List (κ × ε)) :: H) → Kt ((d, .map (some g)) :: L) w') : WO P n o L w Kt := by
  refine wo_run (v := .map (some w.heap.size)) (w' := w.alloc (.map #[] 0)) hd hn ?_ (h _ _ ?_)
  · intro n c he
    unfold execOp
    simp only [hop, Option.map_none, run_makeMap, Sem.run_bind, Result.andThen_ok, Sem.run_pure]
  · exact S.cons (like_alloc w _) (keep_alloc w _) ⟨#[], 0, heap_alloc_new w _, rfl, by simp [Stm]⟩ (fun b hb => by simp [Rs.mp] at hb; subst hb; rw [size_al]; omega)
omit [DecidableEq κ] in
theorem map_pairs {arr : Array MapEntry} (h : arr.toList.map (fun e => (e.key, e.val)) = es.map (fun p => (kc p.1, vc p.2))) : arr.toList.map (fun e => (e.key, e.val)) = (es.map (fun p => (p.1, vc p.2))).map (fun p => (kc p.1, p.2)) := by
  rw [h, List.map_map]; rfl
theorem fk_map (k : κ) : ∀ (es : List (κ × ε)) (i : Nat), fk k (es.map (fun p => (p.1, vc p.2))) i = (fk k es i).map (fun q => (q.1, vc q.2))
  | [], _ => rfl
  | p :: r, i => by
    simp only [List.map_cons, fk]
    split
    · rfl
    · exact fk_map k r (i + 1)
theorem SH.look {k : κ} {zv : ε} (S : SH w M X H) (hi : nth H i = some (Rs.mp kc vc g es)) (hu : P.underlying T = some (.map K E)) (hK : MapK P K kc) (hz : (P.info? E).map (·.zero) = some (some (vc zv))) : (Instr.lookup T (.map (some g)) (kc k) false).run P w = .ok (vc ((mg k es).getD zv)) w ∧ (Instr.lookup T (.map (some g)) (kc k) true).run P w = .ok (.tuple #[vc ((mg k es).getD zv), .bool (mg k es).isSome]) w := by
  obtain ⟨arr, clock, hg, ha, hstm⟩ := (S.get hi : MpOk kc vc g es (hp w))
  have hf := hK.find k _ arr.toList w (map_pairs ha)
  rw [fk_map] at hf
  have hg' : w.heap[g]? = some (.map arr clock) := hg
  have hgo := MapKept.run_getObj_map (P := P) hg'
  have hc := fun b => hK.check k w b
  cases hfk : fk k es 0 with
  | none =>
    rw [hfk] at hf
    have hm := (fk_none hfk).1
    constructor
    · simp only [Instr.lookup, Sem.run_bind, run_underlying hu, hgo, hc, hf, Result.andThen_ok, Sem.run_pure, run_zero hz, Option.map_none, hm, Option.getD_none]
      rfl
    · simp only [Instr.lookup, Sem.run_bind, run_underlying hu, hgo, hc, hf, Result.andThen_ok, Sem.run_pure, run_zero hz, Option.map_none, hm, Option.getD_none]
      rfl
  | some q =>
    obtain ⟨j, v⟩ := q
    rw [hfk] at hf
    have hm := (fk_some hfk).1
    constructor
    · simp only [Instr.lookup, Sem.run_bind, run_underlying hu, hgo, hc, hf, Result.andThen_ok, Sem.run_pure, Option.map_some, hm, Option.getD_some]
      rfl
    · simp only [Instr.lookup, Sem.run_bind, run_underlying hu, hgo, hc, hf, Result.andThen_ok, Sem.run_pure, Option.map_some, hm, Option.getD_some]
      rfl
theorem run_lookup {k : κ} {zv : ε} (hop : o.op = .lookup T x y false) (hx : oev L x = some (.map (some g))) (hy : oev L y = some (kc k)) (hu : P.underlying T = some (.map K E)) (hK : MapK P K kc) (hz : (P.info? E).map (·.zero) = some (some (vc zv))) (S : SH w M X H) (hi : nth H i = some (Rs.mp kc vc g es)) : Run P o L w (vc ((mg k es).getD zv)) w := by
  intro n c he
  unfold execOp
  simp only [hop, he.eval hx, he.eval hy, (S.look hi hu hK hz).1, Sem.run_bind, Result.andThen_ok, Sem.run_pure]
theorem like_setB (w : World) (g : Nat) (ob : Obj) : Like w { w with heap := w.heap.setIfInBounds g ob } := ⟨rfl, rfl, rfl, by simp⟩
theorem wo_mapUpdate {k : κ} {e : ε} (hop : o.op = .mapUpdate T x y z ∨ o.op = .insert T x y z) (hd : o.dst = none) (S : SH w M X H) (hi : nth H i = some (Rs.mp kc vc g es)) (hx : oev L x = some (.map (some g))) (hy : oev L y = some (kc k)) (hz : oev L z = some (vc e)) (hu : P.underlying T = some (.map K E)) (hK : MapK P K kc)
    (hH : H.set i (Rs.mp kc vc g (Go.Proofs.Ytkcighnochjlgaa.mp k e es)) = H') (h : ∀ w', SH w' M X H' → Kt L w') : WO P n o L w Kt := by
  obtain ⟨arr, clock, hg, ha, hstm⟩ := (S.get hi : MpOk kc vc g es (hp w))
  have hf := hK.find k _ arr.toList w (map_pairs ha)
  rw [fk_map] at hf
  have hg' : w.heap[g]? = some (.map arr clock) := hg
  have hgo := MapKept.run_getObj_map (P := P) hg'
  have hc := fun b => hK.check k w b
  have key : ∃ arr' clock', (Instr.mapUpdate T (.map (some g)) (kc k) (vc e)).run P w = .ok () { w with heap := w.heap.setIfInBounds g (.map arr' clock') } ∧ arr'.toList.map (fun e => (e.key, e.val)) = (Go.Proofs.Ytkcighnochjlgaa.mp k e es).map (fun p => (kc p.1, vc p.2)) ∧ Stm arr' clock' := by
    cases hfk : fk k es 0 with
    | none =>
      rw [hfk] at hf
      refine ⟨arr.push { key := kc k, val := vc e, born := clock }, clock + 1, ?_, ?_, ?_⟩
      · simp only [Instr.mapUpdate, Sem.run_bind, run_underlying hu, hgo, hc, hf, Result.andThen_ok, Option.map_none, MapKept.run_setObj_map _ hg']
      · rw [(fk_none hfk).2 e, Array.toList_push, List.map_append, List.map_append, ha]; rfl
      · refine ⟨?_, fun x hx => ?_⟩
        · rw [Array.toList_push, List.map_append]
          refine List.nodup_append.2 ⟨hstm.1, by simp, fun a ha' b hb' => ?_⟩
          obtain ⟨x, hx, rfl⟩ := List.mem_map.1 ha'
          simp at hb'
          have := hstm.2 x hx
          omega
        · rw [Array.toList_push] at hx
          rcases List.mem_append.1 hx with h1 | h1
          · have := hstm.2 x h1; omega
          · simp at h1; subst h1; exact Nat.lt_succ_self _
    | some q =>
      obtain ⟨j, v⟩ := q
      rw [hfk] at hf
      obtain ⟨_, m, hj, p, hp1, hp2, hset⟩ := fk_some hfk
      obtain rfl : j = m := by omega
      have hlen : arr.toList.length = es.length := by have := congrArg List.length ha; simpa using this
      have hjl : j < es.length := (List.getElem?_eq_some_iff.1 hp1).1
      have hja : j < arr.size := by rw [← Array.length_toList, hlen]; exact hjl
      have hkey : (arr[j]?).map (·.key) = some (kc k) := by
        have h1 := congrArg (fun l => l[j]?) ha
        simp only [List.getElem?_map, hp1, Option.map_some] at h1
        rw [Array.getElem?_toList, Array.getElem?_eq_getElem hja] at h1
        rw [Array.getElem?_eq_getElem hja]
        simp only [Option.map_some, Option.some.injEq, Prod.mk.injEq] at h1 ⊢
        rw [h1.1, hp2]
      refine ⟨arr.modify j fun e' => { e' with key := kc k, val := vc e }, clock, ?_, ?_, ?_⟩
      · have hst : (Instr.keyThatStays (kc k) (kc k)).run P w = .ok (kc k) w := by
          unfold Instr.keyThatStays
          rw [if_pos (hK.bits k)]; rfl
        simp only [Instr.mapUpdate, Sem.run_bind, run_underlying hu, hgo, hc, hf, Result.andThen_ok, Option.map_some, hkey, Option.getD_some, hst, MapKept.run_setObj_map _ hg']
      · rw [hset e]
        apply List.ext_getElem?
        intro q
        have h1 := congrArg (fun l => l[q]?) ha
        simp only [List.getElem?_map] at h1 ⊢
        rw [Array.getElem?_toList, Array.getElem?_modify, List.getElem?_set]
        rw [Array.getElem?_toList] at h1
        by_cases hq : j = q
        · subst hq
          rw [if_pos rfl, if_pos rfl, if_pos hjl, Array.getElem?_eq_getElem hja]
          rfl
        · rw [if_neg hq, if_neg hq]
          exact h1
      · have hb : (arr.modify j fun e' => { e' with key := kc k, val := vc e }).toList.map (·.born) = arr.toList.map (·.born) := by
          apply List.ext_getElem?
          intro q
          simp only [List.getElem?_map]
          rw [Array.getElem?_toList, Array.getElem?_modify, Array.getElem?_toList]
          by_cases hq : j = q
          · subst hq; rw [if_pos rfl, Array.getElem?_eq_getElem hja]; rfl
          · rw [if_neg hq]
        refine ⟨by rw [hb]; exact hstm.1, fun x hx => ?_⟩
        have h2 : x.born ∈ arr.toList.map (·.born) := by rw [← hb]; exact List.mem_map.2 ⟨x, hx, rfl⟩
        obtain ⟨y, hy, e2⟩ := List.mem_map.1 h2
        rw [← e2]; exact hstm.2 y hy
  obtain ⟨arr', clock', hrun, hpairs, hstm'⟩ := key
  have hlt := hp_lt hg
  refine wo_runS hd (w' := { w with heap := w.heap.setIfInBounds g (.map arr' clock') }) ?_ (h _ ?_)
  · intro n c he
    unfold execOp
    rcases hop with hop | hop <;> simp only [hop, he.eval hx, he.eval hy, he.eval hz, hrun, Sem.run_bind, Result.andThen_ok, Sem.run_pure]
  · refine S.step hi hH (like_setB w g _) (fun b _ hb => ?_) ⟨arr', clock', ?_, hpairs, hstm'⟩ (fun b hb => ⟨.inl hb, ?_⟩)
    · have hne : b ≠ g := by simpa [Rs.mp] using hb
      show (w.heap.setIfInBounds g _)[b]? = w.heap[b]?
      rw [Array.getElem?_setIfInBounds_ne (Ne.symm hne)]
    · show (w.heap.setIfInBounds g _)[g]? = _
      simp [hlt]
    · simp [Rs.mp] at hb
      subst hb
      show _ < (w.heap.setIfInBounds _ _).size
      simpa using hlt
end
end Go.Proofs.Ytkcighnochjlgaa
namespace Go.Proofs.Ytkcighnochjlgaa
open Go.ChangeShapes Go.WideShapes Go.ChangeAt Go.RowKit
theorem mk3 : MapK Try.prog 3 (Value.int .i64) := mapK_int Try.underlying3
theorem se86 : StEq Try.prog 86 [(0, false), (1, false)] := ⟨[_, _], Try.underlying86, ⟨⟨by kernel_rfl, rfl, ⟨_, Try.underlying3⟩⟩, ⟨by kernel_rfl, rfl, ⟨_, Try.underlying3⟩⟩, trivial⟩, by kernel_rfl, by kernel_rfl⟩
theorem sl36 : SlOf Try.prog 36 cdInt := ⟨.int .i64 0, Try.underlying36, by kernel_rfl, rfl, by decide, by decide⟩
theorem sl37 : SlOf Try.prog 37 (cdV 43) := ⟨.slice none 0 0, Try.underlying37, by kernel_rfl, rfl, by decide, by decide⟩
theorem sl43 : SlOf Try.prog 43 (cdV 22) := ⟨.slice none 0 0, Try.underlying43, by kernel_rfl, rfl, by decide, by decide⟩
theorem sl66 : SlOf Try.prog 66 (cdV 36) := ⟨.slice none 0 0, Try.underlying66, by kernel_rfl, rfl, by decide, by decide⟩
theorem sl90 : SlOf Try.prog 90 (cdV 91) := ⟨.slice none 0 0, Try.underlying90, by kernel_rfl, rfl, by decide, by decide⟩
end Go.Proofs.Ytkcighnochjlgaa
namespace Go.Proofs.Ytkcighnochjlgaa
open Go.ChangeShapes Go.WideShapes Go.ChangeAt Go.RowKit
def md (x : Int) : Int := x % 18446744073709551616
theorem wr_md {x y : Int} : wr x = wr y ↔ md x = md y := by unfold wr md; rw [IntKind.wrap_i64, IntKind.wrap_i64]; omega
theorem md_wr (x : Int) : md (wr x) = md x := by unfold wr md; rw [IntKind.wrap_i64]; omega
theorem wr_idem (x : Int) : wr (wr x) = wr x := wr_md.2 (md_wr x)
theorem md_add {a b c d : Int} (h : md a = md b) (k : md c = md d) : md (a + c) = md (b + d) := by
  unfold md at *; omega
theorem md_neg {a b : Int} (h : md a = md b) : md (-a) = md (-b) := by
  unfold md at *; omega
theorem md_mul {a b c d : Int} (h : md a = md b) (k : md c = md d) : md (a * c) = md (b * d) := by
  unfold md at *
  rw [Int.mul_emod, h, k, ← Int.mul_emod]
theorem md_range {x : Int} (h : wr x = x) (k : md x = 0) : x = 0 := by
  have h1 : wr x = wr 0 := wr_md.2 (by rw [k]; rfl)
  rw [h] at h1
  rw [h1]
  exact wr_id (by omega)
theorem wr_add2 (x y : Int) : wr (x + wr y) = wr (x + y) := wr_md.2 (md_add rfl (md_wr y))
abbrev Tms := List (Int × Int)
/-- The value of a test at a polynomial. -/
def ev : Tms → (Int → Int) → Int
  | [], _ => 0
  | p :: r, φ => p.2 * φ (wr p.1) + ev r φ
theorem ev_append (P Q : Tms) (φ : Int → Int) : ev (P ++ Q) φ = ev P φ + ev Q φ := by
  induction P with
  | nil => simp [ev]
  | cons p P ih => simp only [List.cons_append, ev, ih]; omega
theorem ev_add (P : Tms) (φ ψ : Int → Int) : ev P (fun x => φ x + ψ x) = ev P φ + ev P ψ := by
  induction P with
  | nil => rfl
  | cons p P ih => simp only [ev, ih, Int.mul_add]; omega
theorem ev_zero (P : Tms) : ev P (fun _ => 0) = 0 := by
  induction P with
  | nil => rfl
  | cons p P ih => simp only [ev, ih]; omega
theorem ev_mul (P : Tms) (c : Int) (φ : Int → Int) : ev P (fun x => c * φ x) = c * ev P φ := by
  induction P with
  | nil => simp [ev]
  | cons p P ih => simp only [ev, ih, Int.mul_add, Int.mul_left_comm]
theorem ev_swap (P Q : Tms) (ψ : Int → Int → Int) : ev P (fun x => ev Q (ψ x)) = ev Q (fun y => ev P (fun x => ψ x y)) := by
  induction P with
  | nil => simp only [ev]; rw [ev_zero]
  | cons p P ih => simp only [ev]; rw [ih, ev_add, ev_mul]
theorem ev_cong (P : Tms) {φ ψ : Int → Int} (h : ∀ x, md (φ x) = md (ψ x)) : md (ev P φ) = md (ev P ψ) := by
  induction P with
  | nil => rfl
  | cons p P ih => exact md_add (md_mul rfl (h _)) ih
theorem ev_map (P : Tms) (f : Int × Int → Int × Int) (c : Int) (g : Int → Int) (hf : ∀ p, (f p).2 = p.2 * c) (hg : ∀ p : Int × Int, wr (f p).1 = g (wr p.1)) (φ : Int → Int) : ev (P.map f) φ = c * ev P (fun x => φ (g x)) := by
  induction P with
  | nil => simp [ev]
  | cons p P ih => simp only [List.map_cons, ev, ih, hf, hg, Int.mul_add]; rw [Int.mul_comm p.2 c, Int.mul_assoc]
def cf (P : Tms) (k : Int) : Int := ev P (fun x => if x = k then 1 else 0)
theorem cf_cons (p : Int × Int) (P : Tms) (k : Int) : cf (p :: P) k = (if wr p.1 = k then p.2 else 0) + cf P k := by
  unfold cf; simp only [ev]; split <;> simp
def eqv (P Q : Tms) : Prop := ∀ φ, md (ev P φ) = md (ev Q φ)
theorem eqv.refl (P : Tms) : eqv P P := fun _ => rfl
theorem eqv.symm {P Q : Tms} (h : eqv P Q) : eqv Q P := fun φ => (h φ).symm
theorem eqv.trans {P Q R : Tms} (h : eqv P Q) (k : eqv Q R) : eqv P R := fun φ => (h φ).trans (k φ)
def negT (P : Tms) : Tms := P.map fun p => (p.1, -p.2)
theorem ev_negT (P : Tms) (φ : Int → Int) : ev (negT P) φ = - ev P φ := by
  have := ev_map P (fun p => (p.1, -p.2)) (-1) id (fun p => by simp only; omega) (fun p => rfl) φ
  unfold negT
  rw [this]
  show -1 * ev P φ = _
  omega
def prodT (P Q : Tms) : Tms := P.flatMap fun p => Q.map fun q => (p.1 + q.1, p.2 * q.2)
theorem ev_prodT (P Q : Tms) (φ : Int → Int) : ev (prodT P Q) φ = ev P (fun x => ev Q (fun y => φ (wr (x + y)))) := by
  induction P with
  | nil => rfl
  | cons p P ih =>
    have e : ∀ Q : Tms, ev (Q.map fun q => (p.1 + q.1, p.2 * q.2)) φ = p.2 * ev Q (fun y => φ (wr (wr p.1 + y))) := fun Q => by
      have := ev_map Q (fun q => (p.1 + q.1, p.2 * q.2)) p.2 (fun y => wr (wr p.1 + y)) (fun q => Int.mul_comm _ _) (fun q => by simp only; rw [wr_add2, wr_wr]) φ
      exact this
    show ev ((Q.map fun q => (p.1 + q.1, p.2 * q.2)) ++ prodT P Q) φ = _
    rw [ev_append, ih, e]
    rfl
theorem eqv_append {P P' Q Q' : Tms} (h : eqv P P') (k : eqv Q Q') : eqv (P ++ Q) (P' ++ Q') := fun φ => by
  rw [ev_append, ev_append]; exact md_add (h φ) (k φ)
theorem eqv_prod {P P' Q Q' : Tms} (h : eqv P P') (k : eqv Q Q') : eqv (prodT P Q) (prodT P' Q') := fun φ => by
  rw [ev_prodT, ev_prodT]
  exact (h _).trans (ev_cong _ fun x => k _)
theorem eqv_neg {P P' : Tms} (h : eqv P P') : eqv (negT P) (negT P') := fun φ => by
  rw [ev_negT, ev_negT]; exact md_neg (h φ)
def polS : Setoid Tms := ⟨eqv, eqv.refl, eqv.symm, eqv.trans⟩
def Pol := Quotient polS
def mk (P : Tms) : Pol := Quotient.mk polS P
theorem mk_eq {P Q : Tms} (h : eqv P Q) : mk P = mk Q := Quotient.sound (s := polS) h
theorem mk_eqv {P Q : Tms} (h : mk P = mk Q) : eqv P Q := Quotient.exact (s := polS) h
theorem Pol.ind {p : Pol → Prop} (h : ∀ P, p (mk P)) (x : Pol) : p x := Quotient.ind (s := polS) h x
def Pol.add (x y : Pol) : Pol := Quotient.liftOn₂ (s₁ := polS) (s₂ := polS) x y (fun P Q => mk (P ++ Q)) fun _ _ _ _ h k => mk_eq (eqv_append h k)
def Pol.mul (x y : Pol) : Pol := Quotient.liftOn₂ (s₁ := polS) (s₂ := polS) x y (fun P Q => mk (prodT P Q)) fun _ _ _ _ h k => mk_eq (eqv_prod h k)
def Pol.neg (x : Pol) : Pol := Quotient.liftOn (s := polS) x (fun P => mk (negT P)) fun _ _ h => mk_eq (eqv_neg h)
instance : Add Pol := ⟨Pol.add⟩
instance : Mul Pol := ⟨Pol.mul⟩
instance : Neg Pol := ⟨Pol.neg⟩
def Pol.o : Pol := mk []
def Pol.i : Pol := mk [(0, 1)]
def mono (e c : Int) : Pol := mk [(e, c)]
theorem mk_append (P Q : Tms) : mk (P ++ Q) = mk P + mk Q := rfl
theorem mk_cons (p : Int × Int) (P : Tms) : mk (p :: P) = mono p.1 p.2 + mk P := rfl
theorem Pol.add_comm (x y : Pol) : x + y = y + x := by
  induction x using Pol.ind with | _ P =>
  induction y using Pol.ind with | _ Q =>
  exact mk_eq fun φ => by rw [ev_append, ev_append, Int.add_comm]
theorem Pol.add_assoc (x y z : Pol) : x + y + z = x + (y + z) := by
  induction x using Pol.ind with | _ P =>
  induction y using Pol.ind with | _ Q =>
  induction z using Pol.ind with | _ R =>
  exact mk_eq fun φ => by simp only [ev_append, Int.add_assoc]
theorem Pol.add_zero (x : Pol) : x + Pol.o = x := by
  induction x using Pol.ind with | _ P =>
  exact mk_eq fun φ => by rw [List.append_nil]
theorem Pol.zero_add (x : Pol) : Pol.o + x = x := by rw [Pol.add_comm, Pol.add_zero]
theorem Pol.mul_comm (x y : Pol) : x * y = y * x := by
  induction x using Pol.ind with | _ P =>
  induction y using Pol.ind with | _ Q =>
  exact mk_eq fun φ => by rw [ev_prodT, ev_prodT, ev_swap]; simp only [Int.add_comm]
theorem Pol.mul_assoc (x y z : Pol) : x * y * z = x * (y * z) := by
  induction x using Pol.ind with | _ P =>
  induction y using Pol.ind with | _ Q =>
  induction z using Pol.ind with | _ R =>
  exact mk_eq fun φ => by simp only [ev_prodT, wr_wr, wr_add2, Int.add_assoc]
theorem Pol.mul_add (x y z : Pol) : x * (y + z) = x * y + x * z := by
  induction x using Pol.ind with | _ P =>
  induction y using Pol.ind with | _ Q =>
  induction z using Pol.ind with | _ R =>
  exact mk_eq fun φ => by simp only [ev_prodT, ev_append, ev_add]
theorem Pol.add_mul (x y z : Pol) : (x + y) * z = x * z + y * z := by rw [Pol.mul_comm, Pol.mul_add, Pol.mul_comm z x, Pol.mul_comm z y]
theorem Pol.mul_zero (x : Pol) : x * Pol.o = Pol.o := by
  induction x using Pol.ind with | _ P =>
  exact mk_eq fun φ => by rw [ev_prodT]; simp only [ev]; rw [ev_zero]
theorem Pol.zero_mul (x : Pol) : Pol.o * x = Pol.o := by rw [Pol.mul_comm, Pol.mul_zero]
theorem Pol.mul_one (x : Pol) : x * Pol.i = x := by
  induction x using Pol.ind with | _ P =>
  refine mk_eq fun φ => ?_
  rw [ev_prodT]
  have e : ∀ Q : Tms, ev Q (fun x => ev [(0, 1)] (fun y => φ (wr (x + y)))) = ev Q φ := by
    intro Q
    induction Q with
    | nil => rfl
    | cons q Q ih =>
      have h0 : wr 0 = 0 := wr_id (by omega)
      show q.2 * (1 * φ (wr (wr q.1 + wr 0)) + 0) + _ = q.2 * φ (wr q.1) + _
      rw [h0, show wr (wr q.1 + 0) = wr q.1 from by rw [Int.add_zero, wr_idem], ih, Int.one_mul, Int.add_zero]
  rw [e]
theorem Pol.one_mul (x : Pol) : Pol.i * x = x := by rw [Pol.mul_comm, Pol.mul_one]
instance : Std.Associative (α := Pol) (· + ·) := ⟨Pol.add_assoc⟩
instance : Std.Commutative (α := Pol) (· + ·) := ⟨Pol.add_comm⟩
instance : Std.Associative (α := Pol) (· * ·) := ⟨Pol.mul_assoc⟩
instance : Std.Commutative (α := Pol) (· * ·) := ⟨Pol.mul_comm⟩
theorem mono_congr {e e' c c' : Int} (he : wr e = wr e') (hc : md c = md c') : mono e c = mono e' c' := mk_eq fun φ => by
  show md (c * φ (wr e) + 0) = md (c' * φ (wr e') + 0)
  rw [he]
  exact md_add (md_mul hc rfl) rfl
theorem mono_zero (e : Int) : mono e 0 = Pol.o := mk_eq fun φ => by simp [ev]
theorem mono_add (e c d : Int) : mono e (c + d) = mono e c + mono e d := mk_eq fun φ => by
  show md ((c + d) * φ (wr e) + 0) = md (c * φ (wr e) + (d * φ (wr e) + 0))
  rw [Int.add_mul]; congr 1; omega
theorem mono_mul (e c f d : Int) : mono e c * mono f d = mono (e + f) (c * d) := rfl
theorem mk_perm {P Q : Tms} (h : P.Perm Q) : mk P = mk Q := by
  induction h with
  | nil => rfl
  | cons x _ ih => rw [mk_cons, mk_cons, ih]
  | swap x y l => simp only [mk_cons]; rw [← Pol.add_assoc, ← Pol.add_assoc, Pol.add_comm (mono y.1 y.2)]
  | trans _ _ h1 h2 => exact h1.trans h2
structure Tm where
  e : Int
  c : Int
instance : Inhabited Tm := ⟨⟨0, 0⟩⟩
def pr (l : List Tm) : Tms := l.map fun t => (t.e, t.c)
def Can (l : List Tm) : Prop := l.Pairwise (fun s t => s.e < t.e) ∧ ∀ t ∈ l, t.c ≠ 0 ∧ wr t.c = t.c ∧ wr t.e = t.e
theorem Can.nil_ : Can [] := ⟨List.Pairwise.nil, by simp⟩
theorem Can.tail {t : Tm} {l : List Tm} (h : Can (t :: l)) : Can l := ⟨(List.pairwise_cons.1 h.1).2, fun s hs => h.2 s (by simp [hs])⟩
theorem cf_pr_zero {l : List Tm} (h : ∀ t ∈ l, wr t.e = t.e) {k : Int} (hk : ∀ t ∈ l, t.e ≠ k) : cf (pr l) k = 0 := by
  induction l with
  | nil => rfl
  | cons t l ih =>
    rw [show pr (t :: l) = (t.e, t.c) :: pr l from rfl, cf_cons, ih (fun s hs => h s (by simp [hs])) (fun s hs => hk s (by simp [hs]))]
    simp only [h t (by simp)]
    rw [if_neg (hk t (by simp))]; rfl
theorem can_cf {l : List Tm} (h : Can l) {t : Tm} (ht : t ∈ l) : cf (pr l) t.e = t.c := by
  induction l with
  | nil => simp at ht
  | cons s l ih =>
    rw [show pr (s :: l) = (s.e, s.c) :: pr l from rfl, cf_cons]
    simp only [(h.2 s (by simp)).2.2]
    have hs := (List.pairwise_cons.1 h.1).1
    rcases List.mem_cons.1 ht with rfl | ht
    · rw [if_pos rfl, cf_pr_zero (fun u hu => (h.2 u (by simp [hu])).2.2) (fun u hu e => by have := hs u hu; omega)]; omega
    · rw [if_neg (fun e => by have := hs t ht; omega), ih h.tail ht]; omega
theorem can_mem {l : List Tm} (h : Can l) {k : Int} (hk : cf (pr l) k ≠ 0) : (⟨k, cf (pr l) k⟩ : Tm) ∈ l := by
  by_cases he : ∃ t ∈ l, t.e = k
  · obtain ⟨t, ht, rfl⟩ := he
    rw [can_cf h ht]; exact ht
  · exact absurd (cf_pr_zero (fun u hu => (h.2 u hu).2.2) (fun t ht e => he ⟨t, ht, e⟩)) hk
theorem can_sub {a b : List Tm} (ha : Can a) (hb : Can b) (h : mk (pr a) = mk (pr b)) {t : Tm} (ht : t ∈ a) : t ∈ b := by
  have h1 := can_cf ha ht
  have h2 : md (cf (pr a) t.e) = md (cf (pr b) t.e) := mk_eqv h _
  obtain ⟨c1, c2, c3⟩ := ha.2 t ht
  rw [h1] at h2
  have hne : cf (pr b) t.e ≠ 0 := fun e0 => c1 (md_range c2 (by rw [h2, e0]; rfl))
  have hm := can_mem hb hne
  have h3 : cf (pr b) t.e = t.c := by
    have := (hb.2 _ hm).2.1
    have h4 : wr (cf (pr b) t.e) = wr t.c := wr_md.2 h2.symm
    exact this.symm.trans (h4.trans c2)
  rw [h3] at hm
  exact hm
theorem sorted_ext : ∀ {a b : List Tm}, a.Pairwise (fun s t => s.e < t.e) → b.Pairwise (fun s t => s.e < t.e) → (∀ t, t ∈ a ↔ t ∈ b) → a = b
  | [], [], _, _, _ => rfl
  | [], t :: b, _, _, h => by have := (h t).2 (by simp); simp at this
  | t :: a, [], _, _, h => by have := (h t).1 (by simp); simp at this
  | s :: a, t :: b, ha, hb, h => by
    obtain ⟨a1, a2⟩ := List.pairwise_cons.1 ha
    obtain ⟨b1, b2⟩ := List.pairwise_cons.1 hb
    have hst : s = t := by
      have h1 := (h s).1 (by simp)
      have h2 := (h t).2 (by simp)
      rcases List.mem_cons.1 h1 with e | h1
      · exact e
      · rcases List.mem_cons.1 h2 with e | h2
        · exact e.symm
        · have := a1 t h2; have := b1 s h1; omega
    subst hst
    refine congrArg _ (sorted_ext a2 b2 fun u => ⟨fun hu => ?_, fun hu => ?_⟩)
    · rcases List.mem_cons.1 ((h u).1 (by simp [hu])) with e | h1
      · subst e; have := a1 u hu; omega
      · exact h1
    · rcases List.mem_cons.1 ((h u).2 (by simp [hu])) with e | h1
      · subst e; have := b1 u hu; omega
      · exact h1
theorem can_ext {a b : List Tm} (ha : Can a) (hb : Can b) (h : mk (pr a) = mk (pr b)) : a = b :=
  sorted_ext ha.1 hb.1 fun _ => ⟨can_sub ha hb h, can_sub hb ha h.symm⟩
/-- A term put into a polynomial in form. -/
def put : List Tm → Int → Int → List Tm
  | [], e, c => if c = 0 then [] else [⟨e, c⟩]
  | t :: l, e, c => if c = 0 then t :: l else if t.e < e then t :: put l e c else if t.e = e then (if wr (t.c + c) = 0 then l else ⟨e, wr (t.c + c)⟩ :: l) else ⟨e, c⟩ :: t :: l
theorem put_zero (l : List Tm) (e : Int) : put l e 0 = l := by cases l <;> simp [put]
theorem mk_put (l : List Tm) (e c : Int) : mk (pr (put l e c)) = mk (pr l) + mono e c := by
  induction l with
  | nil =>
    unfold put
    split
    · rename_i h; subst h; rw [mono_zero, Pol.add_zero]
    · show mono e c + Pol.o = Pol.o + mono e c
      rw [Pol.add_comm]
  | cons t l ih =>
    unfold put
    split
    · rename_i h; subst h; rw [mono_zero, Pol.add_zero]
    · split
      · show mono t.e t.c + mk (pr (put l e c)) = mono t.e t.c + mk (pr l) + mono e c
        rw [ih, Pol.add_assoc]
      · split
        · rename_i he
          subst he
          have h1 : mono t.e (wr (t.c + c)) = mono t.e t.c + mono t.e c := by rw [← mono_add]; exact mono_congr rfl (md_wr _)
          split
          · rename_i h0
            show mk (pr l) = mono t.e t.c + mk (pr l) + mono t.e c
            rw [h0, mono_zero] at h1
            rw [Pol.add_assoc, Pol.add_comm (mk (pr l)), ← Pol.add_assoc, ← h1, Pol.zero_add]
          · show mono t.e (wr (t.c + c)) + mk (pr l) = mono t.e t.c + mk (pr l) + mono t.e c
            rw [h1, Pol.add_assoc, Pol.add_assoc, Pol.add_comm (mono t.e c)]
        · show mono e c + (mono t.e t.c + mk (pr l)) = mono t.e t.c + mk (pr l) + mono e c
          rw [Pol.add_comm]
theorem put_mem {l : List Tm} {e c : Int} {u : Tm} (hu : u ∈ put l e c) : u.e = e ∨ u ∈ l := by
  induction l with
  | nil =>
    unfold put at hu
    split at hu
    · simp at hu
    · simp at hu; subst hu; exact .inl rfl
  | cons t l ih =>
    unfold put at hu
    split at hu
    · exact .inr hu
    · split at hu
      · rcases List.mem_cons.1 hu with h | h
        · subst h; exact .inr (by simp)
        · rcases ih h with h | h
          · exact .inl h
          · exact .inr (by simp [h])
      · split at hu
        · split at hu
          · exact .inr (by simp [hu])
          · rcases List.mem_cons.1 hu with h | h
            · subst h; exact .inl rfl
            · exact .inr (by simp [h])
        · rcases List.mem_cons.1 hu with h | h
          · subst h; exact .inl rfl
          · exact .inr h
theorem put_can {l : List Tm} (h : Can l) {e c : Int} (he : wr e = e) (hc : wr c = c) : Can (put l e c) := by
  induction l with
  | nil =>
    unfold put
    split
    · exact Can.nil_
    · rename_i h0
      exact ⟨List.pairwise_singleton _ _, fun t ht => by simp at ht; subst ht; exact ⟨h0, hc, he⟩⟩
  | cons t l ih =>
    obtain ⟨h1, h2⟩ := List.pairwise_cons.1 h.1
    have ih := ih h.tail
    unfold put
    split
    · exact h
    · rename_i h0
      split
      · rename_i hlt
        refine ⟨List.pairwise_cons.2 ⟨fun u hu => ?_, ih.1⟩, fun u hu => ?_⟩
        · rcases put_mem hu with e' | h'
          · omega
          · exact h1 u h'
        · rcases List.mem_cons.1 hu with e' | h'
          · subst e'; exact h.2 _ (by simp)
          · exact ih.2 u h'
      · split
        · rename_i hle heq
          split
          · exact h.tail
          · rename_i hn
            refine ⟨List.pairwise_cons.2 ⟨fun u hu => ?_, h2⟩, fun u hu => ?_⟩
            · have := h1 u hu; show e < u.e; omega
            · rcases List.mem_cons.1 hu with e' | h'
              · subst e'; exact ⟨hn, wr_idem _, he⟩
              · exact h.2 u (by simp [h'])
        · rename_i hle hne
          refine ⟨List.pairwise_cons.2 ⟨fun u hu => ?_, h.1⟩, fun u hu => ?_⟩
          · show e < u.e
            rcases List.mem_cons.1 hu with e' | h'
            · subst e'; omega
            · have := h1 u h'; omega
          · rcases List.mem_cons.1 hu with e' | h'
            · subst e'; exact ⟨h0, hc, he⟩
            · exact h.2 u h'
end Go.Proofs.Ytkcighnochjlgaa
namespace Go.Proofs.Ytkcighnochjlgaa
section
variable (m : Nat → Nat → Pol) (N : Nat)
variable {m N}
end
instance : Inhabited Pol := ⟨Pol.o⟩
end Go.Proofs.Ytkcighnochjlgaa
namespace Go.Proofs.Ytkcighnochjlgaa
open Go.ChangeShapes Go.WideShapes Go.ChangeAt Go.RowKit Go.Sort
def srt (xs : List Int) : List Int := xs.mergeSort fun x y => decide (x ≤ y)
theorem srt_perm (xs : List Int) : (srt xs).Perm xs := List.mergeSort_perm _ _
theorem srt_len (xs : List Int) : (srt xs).length = xs.length := (srt_perm xs).length_eq
theorem srt_mem {xs : List Int} {x : Int} : x ∈ srt xs ↔ x ∈ xs := (srt_perm xs).mem_iff
theorem flat_int (xs : List Int) : xs.flatMap cdInt.f = xs.map (Value.int .i64) := by
  induction xs with
  | nil => rfl
  | cons x xs ih => simp only [List.flatMap_cons, ih, List.map_cons]; rfl
theorem SH.sorted {w : World} {M : Hp} {X : Fr} {g cap n : Nat} {xs ys : List Int} {os : Array Obj} (S : SH w M X [Rs.row cdInt (.slice (some ⟨g, 0, none⟩) xs.length cap) xs]) (hl : ys.length = xs.length) :
    SH (Go.Sort.grow (putRow (Value.int .i64) (Go.Sort.ahead w n) g 0 ys.toArray) os) M X [Rs.row cdInt (.slice (some ⟨g, 0, none⟩) xs.length cap) ys] := by
  have hok : RowOk cdInt (.slice (some ⟨g, 0, none⟩) xs.length cap) xs (hp w) := S.get (i := 0) rfl
  rcases hok with ⟨h1, _⟩ | ⟨g', cap', cur, h1, h2, h3, h4, h5, h6⟩
  · cases h1
  cases h1
  have gb := grownBy_sortedI (w := w) (g := g) (n := n) (os := os) ys.toArray
  have h5' : cur.size = cap := h5.trans (Nat.mul_one _)
  refine S.step (i := 0) (H' := [Rs.row cdInt (.slice (some ⟨g, 0, none⟩) xs.length cap) ys]) rfl rfl ⟨gb.os, gb.tape, gb.output, gb.size⟩ (fun b hb hn => ?_) ?_ (fun b hb => ⟨.inl hb, ?_⟩)
  · exact gb.block b hb (fun e => hn (by injection e with e; subst e; simp [Rs.row, Value.ownBlock]))
  · refine .inr ⟨g, cap, _, by rw [hl], heap_sortedI _ h2, by rw [hl]; exact h3, h4, by simp [putCells, h5'] ; exact (Nat.mul_one _).symm, ?_⟩
    rw [flat_int, show ys.length * cdInt.k = ys.length from Nat.mul_one _]
    exact take_putCellsI cur ys (by omega)
  · have hg : g < w.heap.size := hp_lt h2
    have e : b = g := by simpa [Rs.row, Value.ownBlock] using hb
    subst e
    exact Nat.lt_of_lt_of_le hg gb.size
theorem SH.holdsI {w : World} {M : Hp} {X : Fr} {g cap : Nat} {xs : List Int} (S : SH w M X [Rs.row cdInt (.slice (some ⟨g, 0, none⟩) xs.length cap) xs]) : Holds (Value.int .i64) w g 0 xs.toArray ∧ g < w.heap.size := by
  have hok : RowOk cdInt (.slice (some ⟨g, 0, none⟩) xs.length cap) xs (hp w) := S.get (i := 0) rfl
  rcases hok with ⟨h1, _⟩ | ⟨g', cap', cur, h1, h2, h3, h4, h5, h6⟩
  · cases h1
  cases h1
  refine ⟨holds_of_blockI h2 ?_, hp_lt h2⟩
  rw [flat_int, show xs.length * cdInt.k = xs.length from Nat.mul_one _] at h6
  exact h6
/-- slices.Sort: the row holds the same numbers, sorted. -/
theorem c1_sort {P : Program} {ρ : Go.Shelf.Ren} (L : Lays.n189 P ρ) {w : World} {M : Hp} {X : Fr} {v : Value} {xs : List Int} (hsz : xs.length < 4611686018427387904) (S : SH w M X [Rs.row cdInt v xs]) :
    C1 P (ρ.f 189) [v] w M X fun u M' r' => u = .tuple #[] ∧ M' = M ∧ r' = Rs.row cdInt v (srt xs) := by
  have hok : RowOk cdInt v xs (hp w) := S.get (i := 0) rfl
  rcases hok with ⟨h1, h2⟩ | ⟨g, cap, cur, h1, _⟩
  · subst h1; subst h2
    refine (Any.slices_Sort_int_none L none 0 w).mono ?_
    rintro e w' ⟨rfl, rfl⟩
    exact ⟨_, rfl, M, _, Hp.le_refl _, S, rfl, rfl, by simp [srt]⟩
  · subst h1
    obtain ⟨hH, hb⟩ := S.holdsI
    refine (Any.slices_Sort_int L g 0 cap xs w hH hb hsz).mono ?_
    rintro e w' ⟨rfl, n, os, rfl⟩
    exact ⟨_, rfl, M, _, Hp.le_refl _, S.sorted (srt_len xs), rfl, rfl, rfl⟩
end Go.Proofs.Ytkcighnochjlgaa
namespace Go.Proofs.Ytkcighnochjlgaa
open Go.ChangeShapes Go.WideShapes Go.ChangeAt Go.RowKit
open Go.ChangeMaps (setBlock)
theorem MpOk.mono {κ ε : Type} {kc : κ → Value} {vc : ε → Value} {g : Nat} {es : List (κ × ε)} {N N' : Hp} (h : MpOk kc vc g es N) (k : N.le N') : MpOk kc vc g es N' := by
  obtain ⟨arr, clock, h1, h2, h3⟩ := h
  exact ⟨arr, clock, k _ _ h1, h2, h3⟩
/-- An iterator over a map that stays as it is. -/
def Rs.itr (g clock r : Nat) (seen : Array Nat) : Rs := ⟨[r], fun h => h r = some (.mapIter (some g) clock seen clock), fun h h' hb hk => by rw [hb r (by simp)]; exact hk⟩
section
variable {κ ε : Type}
/-- The map's entries. -/
def MpEs (kc : κ → Value) (vc : ε → Value) (N : Hp) (g : Nat) (arr : Array MapEntry) (clock : Nat) (es : List (κ × ε)) : Prop := N g = some (.map arr clock) ∧ arr.toList.map (fun e => (e.key, e.val)) = es.map (fun p => (kc p.1, vc p.2)) ∧ Stm arr clock
/-- What is left to come. -/
def Lft (kc : κ → Value) (vc : ε → Value) (arr : Array MapEntry) (seen : Array Nat) (lf : List (κ × ε)) : Prop := (leftOf arr seen).toList.map (fun e => (e.key, e.val)) = lf.map (fun p => (kc p.1, vc p.2))
/-- The entry that came last. -/
def Lst (kc : κ → Value) (vc : ε → Value) (arr : Array MapEntry) (seen : Array Nat) (k : κ) (v : ε) : Prop := ∃ (e : MapEntry) (s0 : Array Nat), seen = s0.push e.born ∧ e ∈ arr.toList ∧ e.key = kc k ∧ e.val = vc v
variable {kc : κ → Value} {vc : ε → Value} {N : Hp} {arr : Array MapEntry} {clock g : Nat} {es lf : List (κ × ε)} {seen : Array Nat}
theorem MpEs.mono {N' : Hp} (h : MpEs kc vc N g arr clock es) (k : N.le N') : MpEs kc vc N' g arr clock es := ⟨k _ _ h.1, h.2⟩
theorem MpOk.ents (h : MpOk kc vc g es N) : ∃ arr clock, MpEs kc vc N g arr clock es := by
  obtain ⟨arr, clock, h⟩ := h
  exact ⟨arr, clock, h⟩
theorem left_empty (arr : Array MapEntry) : leftOf arr #[] = arr := by unfold leftOf; simp
theorem MpEs.lft (h : MpEs kc vc N g arr clock es) : Lft kc vc arr #[] es := by unfold Lft; rw [left_empty]; exact h.2.1
theorem left_push (arr : Array MapEntry) (seen : Array Nat) (b : Nat) : (leftOf arr (seen.push b)).toList = (leftOf arr seen).toList.filter fun e => !decide (e.born = b) := by
  unfold leftOf
  rw [Array.toList_filter, Array.toList_filter, List.filter_filter]
  refine List.filter_congr fun x _ => ?_
  have e : (seen.push b).contains x.born = (seen.contains x.born || decide (x.born = b)) := by
    rw [Bool.eq_iff_iff]
    simp [Array.mem_push]
  rw [e, Bool.not_or, Bool.and_comm]
theorem filter_one {l : List MapEntry} (hn : (l.map (·.born)).Nodup) {e : MapEntry} (he : e ∈ l) : ∃ a b, l = a ++ e :: b ∧ (l.filter fun x => !decide (x.born = e.born)) = a ++ b := by
  obtain ⟨a, b, rfl⟩ := List.append_of_mem he
  refine ⟨a, b, rfl, ?_⟩
  rw [List.map_append, List.map_cons] at hn
  obtain ⟨n1, n2, n3⟩ := List.nodup_append.1 hn
  rw [List.filter_append, List.filter_cons_of_neg (by simp)]
  have h1 : (a.filter fun x => !decide (x.born = e.born)) = a := List.filter_eq_self.2 fun x hx => by
    have := n3 x.born (List.mem_map.2 ⟨x, hx, rfl⟩) e.born (by simp)
    simp [this]
  have h2 : (b.filter fun x => !decide (x.born = e.born)) = b := List.filter_eq_self.2 fun x hx => by
    have := (List.nodup_cons.1 n2).1
    have hne : x.born ≠ e.born := fun e' => this (by rw [← e']; exact List.mem_map.2 ⟨x, hx, rfl⟩)
    simp [hne]
  rw [h1, h2]
theorem split_map : ∀ {a : List MapEntry} {e : MapEntry} {b : List MapEntry} {lf : List (κ × ε)}, (a ++ e :: b).map (fun e => (e.key, e.val)) = lf.map (fun p => (kc p.1, vc p.2)) → ∃ l1 p l2, lf = l1 ++ p :: l2 ∧ e.key = kc p.1 ∧ e.val = vc p.2 ∧ (a ++ b).map (fun e => (e.key, e.val)) = (l1 ++ l2).map (fun p => (kc p.1, vc p.2))
  | [], e, b, [], h => by simp at h
  | [], e, b, p :: lf, h => by
    simp only [List.nil_append, List.map_cons, List.cons.injEq, Prod.mk.injEq] at h
    exact ⟨[], p, lf, rfl, h.1.1, h.1.2, h.2⟩
  | x :: a, e, b, [], h => by simp at h
  | x :: a, e, b, q :: lf, h => by
    simp only [List.cons_append, List.map_cons, List.cons.injEq] at h
    obtain ⟨l1, p, l2, rfl, h1, h2, h3⟩ := split_map h.2
    exact ⟨q :: l1, p, l2, rfl, h1, h2, by simp only [List.cons_append, List.map_cons, h.1, h3]⟩
section
variable {P : Program} {o : Oper} {L : List (Nat × Value)} {w : World} {x : Operand} {T K E : TypeId} {n d r i : Nat} {Kt : List (Nat × Value) → World → Prop} {M : Hp} {X : Fr} {H : List Rs}
theorem wo_range (hop : o.op = .range T x) (hd : o.dst = some d) (hn : Nat.blt d n = true) (hx : oev L x = some (.map (some g))) (hu : P.underlying T = some (.map K E)) (S : SH w M X H) (hg : MpEs kc vc N g arr clock es) (hN : N.le (hp w))
    (h : ∀ r w', SH w' M X (Rs.itr g clock r #[] :: H) → Kt ((d, .pointer (some ⟨r, 0, none⟩)) :: L) w') : WO P n o L w Kt := by
  have hg' : w.heap[g]? = some (.map arr clock) := hN _ _ hg.1
  refine wo_run (v := .pointer (some ⟨w.heap.size, 0, none⟩)) (w' := w.alloc (.mapIter (some g) clock #[] clock)) hd hn ?_ (h _ _ ?_)
  · intro n c he
    unfold execOp
    simp only [hop, he.eval hx, run_range_map w T K E g arr clock hu hg', Sem.run_bind, Result.andThen_ok, Sem.run_pure]
  · exact S.cons (like_alloc w _) (keep_alloc w _) (heap_alloc_new w _) (fun b hb => by simp [Rs.itr] at hb; subst hb; rw [size_al]; omega)
theorem wo_next (hop : o.op = .next x false) (hd : o.dst = some d) (hn : Nat.blt d n = true) (hx : oev L x = some (.pointer (some ⟨r, 0, none⟩))) (S : SH w M X H) (hi : nth H i = some (Rs.itr g clock r seen)) (hg : MpEs kc vc N g arr clock es) (hN : N.le (hp w)) (hl : Lft kc vc arr seen lf)
    (h0 : lf = [] → Kt ((d, .tuple [.bool false].toArray) :: L) w)
    (h1 : ∀ k v l1 l2 seen' w', lf = l1 ++ (k, v) :: l2 → Lft kc vc arr seen' (l1 ++ l2) → Lst kc vc arr seen' k v → SH w' M X (H.set i (Rs.itr g clock r seen')) → Kt ((d, .tuple [.bool true, kc k, vc v].toArray) :: L) w') : WO P n o L w Kt := by
  have hg' : w.heap[g]? = some (.map arr clock) := hN _ _ hg.1
  have hr : w.heap[r]? = some (.mapIter (some g) clock seen clock) := S.get hi
  rcases run_next_at (P := P) w o.type r g clock clock seen arr clock hr hg' hg.2.2.2 (Nat.le_refl _) with ⟨e0, hrun⟩ | ⟨e, he, w1, hal, hrun⟩
  · refine wo_run (v := .tuple #[.bool false]) (w' := w) hd hn ?_ (h0 ?_)
    · intro n c he
      unfold execOp
      simp only [hop, he.eval hx, hrun, Sem.run_bind, Result.andThen_ok, Sem.run_pure]
    · have : leftOf arr seen = #[] := Array.eq_empty_of_size_eq_zero e0
      unfold Lft at hl
      rw [this] at hl
      cases lf with
      | nil => rfl
      | cons p l => simp at hl
  · obtain ⟨hem, _⟩ := mem_left he
    have hsub : ((leftOf arr seen).toList.map (·.born)).Nodup := by
      unfold leftOf; rw [Array.toList_filter]
      exact List.Nodup.sublist (List.Sublist.map _ List.filter_sublist) hg.2.2.1
    obtain ⟨a, b, hab, hf⟩ := filter_one hsub he
    unfold Lft at hl
    rw [hab] at hl
    obtain ⟨l1, p, l2, hlf, hk, hv, hl'⟩ := split_map hl
    have hrun' : (Instr.next (.pointer (some ⟨r, 0, none⟩)) false o.type).run P w = .ok (.tuple [.bool true, kc p.1, vc p.2].toArray) (setBlock w1 r (.mapIter (some g) clock (seen.push e.born) clock)) := by rw [hrun, hk, hv]
    have hr1 : w1.heap[r]? = some (.mapIter (some g) clock seen clock) := by rcases hal with rfl | rfl <;> exact hr
    have hset := Go.MapKept.heap_set (o' := .mapIter (some g) clock (seen.push e.born) clock) hr1
    have hlike : Like w w1 := by rcases hal with rfl | rfl <;> exact ⟨rfl, rfl, rfl, Nat.le_refl _⟩
    have hheap : w1.heap = w.heap := by rcases hal with rfl | rfl <;> rfl
    have hsz : (setBlock w1 r (.mapIter (some g) clock (seen.push e.born) clock)).heap.size = w1.heap.size := by simp [setBlock]
    refine wo_run (v := .tuple [.bool true, kc p.1, vc p.2].toArray) (w' := setBlock w1 r (.mapIter (some g) clock (seen.push e.born) clock)) hd hn ?_ (h1 p.1 p.2 l1 l2 (seen.push e.born) _ hlf ?_ ⟨e, seen, rfl, hem, hk, hv⟩ ?_)
    · intro n c he
      unfold execOp
      simp only [hop, he.eval hx, hrun', Sem.run_bind, Result.andThen_ok, Sem.run_pure]
    · unfold Lft
      rw [left_push, hf]
      exact hl'
    · refine S.step hi rfl (hlike.trans ⟨rfl, rfl, rfl, by rw [hsz]; exact Nat.le_refl _⟩) (fun b _ hb => ?_) hset.1 (fun b hb => ⟨.inl hb, ?_⟩)
      · have hne : b ≠ r := by simpa [Rs.itr] using hb
        show (setBlock w1 r _).heap[b]? = w.heap[b]?
        exact (hset.2 b hne).trans (by rw [hheap])
      · simp [Rs.itr] at hb
        subst hb
        rw [hsz, hheap]
        exact hp_lt hr
theorem run_entry (hop : o.op = .entry x) (hx : oev L x = some (.pointer (some ⟨r, 0, none⟩))) (S : SH w M X H) (hi : nth H i = some (Rs.itr g clock r seen)) (hg : MpEs kc vc N g arr clock es) (hN : N.le (hp w)) {k : κ} {v : ε} (hl : Lst kc vc arr seen k v) : Run P o L w (.tuple [kc k, vc v].toArray) w := by
  have hg' : w.heap[g]? = some (.map arr clock) := hN _ _ hg.1
  obtain ⟨e, s0, rfl, he, hk, hv⟩ := hl
  have hr : w.heap[r]? = some (.mapIter (some g) clock (s0.push e.born) clock) := S.get hi
  have hrun := run_entry_at (P := P) w r g clock s0 arr clock e hr hg' he hg.2.2.1
  rw [hk, hv] at hrun
  intro n c he
  unfold execOp
  simp only [hop, he.eval hx, hrun, Sem.run_bind, Result.andThen_ok, Sem.run_pure]
theorem one_sh (hm : MpOk kc vc g es (hp w)) : SH w (fun _ => none) ⟨fun _ => none, w⟩ [Rs.mp kc vc g es] := by
  refine ⟨fun _ _ h => by simp at h, fun _ _ h => by simp at h, fun _ _ h => by simp at h, fun r hr => ?_, fun r hr b hb => ?_, fun i j r s hij h1 h2 => ?_, Like.refl w⟩
  · rw [List.mem_singleton] at hr; subst hr; exact hm
  · rw [List.mem_singleton] at hr; subst hr
    obtain ⟨arr, clock, h1, _⟩ := hm
    simp [Rs.mp] at hb; subst hb
    exact ⟨hp_lt h1, rfl, rfl⟩
  · have h1 := (List.getElem?_eq_some_iff.1 h1).1
    have h2 := (List.getElem?_eq_some_iff.1 h2).1
    simp at h1 h2; omega
/-- A lookup in a map that lasts. -/
theorem lookM [DecidableEq κ] {k : κ} {zv : ε} (hm : MpOk kc vc g es (hp w)) (hu : P.underlying T = some (.map K E)) (hK : MapK P K kc) (hz : (P.info? E).map (·.zero) = some (some (vc zv))) : (Instr.lookup T (.map (some g)) (kc k) false).run P w = .ok (vc ((mg k es).getD zv)) w :=
  (SH.look (i := 0) (H := [Rs.mp kc vc g es]) (M := fun _ => none) (X := ⟨fun _ => none, w⟩) (one_sh hm) rfl hu hK hz).1
theorem run_lookupM [DecidableEq κ] {y : Operand} {k : κ} {zv : ε} (hop : o.op = .lookup T x y false) (hx : oev L x = some (.map (some g))) (hy : oev L y = some (kc k)) (hu : P.underlying T = some (.map K E)) (hK : MapK P K kc) (hz : (P.info? E).map (·.zero) = some (some (vc zv))) (hm : MpOk kc vc g es N) (hN : N.le (hp w)) : Run P o L w (vc ((mg k es).getD zv)) w := by
  intro n c he
  unfold execOp
  simp only [hop, he.eval hx, he.eval hy, lookM (hm.mono hN) hu hK hz, Sem.run_bind, Result.andThen_ok, Sem.run_pure]
/-- A map of the call's own lasts from now on. -/
theorem SH.pubmap {H' : List Rs} (S : SH w M X H) (hi : nth H i = some (Rs.mp kc vc g es)) (hH : H.set i Rs.emp = H') : ∃ M', M.le M' ∧ SH w M' X H' ∧ MpOk kc vc g es M' := by
  obtain ⟨h1, h2, h3⟩ := S.pub hi hH
  have h4 : MpOk kc vc g es (hp w) := S.get hi
  obtain ⟨arr, clock, e, h5⟩ := h4
  exact ⟨_, h1, h2, arr, clock, (h3 g (by simp [Rs.mp])).trans e, h5⟩
end
end
section
variable {P : Program} {o : Oper} {L : List (Nat × Value)} {w : World} {x y : Operand} {t t' : TypeId} {a b : Int}
theorem run_mulW (ho : o.op = .binOp .mul t x y t') (hx : oev L x = some (.int .i64 a)) (hy : oev L y = some (.int .i64 b)) : Run P o L w (.int .i64 (wr (a * b))) w :=
  run_bin ho hx hy fun w => by simp [binOp, Op.intArith, wr]
end
end Go.Proofs.Ytkcighnochjlgaa
namespace Go.Proofs.Ytkcighnochjlgaa
open Go.ChangeShapes Go.WideShapes Go.ChangeAt Go.RowKit
def Bd (l : List Tm) (B : Nat) : Prop := ∀ t ∈ l, -(B : Int) ≤ t.e ∧ t.e ≤ B
theorem Bd.mono {l : List Tm} {B C : Nat} (h : Bd l B) (k : B ≤ C) : Bd l C := fun t ht => by have := h t ht; omega
theorem put_bd {l : List Tm} {B : Nat} (h : Bd l B) {e c : Int} (he : -(B : Int) ≤ e ∧ e ≤ B) : Bd (put l e c) B := fun t ht => by
  rcases put_mem ht with e1 | h1
  · rw [e1]; exact he
  · exact h t h1
theorem inc_len : ∀ {ks : List Int} {lo hi : Int}, ks.Pairwise (fun a b => a < b) → (∀ k ∈ ks, lo ≤ k ∧ k ≤ hi) → lo ≤ hi + 1 → (ks.length : Int) ≤ hi - lo + 1
  | [], lo, hi, _, _, h => by simp; omega
  | k :: ks, lo, hi, hp, hb, h => by
    obtain ⟨h1, h2⟩ := List.pairwise_cons.1 hp
    have hk := hb k (by simp)
    have := inc_len (lo := k + 1) (hi := hi) h2 (fun j hj => ⟨by have := h1 j hj; omega, (hb j (by simp [hj])).2⟩) (by omega)
    simp only [List.length_cons]
    omega
theorem can_len {l : List Tm} {B : Nat} (h : Can l) (hb : Bd l B) : l.length ≤ 2 * B + 1 := by
  have := inc_len (ks := l.map (·.e)) (lo := -(B : Int)) (hi := B) (by rw [List.pairwise_map]; exact h.1) (fun k hk => by
    obtain ⟨t, ht, rfl⟩ := List.mem_map.1 hk
    exact hb t ht) (by omega)
  rw [List.length_map] at this
  omega
def Ents (es : List (Int × Int)) (B : Nat) : Prop := (es.map Prod.fst).Nodup ∧ ∀ q ∈ es, (-(B : Int) ≤ q.1 ∧ q.1 ≤ B) ∧ wr q.2 = q.2
theorem Ents.nil_ (B : Nat) : Ents [] B := ⟨by simp, by simp⟩
theorem Ents.mono {es : List (Int × Int)} {B C : Nat} (h : Ents es B) (k : B ≤ C) : Ents es C := ⟨h.1, fun q hq => by have := h.2 q hq; exact ⟨by omega, this.2⟩⟩
theorem mp_mem {k v : Int} {es : List (Int × Int)} {q : Int × Int} (h : q ∈ mp k v es) : q = (k, v) ∨ q ∈ es := by
  induction es with
  | nil => simp [mp] at h; exact .inl h
  | cons p r ih =>
    unfold mp at h
    split at h
    · rcases List.mem_cons.1 h with e | h
      · exact .inl e
      · exact .inr (by simp [h])
    · rcases List.mem_cons.1 h with e | h
      · exact .inr (by simp [e])
      · rcases ih h with e | h
        · exact .inl e
        · exact .inr (by simp [h])
theorem mp_keys (k v : Int) (es : List (Int × Int)) : (mp k v es).map Prod.fst = if k ∈ es.map Prod.fst then es.map Prod.fst else es.map Prod.fst ++ [k] := by
  induction es with
  | nil => simp [mp]
  | cons p r ih =>
    unfold mp
    by_cases h : k = p.1
    · rw [if_pos h]; simp [h]
    · rw [if_neg h, List.map_cons, ih]
      by_cases h2 : k ∈ r.map Prod.fst
      · rw [if_pos h2, if_pos (by rw [List.map_cons]; exact List.mem_cons_of_mem _ h2), List.map_cons]
      · rw [if_neg h2, if_neg (by rw [List.map_cons]; intro h3; exact (List.mem_cons.1 h3).elim h h2), List.map_cons, List.cons_append]
theorem mp_ents {es : List (Int × Int)} {B : Nat} (h : Ents es B) {k v : Int} (hk : -(B : Int) ≤ k ∧ k ≤ B) (hv : wr v = v) : Ents (mp k v es) B := by
  refine ⟨?_, fun q hq => ?_⟩
  · rw [mp_keys]
    split
    · exact h.1
    · rename_i hn
      exact List.nodup_append.2 ⟨h.1, by simp, fun a ha b hb => by simp at hb; subst hb; exact fun e => hn (e ▸ ha)⟩
  · rcases mp_mem hq with rfl | hq
    · exact ⟨hk, hv⟩
    · exact h.2 q hq
theorem mk_mp (k v : Int) (es : List (Int × Int)) : mk (mp k v es) = mk es + mono k (v - (mg k es).getD 0) := by
  induction es with
  | nil =>
    show mk [(k, v)] = Pol.o + mono k (v - 0)
    rw [Pol.zero_add, Int.sub_zero]; rfl
  | cons p r ih =>
    unfold mp mg
    by_cases h : k = p.1
    · rw [if_pos h, if_pos h, mk_cons, mk_cons]
      subst h
      show mono p.1 v + mk r = mono p.1 p.2 + mk r + mono p.1 (v - p.2)
      rw [Pol.add_assoc, Pol.add_comm (mk r), ← Pol.add_assoc, ← mono_add, show p.2 + (v - p.2) = v by omega]
    · rw [if_neg h, if_neg h, mk_cons, mk_cons, ih, Pol.add_assoc]
theorem mk_mp_add (k c : Int) (es : List (Int × Int)) : mk (mp k (wr ((mg k es).getD 0 + c)) es) = mk es + mono k c := by
  rw [mk_mp]
  refine congrArg _ (mono_congr rfl ?_)
  have h1 := md_add (md_wr ((mg k es).getD 0 + c)) (rfl : md (-(mg k es).getD 0) = _)
  rw [show wr ((mg k es).getD 0 + c) - (mg k es).getD 0 = wr ((mg k es).getD 0 + c) + -(mg k es).getD 0 by omega, h1]
  congr 1; omega
theorem mg_mem {es : List (Int × Int)} (h : (es.map Prod.fst).Nodup) {q : Int × Int} (hq : q ∈ es) : (mg q.1 es).getD 0 = q.2 := by
  induction es with
  | nil => simp at hq
  | cons p r ih =>
    obtain ⟨h1, h2⟩ := List.nodup_cons.1 (by simpa using h : (p.1 :: r.map Prod.fst).Nodup)
    unfold mg
    rcases List.mem_cons.1 hq with rfl | hq
    · rw [if_pos rfl]; rfl
    · rw [if_neg (fun e => h1 (by rw [← e]; exact List.mem_map.2 ⟨q, hq, rfl⟩))]
      exact ih h2 hq
theorem mg_none {es : List (Int × Int)} {k : Int} (h : k ∉ es.map Prod.fst) : (mg k es).getD 0 = 0 := by
  induction es with
  | nil => rfl
  | cons p r ih =>
    unfold mg
    rw [if_neg (fun e => h (by simp [e]))]
    exact ih fun h2 => h (by rw [List.map_cons]; exact List.mem_cons_of_mem _ h2)
theorem mg_rng {es : List (Int × Int)} {B : Nat} (h : Ents es B) (k : Int) : wr ((mg k es).getD 0) = (mg k es).getD 0 := by
  by_cases hk : k ∈ es.map Prod.fst
  · obtain ⟨q, hq, rfl⟩ := List.mem_map.1 hk
    rw [mg_mem h.1 hq]; exact (h.2 q hq).2
  · rw [mg_none hk]; exact wr_id (by omega)
theorem srt_inc {ks : List Int} (h : ks.Nodup) : (srt ks).Pairwise (fun a b => a < b) := by
  have h1 : (srt ks).Pairwise (fun a b => decide (a ≤ b) = true) := List.pairwise_mergeSort (fun a b c h1 h2 => by simp at *; omega) (fun a b => by simp; omega) ks
  have h2 : (srt ks).Nodup := (srt_perm ks).nodup_iff.2 h
  exact (h1.and h2).imp fun {a b} h => by have := h.1; have := h.2; simp at *; omega
theorem ents_len {es : List (Int × Int)} {B : Nat} (h : Ents es B) : es.length ≤ 2 * B + 1 := by
  have := inc_len (ks := srt (es.map Prod.fst)) (lo := -(B : Int)) (hi := B) (srt_inc h.1) (fun k hk => by
    obtain ⟨q, hq, rfl⟩ := List.mem_map.1 (srt_mem.1 hk)
    exact (h.2 q hq).1) (by omega)
  rw [srt_len, List.length_map] at this
  omega
def fm (es : List (Int × Int)) (ks : List Int) : List Tm := ks.flatMap fun e => if (mg e es).getD 0 = 0 then [] else [⟨e, (mg e es).getD 0⟩]
theorem fm_snoc (es : List (Int × Int)) (ks : List Int) (e : Int) : fm es (ks ++ [e]) = fm es ks ++ (if (mg e es).getD 0 = 0 then [] else [⟨e, (mg e es).getD 0⟩]) := by
  unfold fm; rw [List.flatMap_append]; simp
theorem fm_mem {es : List (Int × Int)} {ks : List Int} {t : Tm} (h : t ∈ fm es ks) : t.e ∈ ks ∧ t.c = (mg t.e es).getD 0 ∧ t.c ≠ 0 := by
  obtain ⟨e, he, ht⟩ := List.mem_flatMap.1 h
  split at ht
  · simp at ht
  · rename_i h0
    simp at ht; subst ht; exact ⟨he, rfl, h0⟩
theorem fm_len (es : List (Int × Int)) (ks : List Int) : (fm es ks).length ≤ ks.length := by
  induction ks with
  | nil => simp [fm]
  | cons k ks ih =>
    have : fm es (k :: ks) = (if (mg k es).getD 0 = 0 then [] else [⟨k, (mg k es).getD 0⟩]) ++ fm es ks := by unfold fm; rw [List.flatMap_cons]
    rw [this, List.length_append, List.length_cons]
    split <;> simp <;> omega
theorem fm_inc {es : List (Int × Int)} : ∀ {ks : List Int}, ks.Pairwise (fun a b => a < b) → (fm es ks).Pairwise (fun s t => s.e < t.e)
  | [], _ => List.Pairwise.nil
  | k :: ks, h => by
    obtain ⟨h1, h2⟩ := List.pairwise_cons.1 h
    have e : fm es (k :: ks) = (if (mg k es).getD 0 = 0 then [] else [⟨k, (mg k es).getD 0⟩]) ++ fm es ks := by unfold fm; rw [List.flatMap_cons]
    rw [e]
    split
    · exact fm_inc h2
    · exact List.pairwise_cons.2 ⟨fun t ht => h1 _ (fm_mem ht).1, fm_inc h2⟩
theorem mk_fm (es : List (Int × Int)) (ks : List Int) : mk (pr (fm es ks)) = mk (ks.map fun e => (e, (mg e es).getD 0)) := by
  induction ks with
  | nil => rfl
  | cons k ks ih =>
    have e : fm es (k :: ks) = (if (mg k es).getD 0 = 0 then [] else [⟨k, (mg k es).getD 0⟩]) ++ fm es ks := by unfold fm; rw [List.flatMap_cons]
    rw [e, List.map_cons, mk_cons, ← ih]
    split
    · rename_i h0
      show mk (pr (fm es ks)) = mono k ((mg k es).getD 0) + _
      rw [h0, mono_zero, Pol.zero_add]
    · rfl
def formL (es : List (Int × Int)) : List Tm := fm es (srt (es.map Prod.fst))
theorem mk_formL {es : List (Int × Int)} {B : Nat} (h : Ents es B) : mk (pr (formL es)) = mk es := by
  unfold formL
  rw [mk_fm, mk_perm ((srt_perm (es.map Prod.fst)).map _), List.map_map]
  refine congrArg mk ?_
  conv => rhs; rw [← List.map_id es]
  refine List.map_congr_left fun q hq => ?_
  show (q.1, (mg q.1 es).getD 0) = q
  rw [mg_mem h.1 hq]
theorem formL_bd {es : List (Int × Int)} {B : Nat} (h : Ents es B) : Bd (formL es) B := fun t ht => by
  obtain ⟨q, hq, e⟩ := List.mem_map.1 (srt_mem.1 (fm_mem ht).1)
  rw [← e]; exact (h.2 q hq).1
theorem formL_can {es : List (Int × Int)} {B : Nat} (h : Ents es B) (hB : B ≤ 1099511627776) : Can (formL es) := by
  refine ⟨fm_inc (srt_inc h.1), fun t ht => ?_⟩
  obtain ⟨h1, h2, h3⟩ := fm_mem ht
  have := formL_bd h t ht
  exact ⟨h3, by rw [h2]; exact mg_rng h _, wr_id (by omega)⟩
def Wk (N : Hp) (g : Nat) (B : Nat) (p : Pol) : Prop := ∃ es, MpOk (Value.int .i64) (Value.int .i64) g es N ∧ Ents es B ∧ mk es = p
theorem Wk.mono {N N' : Hp} {g B : Nat} {p : Pol} (h : Wk N g B p) (k : N.le N') : Wk N' g B p := by
  obtain ⟨es, h1, h2⟩ := h
  exact ⟨es, h1.mono k, h2⟩
theorem Wk.up {N : Hp} {g B C : Nat} {p : Pol} (h : Wk N g B p) (k : B ≤ C) : Wk N g C p := by
  obtain ⟨es, h1, h2, h3⟩ := h
  exact ⟨es, h1, h2.mono k, h3⟩
def WkR (B : Nat) (p : Pol) (u : Value) (N : Hp) : Prop := ∃ g, u = .map (some g) ∧ Wk N g B p
/-- Codec of lists of polynomials at work: each a map, or none yet. -/
def mpF (o : Option Nat) : List Value := [.map o]
theorem mpF_one (o : Option Nat) : ∀ u ∈ mpF o, u.oneCell' = true := fun u hu => by
  simp [mpF] at hu; subst hu; rfl
def cdMap (E : TypeId) : Cd (Option Nat) := ⟨mpF, 1, 8, E, none, fun _ => rfl, mpF_one⟩
/-- What the maps of a list are; bf: their exponents' bounds. -/
def Wks (bf : Nat → Nat) (N : Hp) (gs : List (Option Nat)) (ps : List (Option Pol)) : Prop := gs.length = ps.length ∧ ∀ i, i < gs.length → match ga ps i with
  | some p => ∃ g, ga gs i = some g ∧ Wk N g (bf i) p
  | none => ga gs i = none
section
variable {bf : Nat → Nat} {N N' : Hp} {gs : List (Option Nat)} {ps : List (Option Pol)}
theorem Wks.mono (h : Wks bf N gs ps) (k : N.le N') : Wks bf N' gs ps := ⟨h.1, fun i hi => by
  have := h.2 i hi
  split at this
  · obtain ⟨g, h1, h2⟩ := this
    exact ⟨g, h1, h2.mono k⟩
  · exact this⟩
theorem Wks.get (h : Wks bf N gs ps) {i : Nat} (hi : i < gs.length) {p : Pol} (hp : ga ps i = some p) : ∃ g, ga gs i = some g ∧ Wk N g (bf i) p := by
  have := h.2 i hi
  rw [hp] at this
  exact this
theorem Wks.rep (bf : Nat → Nat) (N : Hp) (n : Nat) : Wks bf N (List.replicate n none) (List.replicate n none) := ⟨by simp, fun i hi => by
  simp at hi
  rw [ga_rep _ _ _ hi, ga_rep _ _ _ hi]⟩
theorem Wks.nil_ (bf : Nat → Nat) (N : Hp) : Wks bf N [] [] := ⟨rfl, fun i hi => by simp at hi⟩
theorem Wks.set_ (h : Wks bf N gs ps) {g : Nat} {p : Pol} {i : Nat} (hg : Wk N g (bf i) p) (hi : i < gs.length) : Wks bf N (gs.set i (some g)) (ps.set i (some p)) := ⟨by simp [h.1], fun j hj => by
  rw [List.length_set] at hj
  rw [ga_set _ _ _ _ hi, ga_set _ _ _ _ (by rw [← h.1]; exact hi)]
  by_cases e : i = j
  · subst e; rw [if_pos rfl, if_pos rfl]; exact ⟨g, rfl, hg⟩
  · rw [if_neg e, if_neg e]; exact h.2 j hj⟩
end
/-- A table of maps. -/
def WksA (bf : Nat → Nat) (N : Hp) (gss : List (List (Option Nat))) (pss : List (List (Option Pol))) : Prop := gss.length = pss.length ∧ ∀ i, i < gss.length → Wks bf N (ga gss i) (ga pss i)
section
variable {bf : Nat → Nat} {N N' : Hp} {gss : List (List (Option Nat))} {pss : List (List (Option Pol))}
theorem WksA.mono (h : WksA bf N gss pss) (k : N.le N') : WksA bf N' gss pss := ⟨h.1, fun i hi => (h.2 i hi).mono k⟩
theorem WksA.set_ (h : WksA bf N gss pss) {gs : List (Option Nat)} {ps : List (Option Pol)} (k : Wks bf N gs ps) {i : Nat} (hi : i < gss.length) : WksA bf N (gss.set i gs) (pss.set i ps) := ⟨by simp [h.1], fun j hj => by
  rw [List.length_set] at hj
  rw [ga_set _ _ _ _ hi, ga_set _ _ _ _ (by rw [← h.1]; exact hi)]
  by_cases e : i = j
  · rw [if_pos e, if_pos e]; exact k
  · rw [if_neg e, if_neg e]; exact h.2 j hj⟩
end
end Go.Proofs.Ytkcighnochjlgaa
namespace Go.Proofs.Ytkcighnochjlgaa
open Go.ChangeShapes Go.WideShapes Go.ChangeAt Go.RowKit
set_option maxRecDepth 100000 in
set_option maxHeartbeats 2000000 in
theorem clone_any (b : Nat) (es : Array MapEntry) (clock : Nat) (w : World) (hb : w.heap[b]? = some (.map es clock)) :
    Calls Try.prog 97 #[.map (some b)] w fun e w' => e = .returned (.map (some w.heap.size)) ∧ w' = w.alloc (.map es clock) := by
  have hq := fun w => run_eql_map_nil_sl (P := Try.prog) w 84 _ _ (some b) Try.underlying84
  go_enter Try.func97, Try.ntmps97
  go_wp2
  rw [run_callFunc_extern Try.func132 (by kernel_rfl) (by kernel_rfl) (by kernel_rfl) (e := Extern.MapsClone.clone) (by kernel_rfl), run_maps_clone_sl w 84 hb]
  simp only [Result.andThen]
  rw [Oper.upon_value]
  go_wp2
  rw [run_typeAssert_map_sl _ 84 _ _ _ _ Try.underlying84]
  simp only [Result.andThen]
  rw [Oper.upon_value]
  go_wp2
  go_ret
  exact ⟨rfl, rfl⟩
/-- The copy is the call's own. -/
theorem Clone_o {w : World} {M : Hp} {X : Fr} {g : Nat} {es : List (Int × Int)} (h : MpOk (Value.int .i64) (Value.int .i64) g es (M.un X.h)) (S : SH w M X []) :
    Co Try.prog 97 [.map (some g)] w M X fun u N => ∃ g', u = .map (some g') ∧ N = [Rs.mp (Value.int .i64) (Value.int .i64) g' es] := by
  obtain ⟨arr, clock, h1, h2, h3⟩ := h
  have hb : w.heap[g]? = some (.map arr clock) := S.um _ _ h1
  unfold Co
  refine (clone_any g arr clock w hb).mono ?_
  rintro e w' ⟨rfl, rfl⟩
  refine ⟨_, rfl, _, S.cons (r := Rs.mp (Value.int .i64) (Value.int .i64) w.heap.size es) (like_alloc w _) (keep_alloc w _) ⟨arr, clock, heap_alloc_new w _, h2, h3⟩ (fun b hb => by simp [Rs.mp] at hb; subst hb; rw [size_al]; omega), _, rfl, rfl⟩
end Go.Proofs.Ytkcighnochjlgaa
namespace Go.Proofs.Ytkcighnochjlgaa
open Go.ChangeShapes Go.WideShapes Go.ChangeAt Go.RowKit
def tmF (t : Tm) : List Value := [.int .i64 t.e, .int .i64 t.c]
def cdTm : Cd Tm := ⟨tmF, 2, 16, 86, ⟨0, 0⟩, fun _ => rfl, by
 intro x u hu
 simp [tmF] at hu
 rcases hu with rfl | rfl <;> rfl⟩
/-- A list of terms that may be handed in. -/
def okT (a : List Tm) (i : Nat) : Prop := (-1000 ≤ (ga a i).e ∧ (ga a i).e ≤ 1000) ∧ (-1000000 ≤ (ga a i).c ∧ (ga a i).c ≤ 1000000) ∧ (ga a i).c ≠ 0 ∧ (0 < i → (ga a ((i : Int) - 1).toNat).e < (ga a i).e)
instance (a : List Tm) (i : Nat) : Decidable (okT a i) := by unfold okT; infer_instance
def LsE (a : List Tm) (u : Value) (N : Hp) : Prop := ∃ A c, u = .slice A a.length c ∧ RdA cdTm N A c a
/-- A polynomial in form, as a list that lasts. -/
def PT (B : Nat) (p : Pol) (u : Value) (N : Hp) : Prop := ∃ A c l, u = .slice A l.length c ∧ RdA cdTm N A c l ∧ Can l ∧ Bd l B ∧ mk (pr l) = p
theorem put_eq {l : List Tm} {e c : Int} {k : Nat} (hk : k ≤ l.length) (hlt : ∀ j, j < k → (ga l j).e < e) (hc : c ≠ 0) (hend : k = l.length ∨ (k < l.length ∧ ¬ (ga l k).e < e)) :
  put l e c = l.take k ++ (if k < l.length ∧ (ga l k).e = e then (if wr ((ga l k).c + c) = 0 then [] else [⟨e, wr ((ga l k).c + c)⟩]) ++ l.drop (k + 1) else ⟨e, c⟩ :: l.drop k) := by
 induction l generalizing k with
 | nil =>
  obtain rfl : k = 0 := by simp at hk; exact hk
  simp [put, hc]
 | cons t l ih =>
  unfold put
  rw [if_neg hc]
  cases k with
  | zero =>
   have hend' : ¬ t.e < e := by
    rcases hend with h | h
    ·simp at h
    ·exact h.2
   rw [if_neg hend']
   by_cases he : t.e = e
   ·have h2 : 0 < (t :: l).length ∧ (ga (t :: l) 0).e = e := ⟨by simp, he⟩
    rw [if_pos he, if_pos h2]
    show (if wr (t.c + c) = 0 then l else ⟨e, wr (t.c + c)⟩ :: l) = [] ++ ((if wr (t.c + c) = 0 then [] else [⟨e, wr (t.c + c)⟩]) ++ l)
    split <;> rfl
   ·have h2 : ¬ (0 < (t :: l).length ∧ (ga (t :: l) 0).e = e) := fun h => he h.2
    rw [if_neg he, if_neg h2]; rfl
  | succ k =>
   have h0 : t.e < e := hlt 0 (by omega)
   rw [if_pos h0]
   simp only [List.length_cons] at hk hend
   have e1 : ga (t :: l) (k + 1) = ga l k := rfl
   rw [ih (k := k) (by omega) (fun j hj => hlt (j + 1) (by omega)) (by rw [e1] at hend; omega), e1]
   simp only [List.length_cons, List.take_succ_cons, List.drop_succ_cons, List.cons_append, Nat.add_lt_add_iff_right]
theorem sl22 : SlOf Try.prog 22 cdTm := ⟨.agg [.int .i64 0, .int .i64 0].toArray, Try.underlying22, by kernel_rfl, rfl, by decide, by decide⟩
noncomputable def sameTerms_n0 : Code := Try.f16.body.getD .skip
noncomputable def sameTerms_n1 : Code := cL sameTerms_n0
noncomputable def sameTerms_n2 : Code := cR sameTerms_n0
noncomputable def sameTerms_n3 : Code := cL sameTerms_n2
noncomputable def sameTerms_n4 : Code := cR sameTerms_n2
noncomputable def sameTerms_n5 : Code := cL sameTerms_n3
noncomputable def sameTerms_n6 : Code := cR sameTerms_n3
noncomputable def sameTerms_n7 : Code := cL sameTerms_n6
noncomputable def sameTerms_n8 : Code := cR sameTerms_n6
noncomputable def sameTerms_n9 : Code := cL sameTerms_n4
noncomputable def sameTerms_n10 : Code := cR sameTerms_n4
noncomputable def sameTerms_n11 : Code := cL sameTerms_n9
noncomputable def sameTerms_n12 : Code := cR sameTerms_n9
noncomputable def sameTerms_n13 : Code := cL sameTerms_n12
noncomputable def sameTerms_n14 : Code := cL sameTerms_n13
noncomputable def sameTerms_n15 : Code := cL sameTerms_n14
noncomputable def sameTerms_n16 : Code := cR sameTerms_n14
noncomputable def sameTerms_n17 : Code := cL sameTerms_n15
noncomputable def sameTerms_n18 : Code := cR sameTerms_n15
noncomputable def sameTerms_n19 : Code := cL sameTerms_n18
noncomputable def sameTerms_n20 : Code := cR sameTerms_n18
noncomputable def sameTerms_n21 : Code := cL sameTerms_n16
noncomputable def sameTerms_n22 : Code := cR sameTerms_n16
noncomputable def sameTerms_n23 : Code := cL sameTerms_n21
noncomputable def sameTerms_n24 : Code := cL sameTerms_n23
noncomputable def sameTerms_n25 : Code := cR sameTerms_n23
noncomputable def sameTerms_n26 : Code := cL sameTerms_n25
noncomputable def sameTerms_n27 : Code := cR sameTerms_n25
noncomputable def sameTerms_n28 : Code := cL sameTerms_n10
noncomputable def sameTerms_n29 : Code := cR sameTerms_n10
set_option maxRecDepth 10000 in
theorem sameTerms_q {w : World} {M : Hp} {X : Fr} (p : List Tm) {pA : Option Addr} {pc : Nat} (q : List Tm) {qA : Option Addr} {qc : Nat} (hp : RdA cdTm (M.un X.h) pA pc p) (hq : RdA cdTm (M.un X.h) qA qc q) (he : p = q) (S : SH w M X []) : Cq Try.prog 16 [.slice pA p.length pc, .slice qA q.length qc] w M X (fun u => u = .bool true) := by
 unfold Cq
 have rmhp : p.length * 16 ≤ 140737488355328 := hp.room
 have rmhq : q.length * 16 ≤ 140737488355328 := hq.room
 have hle : p.length = q.length := by rw [he]
 refine calls_in (b := sameTerms_n0) Try.func16 rfl Try.ntmps16 rfl (fun C hC => ?_)
 refine ws_sub [(0, _), (1, _)] ⟨rfl, rfl, trivial⟩ ?_
 refine ws_seqN sameTerms_n1 sameTerms_n2 rfl rfl rfl ?_
 refine ws_region rfl ?_
 refine wla 0 1 rfl rfl rfl rfl rfl rfl rfl ?_
 refine wl_end rfl ?_
 refine nm_sub [(0, _), (1, _)] ⟨rfl, rfl, trivial⟩ ?_
 refine nm_thn ?_
 refine ws_seqN sameTerms_n3 sameTerms_n4 rfl rfl rfl ?_
 refine ws_seqN sameTerms_n5 sameTerms_n6 rfl rfl rfl ?_
 refine ws_region rfl ?_
 refine wlm 0 1 rfl rfl rfl rfl rfl rfl rfl ?_
 refine wlo 1 2 rfl rfl rfl (wo_run rfl rfl (run_len rfl rfl rfl rfl rfl rfl Try.underlying22) ?_)
 refine wlm 2 3 rfl rfl rfl rfl rfl rfl rfl ?_
 refine wlo 3 4 rfl rfl rfl (wo_run rfl rfl (run_len rfl rfl rfl rfl rfl rfl Try.underlying22) ?_)
 refine wlo 4 5 rfl rfl rfl (wo_run rfl rfl (run_neq rfl rfl rfl) ?_)
 refine wl_end rfl ?_
 refine nm_sub [(0, _), (1, _), (10, _)] ⟨rfl, rfl, rfl, trivial⟩ ?_
 refine nm_thn ?_
 refine ws_condN sameTerms_n7 sameTerms_n8 rfl rfl rfl rfl (fun hb10 => ?_) (fun hb10 => ?_)
 ·have hb10 := of_decide_eq_true hb10
  exfalso; omega
 ·have hb10 := of_decide_eq_false hb10
  refine ws_skip rfl ?_
  refine nm_sub [(0, _), (1, _)] ⟨rfl, rfl, trivial⟩ ?_
  refine nm_thn ?_
  refine ws_seqN sameTerms_n9 sameTerms_n10 rfl rfl rfl ?_
  refine ws_seqN sameTerms_n11 sameTerms_n12 rfl rfl rfl ?_
  refine ws_region rfl ?_
  refine wla 0 1 rfl rfl rfl rfl rfl rfl rfl ?_
  refine wl_end rfl ?_
  refine nm_thn ?_
  refine ws_blockN sameTerms_n13 0 rfl rfl rfl ?_
  refine ws_loopE (fun mx_ ax_ wx_ => ∃ (k : Nat), mx_ = p.length - k ∧ Env 26 [(0, .slice pA p.length pc), (1, .slice qA q.length qc), (5, .int .i64 (k : Int))] ax_ ∧ SH wx_ M X [] ∧ k ≤ p.length) rfl ?_ ?_
  ·intro ax_ hax_
   refine ⟨_, ⟨0, rfl, hax_.sub ⟨rfl, rfl, rfl, trivial⟩, S.pick [] [] (by decide) trivial, ?hq1f0⟩⟩
   case hq1f0 => omega
  ·rintro m1 a1 w1 ⟨k, rfl, he1, S1, hk⟩
   clear S
   refine ws_in he1 (c := sameTerms_n14) rfl ?_
   clear he1 a1
   refine ws_seqN sameTerms_n15 sameTerms_n16 rfl rfl rfl ?_
   refine ws_seqN sameTerms_n17 sameTerms_n18 rfl rfl rfl ?_
   refine ws_region rfl ?_
   refine wlm 0 1 rfl rfl rfl rfl rfl rfl rfl ?_
   refine wlm 1 2 rfl rfl rfl rfl rfl rfl rfl ?_
   refine wlo 2 3 rfl rfl rfl (wo_run rfl rfl (run_len rfl rfl rfl rfl rfl rfl Try.underlying22) ?_)
   refine wlo 3 4 rfl rfl rfl (wo_run rfl rfl (run_lss rfl rfl rfl) ?_)
   refine wl_end rfl ?_
   refine nm_sub [(0, _), (1, _), (5, _), (14, _)] ⟨rfl, rfl, rfl, rfl, trivial⟩ ?_
   refine nm_thn ?_
   refine ws_condN sameTerms_n19 sameTerms_n20 rfl rfl rfl rfl (fun hb14 => ?_) (fun hb14 => ?_)
   ·have hb14 := of_decide_eq_true hb14
    refine ws_skip rfl ?_
    refine nm_sub [(0, _), (1, _), (5, _)] ⟨rfl, rfl, rfl, trivial⟩ ?_
    refine nm_thn ?_
    refine ws_seqN sameTerms_n21 sameTerms_n22 rfl rfl rfl ?_
    refine ws_blockN sameTerms_n23 1 rfl rfl rfl ?_
    refine ws_seqN sameTerms_n24 sameTerms_n25 rfl rfl rfl ?_
    refine ws_draw rfl (by kernel_rfl) S1 9 rfl ?_
    clear S1
    refine wa_takeP (i := 0) (d := 17) 8 rfl (by kernel_rfl) (by kernel_rfl) (by kernel_rfl) rfl rfl rfl (fun w2 => run_move rfl rfl) ?_
    refine wa_takeP (i := 1) (d := 18) 7 rfl (by kernel_rfl) (by kernel_rfl) (by kernel_rfl) rfl rfl rfl (fun w3 => run_move rfl rfl) ?_
    refine wa_take (i := 2) (d := 19) 6 rfl (by kernel_rfl) (by kernel_rfl) (by kernel_rfl) rfl rfl rfl (fun M3 N3 w4 hle4 S4 => .inl (run_indexM (C := cdTm) k rfl rfl rfl sl22 (by first | rfl | omega) (hp.mono (Hp.un_mono hle4 S4.mx)) (by first | omega | (simp only [lens]; omega)))) ?_
    refine wa_take (i := 3) (d := 20) 5 rfl (by kernel_rfl) (by kernel_rfl) (by kernel_rfl) rfl rfl rfl (fun M4 N4 w5 hle5 S5 => .inl (run_loadN (us := [_, _]) rfl rfl Try.underlying86 rfl sz86 ((hp.mono (Hp.un_mono hle5 S5.mx)).cellsAt S5.um (e := k) (by first | omega | (simp only [lens]; omega)) (j := 0) ⟨rfl, rfl, trivial⟩))) ?_
    refine wa_takeP (i := 4) (d := 21) 4 rfl (by kernel_rfl) (by kernel_rfl) (by kernel_rfl) rfl rfl rfl (fun w6 => run_move rfl rfl) ?_
    refine wa_takeP (i := 5) (d := 22) 3 rfl (by kernel_rfl) (by kernel_rfl) (by kernel_rfl) rfl rfl rfl (fun w7 => run_move rfl rfl) ?_
    refine wa_take (i := 6) (d := 23) 2 rfl (by kernel_rfl) (by kernel_rfl) (by kernel_rfl) rfl rfl rfl (fun M7 N7 w8 hle8 S8 => .inl (run_indexM (C := cdTm) k rfl rfl rfl sl22 (by first | rfl | omega) (hq.mono (Hp.un_mono hle8 S8.mx)) (by first | omega | (simp only [lens]; omega)))) ?_
    refine wa_take (i := 7) (d := 24) 1 rfl (by kernel_rfl) (by kernel_rfl) (by kernel_rfl) rfl rfl rfl (fun M8 N8 w9 hle9 S9 => .inl (run_loadN (us := [_, _]) rfl rfl Try.underlying86 rfl sz86 ((hq.mono (Hp.un_mono hle9 S9.mx)).cellsAt S9.um (e := k) (by first | omega | (simp only [lens]; omega)) (j := 0) ⟨rfl, rfl, trivial⟩))) ?_
    refine wa_takeP (i := 8) (d := 25) 0 rfl (by kernel_rfl) (by kernel_rfl) (by kernel_rfl) rfl rfl rfl (fun w10 => run_neSt (Q := ((ga p k).e) = ((ga q k).e) ∧ ((ga p k).c) = ((ga q k).c)) rfl rfl rfl se86 ⟨_, _, _, _, rfl, rfl, ⟨_, _, _, rfl, rfl, rfl⟩, rfl⟩) ?_
    refine wa_end (by kernel_rfl) (fun w11 S11 => ?_)
    refine nm_sub [(0, _), (1, _), (5, _), (25, _)] ⟨rfl, rfl, rfl, rfl, trivial⟩ ?_
    refine nm_thn ?_
    refine ws_condN sameTerms_n26 sameTerms_n27 rfl rfl rfl rfl (fun hb25 => ?_) (fun hb25 => ?_)
    ·have hb25 := of_decide_eq_true hb25
     exfalso; exact hb25 (by rw [he]; exact ⟨rfl, rfl⟩)
    ·have hb25 := of_decide_eq_false hb25
     refine ws_skip rfl ?_
     refine nm_blk ?_
     refine nm_sub [(0, _), (1, _), (5, _)] ⟨rfl, rfl, rfl, trivial⟩ ?_
     refine nm_thn ?_
     refine ws_region rfl ?_
     refine wlm 0 1 rfl rfl rfl rfl rfl rfl rfl ?_
     refine wlo 1 2 rfl rfl rfl (wo_run rfl rfl (run_add rfl rfl rfl (by first | omega | (simp only [lens]; omega))) ?_)
     refine wla 2 3 rfl rfl rfl rfl rfl rfl rfl ?_
     refine wl_end rfl ?_
     refine nm_lp ?_
     intro ax_ hax_
     refine ⟨_, ?hq2m, ⟨k + 1, rfl, hax_.sub ⟨rfl, rfl, rfl, trivial⟩, S11.pick [] [] (by decide) trivial, ?hq2f0⟩⟩
     case hq2f0 => omega
     case hq2m => omega
   ·have hb14 := of_decide_eq_false hb14
    refine ws_exit rfl rfl ?_
    refine nm_sub [] trivial ?_
    refine nm_thn ?_
    refine ws_seqN sameTerms_n28 sameTerms_n29 rfl rfl rfl ?_
    refine ws_region rfl ?_
    refine wla 0 1 rfl rfl rfl rfl rfl rfl rfl ?_
    refine wl_end rfl ?_
    refine nm_thn ?_
    refine ws_ret hC [_] rfl rfl ⟨rfl, trivial⟩ ?_
    exact ⟨_, rfl, (S1.pick [] [] (by decide) trivial), rfl⟩
end Go.Proofs.Ytkcighnochjlgaa
