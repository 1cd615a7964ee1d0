/- Part 2 of the proof of the law TangleLinks: the walks through its functions and the plain laws that they need. -/
import Derived.Test.YtkgofmloleicgaaTlZ1
import Derived.Laws.Cover3
import Derived.Laws.Pointers
import Derived.Laws.StructEq
import Derived.MapKept
import Derived.Carry
import Derived.Maps.RangeRun
import Derived.Lib.AppendZeros
import Derived.RangeFuncNested
import Derived.RangeFuncBound
import Derived.RangeFuncCalls
import Derived.RangeFuncLeaves
import Derived.LoopNIn
set_option linter.unusedSimpArgs false
set_option linter.unusedVariables false
namespace Go.Proofs.Ytkgofmloleicgaa
open Go.ChangeShapes Go.WideShapes Go.ChangeAt Go.RowKit
section
variable {P : Program} {o : Oper} {L : List (Nat × Value)} {w w' : World} {x y z : Operand} {t t' T E : TypeId} {a b : Int} {v u : Value} {n d : Nat} {M M' : Hp} {X : Fr} {H H' : List Rs} {i g off : Nat} {l : List Value}
theorem enter_ok {P : Program} {f : FuncId} {fn : Func} {c : Code} (hf : P.funcs[f]? = some fn) (hname : (fn.name == "runtime.NumGoroutine") = false) (hb : fn.body = some c) (args : Array Value) (w : World) : (callFunc f args).run P w = .ok (.enter f args) w := by
  have h1 : fn.name ≠ "runtime.NumGoroutine" := by simpa using hname
  simp [callFunc, hf, h1, hb]
def plOk (k : Nat) : Nat → List (Nat × Nat) → Bool
  | _, [] => true
  | i, (p, q) :: r => Nat.beq p (i * k) && Nat.beq q k && plOk k (i + 1) r
theorem plOk_spec {k : Nat} : ∀ {pl : List (Nat × Nat)} {j : Nat}, plOk k j pl = true → ∀ i p, nth pl i = some p → p = ((j + i) * k, k)
  | [], _, _, i, p, h => by simp [nth] at h
  | (a, b) :: r, j, hp, 0, p, h => by
    simp only [plOk, Bool.and_eq_true] at hp
    simp only [nth, Option.some.injEq] at h
    rw [← h, Nat.eq_of_beq_eq_true hp.1.1, Nat.eq_of_beq_eq_true hp.1.2, Nat.add_zero]
  | (a, b) :: r, j, hp, i + 1, p, h => by
    simp only [plOk, Bool.and_eq_true] at hp
    simp only [nth] at h
    rw [plOk_spec hp.2 i p h, show j + 1 + i = j + (i + 1) by omega]
theorem fill_eq' {pl : List (Nat × Nat)} {place : Nat → Option (Nat × Nat)} (hpl : ∀ i p, nth pl i = some p → place i = some p) : ∀ (ps : List (Nat × Value)) (cs : Array Value) (out : List Value), fillL pl cs.toList ps = some out → Instr.fill place cs ps = some out.toArray
  | [], cs, out, h => by
    simp only [fillL, Option.some.injEq] at h
    subst h
    simp [Instr.fill]
  | (i, v) :: r, cs, out, h => by
    unfold fillL at h
    unfold Instr.fill
    split at h
    · cases h
    · rename_i p hp
      simp only [hpl i p hp]
      split at h
      · rename_i hc
        simp only [Bool.and_eq_true] at hc
        have h1 : v.cells.size = p.2 := by have := Nat.eq_of_beq_eq_true hc.1; simpa using this
        have h2 : p.1 + p.2 ≤ cs.size := by have := Nat.le_of_ble_eq_true hc.2; simpa using this
        obtain ⟨po, ps⟩ := p
        simp only at h1 h2 h ⊢
        rw [if_neg (by simp [h1]; omega)]
        refine fill_eq' hpl r _ out ?_
        rw [← Array.foldl_toList, Array.toList_zipIdx, foldl_set, Nat.add_zero]
        exact h
      · cases h
theorem run_buildA {pl : List (Nat × Nat)} {zl : List Value} {ps : List (Nat × Operand)} {vs : List (Nat × Value)} {pa : Array (Nat × Operand)} {len k : Nat} (hop : o.op = .build T pa) (hpa : pa = ps.toArray) (hu : P.underlying T = some (.array len E)) (hz : (P.info? T).map (·.zero) = some (some (.agg zl.toArray)))
    (hk : (P.info? E).map (·.size) = some k) (hpl : plOk k 0 pl = true) (hps : partL L ps = some vs) (hl : fillL pl zl vs = some l) : Run P o L w (.agg l.toArray) w := by
  intro n c he
  subst hpa
  unfold execOp
  have e := partL_eq he hps
  have hf := fill_eq' (pl := pl) (place := fun i => some (i * k, k)) (fun i p hp => by rw [plOk_spec hpl i p hp, Nat.zero_add]) vs zl.toArray l (by simpa using hl)
  simp only [hop, Instr.build, run_zero hz, run_underlying hu, run_sizeOf hk, Sem.run_bind, Sem.run_pure, Result.andThen_ok, List.map_toArray, e]
  rw [show Value.cells (.agg zl.toArray) = zl.toArray from rfl, hf]
  rfl
theorem nth_iv (xs : List Int) (e : Nat) (h : e < xs.length) : nth (xs.map (Value.int .i64)) e = some (.int .i64 (ga xs e)) := by
  rw [nth_eq, List.getElem?_map, ga_get? h]; rfl
theorem run_index1 {cs : List Value} {e len : Nat} {dd : TypeDesc} (hop : o.op = .index T x y) (hx : oev L x = some (.agg cs.toArray)) (hy : oev L y = some (.int .i64 a)) (hu : P.underlying T = some (.array len E)) (hE : P.underlying E = some dd) (hf : flatD dd = true) (hk : (P.info? E).map (·.size) = some 1)
    (ha : a = (e : Int)) (he : e < len) (hv : nth cs e = some v) : Run P o L w v w := by
  intro n c hc
  unfold execOp
  rw [nth_eq] at hv
  have hv' : cs.toArray[e]? = some v := by simpa using hv
  have h1 : (0 : Int) ≤ (e : Int) ∧ (e : Int) < (len : Int) := by omega
  simp only [hop, hc.eval hx, hc.eval hy, Instr.index, asIntOf, Sem.run_bind, Sem.run_pure, Result.andThen_ok, run_underlying hu, ha, h1, and_self, if_true, run_sizeOf hk, Int.toNat_natCast, part, run_isAgg hE, hf, Bool.not_true, Bool.false_eq_true, if_false, Nat.mul_one, hv']
theorem run_indexP {bo : Nat} {e k len : Nat} (hop : o.op = .indexAddr T x y) (hx : oev L x = some (.pointer (some ⟨g, bo, none⟩))) (hy : oev L y = some (.int .i64 a)) (hu : P.underlying T = some (.array len E)) (hk : (P.info? E).map (·.size) = some k)
    (ha : a = (e : Int)) (he : e < len) : Run P o L w (.pointer (some ⟨g, bo + e * k, none⟩)) w := by
  intro n c he'
  unfold execOp
  have h1 : (0 : Int) ≤ (e : Int) ∧ (e : Int) < (len : Int) := by omega
  simp only [hop, he'.eval hx, he'.eval hy, Instr.indexAt, asIntOf, Instr.sureAddr, Sem.run_bind, Sem.run_pure, Result.andThen_ok, run_underlying hu, ha, h1, and_self, if_true, run_sizeOf hk, Int.toNat_natCast, add_mul0]
end
/-- Nothing is lent: all that is there lasts. -/
def X0 (W : World) : Fr := ⟨fun _ => none, W⟩
theorem SH.start (W : World) : SH W (hp W) (X0 W) [] :=
  ⟨Hp.le_refl _, (fun b o e => by cases e), (fun b o e => by cases e), (fun s hs => by cases hs), (fun s hs => by cases hs), (fun i j r s _ hr => by simp at hr), Like.refl W⟩
theorem SH.below {W w : World} {M : Hp} (h : (hp W).le M) (S : SH w M (X0 W) []) : Below W.heap.size W w := by
  refine ⟨S.like.os, S.like.tape, S.like.output, S.like.size, fun k hk => ?_⟩
  have e : hp W k = some W.heap[k] := Array.getElem?_eq_getElem hk
  have := S.m k _ (h k _ e)
  unfold hp at this e
  rw [this, e]
theorem law_of_ct {P : Program} {f : FuncId} {vs : List Value} {W : World} (h : Ct P f vs W (hp W) (X0 W) (fun u _ => u = .bool true)) : Calls P f vs.toArray W fun e W' => e = .returned (.bool true) ∧ Below W.heap.size W W' := by
  refine h.mono ?_
  rintro e w' ⟨u, rfl, M', hle, S, rfl⟩
  exact ⟨rfl, S.below hle⟩
end Go.Proofs.Ytkgofmloleicgaa
namespace Go.Proofs.Ytkgofmloleicgaa
open Go.ChangeShapes Go.WideShapes Go.ChangeAt Go.RowKit
section
variable {P : Program} {o : Oper} {L : List (Nat × Value)} {w w' : World} {x y z : Operand} {t t' T E : TypeId} {a b : Int} {v u : Value} {n d : Nat} {Kt : List (Nat × Value) → World → Prop} {M M' : Hp} {X : Fr} {H H' : List Rs} {i g off : Nat} {l : List Value}
theorem run_makeFunc {f : FuncId} {ys : List Operand} {vs : List Value} {fa ca : Array Operand} (hop : o.op = .makeFunc (.func f) fa ca) (hf : fa = #[]) (hc : ca = ys.toArray) (hv : oevs L ys = some vs) : Run P o L w (.func (.func f) #[] vs.toArray) w := by
  intro n c he
  unfold execOp
  subst hf
  simp only [hop, hc, List.map_toArray, he.evals hv, Instr.makeFunc, Sem.run_bind, Sem.run_pure, Result.andThen_ok]
  rfl
theorem SH.boxM (S : SH w M X H) (hi : nth H i = some (Rs.box g E l)) : BxM (M.un (XH w X H).h) g E l := by
  have hmem : Rs.box g E l ∈ H := by rw [nth_eq] at hi; exact List.mem_of_getElem? hi
  have h1 := S.bl _ hmem g (by simp [Rs.box])
  have h2 : hp w g = some (.cells l.toArray E (0, 0)) := S.get hi
  unfold BxM
  have h3 : (H.any fun r => r.bl.contains g) = true := any_bl.2 ⟨_, hmem, List.mem_singleton.2 rfl⟩
  simp only [Hp.un, h1.2.1, XH, h3, if_true, h2]
theorem run_max {ca : Call} {ops : List Operand} {ts : List TypeId} (hop : o.op = .call ca) (hca : ca.callee = .builtin .max) (hxs : ca.args = ops.toArray) (hts : ca.argTypes = ts.toArray) (hx : oevs L ops = some [.int .i64 a, .int .i64 b]) : Run P o L w (.int .i64 (max a b)) w := by
  intro n c he
  have e : (if b > a then b else a) = max a b := by
    by_cases h : b > a
    · rw [if_pos h]; omega
    · rw [if_neg h]; omega
  unfold execOp
  simp only [hop, resolve, hca, hxs, hts, List.map_toArray, he.evals hx, Sem.run_bind, Sem.run_pure, Result.andThen_ok, invoke, builtin, Builtin.max_, List.foldlM_cons, List.foldlM_nil, Builtin.max2, e]
/-- '[]T{x, y, ..}'. -/
theorem wo_buildSliceN {α : Type} {C : Cd α} {len : Nat} {pa : Array (Nat × Operand)} {ps : List (Nat × Operand)} {vs : List (Nat × Value)} {pl : List (Nat × Nat)} (hop : o.op = .buildSlice T len pa) (hpa : pa = ps.toArray) (hd : o.dst = some d) (hn : Nat.blt d n = true) (hT : SlOf P T C) (hps : partL L ps = some vs) (hpl : plOk C.k 0 pl = true)
    (hl : fillL pl (List.flatten (List.replicate len (C.f C.z))) vs = some l) (hsm : Nat.ble (len * C.k) 16777216 = true) (hlen : Nat.blt 0 len = true) (S : SH w M X H)
    (h : ∀ g w', SH w' M X (Rs.box g C.E l :: H) → Kt ((d, .slice (some ⟨g, 0, none⟩) len len) :: L) w') : WO P n o L w Kt := by
  obtain ⟨zv, h1, h2, h3, h4, h5⟩ := hT
  obtain ⟨inf, hinf, hz, hs, h8⟩ := info_parts h2
  have hzk : zv.cells.size = C.k := by rw [← C.hf C.z, ← h3]; simp
  subst hpa
  have hzl : ((Array.range (len * C.k)).map (zv.cells[· % zv.cells.size]!)).toList = List.flatten (List.replicate len (C.f C.z)) := by
    have e0 : List.flatten (List.replicate len (C.f C.z)) = (List.replicate len C.z).flatMap C.f := by
      rw [List.flatMap_def, List.map_replicate]
    rw [e0]
    apply List.ext_getElem?
    intro q
    by_cases hq : q < len * C.k
    · have hi : q / C.k < (List.replicate len C.z).length := by rw [List.length_replicate]; exact (Nat.div_lt_iff_lt_mul h4).2 hq
      have hj : q % C.k < C.k := Nat.mod_lt _ h4
      have e := flat_get C.hf hi hj
      rw [show q / C.k * C.k + q % C.k = q by rw [Nat.mul_comm]; exact Nat.div_add_mod q C.k] at e
      rw [e, List.getElem_replicate, ← h3]
      simp only [hzk, Array.toList_map, Array.toList_range, List.getElem?_map, List.getElem?_range hq, Option.map_some]
      rw [Array.getElem!_eq_getD]
      simp [hzk, hj]
    · rw [List.getElem?_eq_none, List.getElem?_eq_none]
      · rw [flat_len C.hf, List.length_replicate]; omega
      · simp; omega
  have hf : Instr.fill (fun i => some (i * C.k, C.k)) ((Array.range (len * C.k)).map (zv.cells[· % zv.cells.size]!)) vs = some l.toArray :=
    fill_eq' (pl := pl) (fun i p hp => by rw [plOk_spec hpl i p hp, Nat.zero_add]) vs _ l (by rw [hzl]; exact hl)
  have hlen' : 0 < len := by simpa using hlen
  have hr := run_buildSlice (P := P) w T C.E len vs.toArray l.toArray inf zv h1 hinf hz (by rw [hs]; have := Nat.le_of_ble_eq_true hsm; omega) (by rw [hs]; have := Nat.mul_pos hlen' h4; omega) (by rw [hs]; exact hf)
  refine wo_run (v := .slice (some ⟨w.heap.size, 0, none⟩) len len) (w' := w.alloc (.cells l.toArray C.E)) hd hn ?_ (h _ _ (S.newbox C.E l))
  intro n c he
  unfold execOp
  simp only [hop, List.map_toArray, partL_eq he hps, hr, Sem.run_bind, Sem.run_pure, Result.andThen_ok]
end
section
variable {α : Type} {C : Cd α} {N : Hp} {vs : List SlV} {xss : List (List α)}
end
end Go.Proofs.Ytkgofmloleicgaa
namespace Go.Proofs.Ytkgofmloleicgaa
open Go.ChangeShapes Go.WideShapes Go.ChangeAt Go.RowKit
section
variable {P : Program} {f : FuncId} {vs vs' : List Value} {w : World} {M : Hp} {X : Fr}
theorem Ct.cast {R : Value → Hp → Prop} (h : vs = vs') (c : Ct P f vs' w M X R) : Ct P f vs w M X R := h ▸ c
end
end Go.Proofs.Ytkgofmloleicgaa
namespace Go.Proofs.Ytkgofmloleicgaa
open Go.ChangeShapes Go.WideShapes Go.ChangeAt Go.RowKit
def SlV.v (s : SlV) : Value := .slice s.A s.n s.c
def tabBl (vs : List SlV) : List Nat := vs.flatMap (fun s => s.v.ownBlock.toList)
def TabOk {α : Type} (C : Cd α) (vs : List SlV) (xss : List (List α)) (h : Hp) : Prop :=
  vs.length = xss.length ∧ (∀ i, i < xss.length → RowOk C (ga vs i).v (ga xss i) h) ∧ ∀ i j, i < vs.length → j < vs.length → i ≠ j → ∀ b ∈ (ga vs i).v.ownBlock.toList, b ∉ (ga vs j).v.ownBlock.toList
theorem tab_mem {vs : List SlV} {b : Nat} : b ∈ tabBl vs ↔ ∃ i, i < vs.length ∧ b ∈ (ga vs i).v.ownBlock.toList := by
  unfold tabBl
  rw [List.mem_flatMap]
  constructor
  · rintro ⟨s, hs, hb⟩
    obtain ⟨i, hi, rfl⟩ := List.mem_iff_getElem.1 hs
    exact ⟨i, hi, by rw [ga_eq hi]; exact hb⟩
  · rintro ⟨i, hi, hb⟩
    exact ⟨ga vs i, ga_mem hi, hb⟩
/-- The inner rows. -/
def Rs.tab {α : Type} (C : Cd α) (vs : List SlV) (xss : List (List α)) : Rs :=
  ⟨tabBl vs, TabOk C vs xss, fun h h' hb hk => ⟨hk.1, fun i hi => (Rs.row C (ga vs i).v (ga xss i)).loc h h' (fun b hm => hb b (tab_mem.2 ⟨i, by rw [hk.1]; exact hi, hm⟩)) (hk.2.1 i hi), hk.2.2⟩⟩
section
variable {α : Type} {C : Cd α} {xs zs : List α} {v : Value} {w w' : World} {M : Hp} {X : Fr} {H H' : List Rs} {i q g k : Nat} {T : TypeId} {l : List Value} {vs : List SlV} {xss : List (List α)} {r s t : Rs}
theorem SH.newtab (S : SH w M X H) (C : Cd α) (n : Nat) : SH w M X (Rs.tab C (List.replicate n ⟨none, 0, 0⟩) (List.replicate n []) :: H) := by
  have hb : tabBl (List.replicate n ⟨none, 0, 0⟩) = [] := by
    unfold tabBl
    rw [List.flatMap_eq_nil_iff]
    intro x hx
    rw [List.eq_of_mem_replicate hx]
    rfl
  refine S.add ⟨by simp, fun i hi => ?_, fun i j hi hj _ b hb' => ?_⟩ hb
  · rw [List.length_replicate] at hi
    rw [ga_rep _ _ _ hi, ga_rep _ _ _ hi]
    exact .inl ⟨rfl, rfl⟩
  · rw [List.length_replicate] at hi
    rw [ga_rep _ _ _ hi] at hb'
    cases hb'
/-- Two things become one. -/
theorem SH.merge (S : SH w M X H) (hi : nth H i = some r) (hq : nth H q = some s) (hiq : i ≠ q) (hok : t.ok (hp w)) (hbl : ∀ b ∈ t.bl, b ∈ r.bl ∨ b ∈ s.bl) (hH : (H.set i t).set q Rs.emp = H') : SH w M X H' := by
  subst hH
  rw [nth_eq] at hi hq
  have hget : ∀ j u, ((H.set i t).set q Rs.emp)[j]? = some u → (j = q ∧ u = Rs.emp) ∨ (j ≠ q ∧ j = i ∧ u = t) ∨ (j ≠ q ∧ j ≠ i ∧ H[j]? = some u) := fun j u hu => by
    rw [List.getElem?_set] at hu
    by_cases h1 : q = j
    · subst h1
      rw [if_pos rfl] at hu
      split at hu
      · injection hu with hu; exact .inl ⟨rfl, hu.symm⟩
      · cases hu
    · rw [if_neg h1, List.getElem?_set] at hu
      by_cases h2 : i = j
      · subst h2
        rw [if_pos rfl] at hu
        split at hu
        · injection hu with hu; exact .inr (.inl ⟨fun e => h1 e.symm, rfl, hu.symm⟩)
        · cases hu
      · rw [if_neg h2] at hu
        exact .inr (.inr ⟨fun e => h1 e.symm, fun e => h2 e.symm, hu⟩)
  refine ⟨S.m, S.x, S.mx, fun u hu => ?_, fun u hu b hb => ?_, fun j m u y hjm hu hy b hb => ?_, S.like⟩
  · obtain ⟨j, hj⟩ := List.mem_iff_getElem?.1 hu
    rcases hget j u hj with ⟨_, rfl⟩ | ⟨_, _, rfl⟩ | ⟨_, _, h⟩
    · trivial
    · exact hok
    · exact S.ok u (List.mem_of_getElem? h)
  · obtain ⟨j, hj⟩ := List.mem_iff_getElem?.1 hu
    rcases hget j u hj with ⟨_, rfl⟩ | ⟨_, _, rfl⟩ | ⟨_, _, h⟩
    · cases hb
    · rcases hbl b hb with h | h
      · exact S.bl r (List.mem_of_getElem? hi) b h
      · exact S.bl s (List.mem_of_getElem? hq) b h
    · exact S.bl u (List.mem_of_getElem? h) b hb
  · rcases hget j u hu with ⟨_, rfl⟩ | ⟨h1, rfl, rfl⟩ | ⟨h1, h2, h⟩
    · cases hb
    · rcases hget m y hy with ⟨_, rfl⟩ | ⟨_, rfl, _⟩ | ⟨h3, h4, h⟩
      · intro hc; cases hc
      · exact absurd rfl hjm
      · rcases hbl b hb with hb | hb
        · exact S.ap j m r y hjm hi h b hb
        · exact S.ap q m s y (fun e => h3 e.symm) hq h b hb
    · rcases hget m y hy with ⟨_, rfl⟩ | ⟨h3, rfl, rfl⟩ | ⟨_, _, h'⟩
      · intro hc; cases hc
      · intro hc
        rcases hbl b hc with hc | hc
        · exact S.ap j m u r hjm h hi b hb hc
        · exact S.ap j q u s h1 h hq b hb hc
      · exact S.ap j m u y hjm h h' b hb
/-- A row goes into the table. -/
theorem SH.tabput {A : Option Addr} {c : Nat} (S : SH w M X H) (k : Nat) (hi : nth H i = some (Rs.tab C vs xss)) (hq : nth H q = some (Rs.row C (.slice A zs.length c) zs)) (hiq : i ≠ q) (hk : k < xss.length) (hH : (H.set i (Rs.tab C (vs.set k ⟨A, zs.length, c⟩) (xss.set k zs))).set q Rs.emp = H') : SH w M X H' := by
  have ht : TabOk C vs xss (hp w) := S.get hi
  have hr : RowOk C (.slice A zs.length c) zs (hp w) := S.get hq
  have hkv : k < vs.length := by rw [ht.1]; exact hk
  have hap : ∀ j, j < vs.length → ∀ b ∈ (ga vs j).v.ownBlock.toList, b ∉ (Value.slice A zs.length c).ownBlock.toList := fun j hj b hb => by
    rw [nth_eq] at hi hq
    exact S.ap i q _ _ hiq hi hq b (tab_mem.2 ⟨j, hj, hb⟩)
  refine S.merge (t := Rs.tab C (vs.set k ⟨A, zs.length, c⟩) (xss.set k zs)) hi hq hiq ⟨by simp [ht.1], fun j hj => ?_, fun j m hj hm hjm b hb => ?_⟩ (fun b hb => ?_) hH
  · rw [List.length_set] at hj
    rw [ga_set _ _ _ _ hkv, ga_set _ _ _ _ hk]
    by_cases h : k = j
    · rw [if_pos h, if_pos h]; exact hr
    · rw [if_neg h, if_neg h]; exact ht.2.1 j hj
  · rw [List.length_set] at hj hm
    rw [ga_set _ _ _ _ hkv] at hb ⊢
    by_cases h1 : k = j
    · rw [if_pos h1] at hb
      rw [if_neg (by omega)]
      exact fun hc => hap m hm b hc hb
    · rw [if_neg h1] at hb
      by_cases h2 : k = m
      · rw [if_pos h2]; exact hap j hj b hb
      · rw [if_neg h2]; exact ht.2.2 j m hj hm hjm b hb
  · obtain ⟨j, hj, hb⟩ := tab_mem.1 hb
    rw [List.length_set] at hj
    rw [ga_set _ _ _ _ hkv] at hb
    by_cases h : k = j
    · rw [if_pos h] at hb; exact .inr hb
    · rw [if_neg h] at hb; exact .inl (tab_mem.2 ⟨j, hj, hb⟩)
/-- A box is a row. -/
theorem SH.boxrow (S : SH w M X H) (zs : List α) (hi : nth H i = some (Rs.box g C.E l)) (hl : l = zs.flatMap C.f) (hm : zs.length ≤ 16777216) (hH : H.set i (Rs.row C (.slice (some ⟨g, 0, none⟩) zs.length zs.length) zs) = H') : SH w M X H' := by
  have hb : hp w g = some (.cells l.toArray C.E (0, 0)) := S.get hi
  refine S.step hi hH (Like.refl w) (fun _ _ _ => rfl) (.inr ⟨g, zs.length, l.toArray, rfl, hb, Nat.le_refl _, by unfold maxLen; omega, by rw [hl]; simpa using flat_len C.hf zs, ?_⟩) (fun b hb' => ⟨.inl ?_, ?_⟩)
  · rw [hl, List.take_of_length_le (by rw [List.toList_toArray, flat_len C.hf]; exact Nat.le_refl _)]
  · simpa [Rs.row, Value.ownBlock, Rs.box] using hb'
  · simp [Rs.row, Value.ownBlock] at hb'
    subst hb'
    exact hp_lt hb
/-- What is known of an inner row. -/
theorem SH.tabrow (S : SH w M X H) (hi : nth H i = some (Rs.tab C vs xss)) (hk : k < xss.length) : (ga vs k).n = (ga xss k).length ∧ (0 < (ga xss k).length → (ga vs k).A = some ⟨adB (ga vs k).A, 0, none⟩) ∧ (ga xss k).length ≤ (ga vs k).c := by
  rcases (S.get hi : TabOk C vs xss (hp w)).2.1 k hk with ⟨h1, h2⟩ | ⟨g, cap, cur, h1, h2, h3, _⟩
  · injection h1 with h1 h1' h1''
    rw [h2]
    exact ⟨h1', fun h => absurd h (by simp), by simp⟩
  · injection h1 with h1 h1' h1''
    exact ⟨h1', fun _ => by rw [h1]; rfl, by rw [h1'']; exact h3⟩
theorem rb_v (s : SlV) : rb s.v = adB s.A := by
  obtain ⟨A, n, c⟩ := s
  cases A <;> rfl
theorem RowOk.cell [Inhabited α] (h : RowOk C v xs (hp w)) {e j : Nat} {u : Value} (he : e < xs.length) (hj : Nat.blt j C.k = true) (hu : nth (C.f (ga xs e)) j = some u) : w.cell? ⟨rb v, e * C.k + j, none⟩ = some u := by
  rcases h with ⟨_, h2⟩ | ⟨g, cap, cur, rfl, h2, h3, h4, h5, h6⟩
  · rw [h2] at he; simp at he
  · have hj' : j < C.k := by simpa using hj
    show w.cell? ⟨g, e * C.k + j, none⟩ = some u
    rw [cell_of_row w g _ cur C.E (0, 0) h2]
    have hlt : e * C.k + j < xs.length * C.k := by
      have := Nat.mul_le_mul_right C.k (show e + 1 ≤ xs.length by omega)
      rw [Nat.succ_mul] at this
      omega
    have h7 := flat_get C.hf (xs := xs) he hj'
    rw [← h6, List.getElem?_take, if_pos hlt, ← ga_eq he, ← nth_eq (C.f (ga xs e)), hu] at h7
    simpa using h7
theorem SH.tabc [Inhabited α] (S : SH w M X H) (hi : nth H i = some (Rs.tab C vs xss)) (hk : k < xss.length) {e j : Nat} {u : Value} (he : e < (ga xss k).length) (hj : Nat.blt j C.k = true) (hu : nth (C.f (ga (ga xss k) e)) j = some u) : w.cell? ⟨adB (ga vs k).A, e * C.k + j, none⟩ = some u := by
  have := ((S.get hi : TabOk C vs xss (hp w)).2.1 k hk).cell he hj hu
  rwa [rb_v] at this
end
section
variable {P : Program} {o : Oper} {L : List (Nat × Value)} {w w' : World} {x y z : Operand} {t t' T E : TypeId} {a b : Int} {v u : Value} {n d : Nat} {Kt : List (Nat × Value) → World → Prop} {M M' : Hp} {X : Fr} {H H' : List Rs} {i k g off : Nat} {l : List Value}
theorem run_indexT {α : Type} {C : Cd α} {vs : List SlV} {xss : List (List α)} {m : Nat} (k e : Nat) (hop : o.op = .indexAddr T x y) (hx : oev L x = some (.slice (ga vs k).A m (ga vs k).c)) (hm : m = (ga vs k).n) (hy : oev L y = some (.int .i64 a)) (hT : SlOf P T C) (S : SH w M X H) (hi : nth H i = some (Rs.tab C vs xss)) (hk : k < xss.length)
    (ha : a = (e : Int)) (he : e < (ga xss k).length) : Run P o L w (.pointer (some ⟨adB (ga vs k).A, e * C.k, none⟩)) w := by
  obtain ⟨h0, h1, _⟩ := S.tabrow hi hk
  obtain ⟨z, hu, h2, _⟩ := hT
  obtain ⟨inf, hinf, _, hs, _⟩ := info_parts h2
  have := run_indexAddr (P := P) (w := w) hop hx hy hu (k := C.k) (by rw [hinf]; simp [hs]) ha (by rw [hm, h0]; exact he) (h1 (by omega))
  rwa [Nat.zero_add] at this
theorem row_stored {α : Type} [Inhabited α] {C : Cd α} {ys : List α} {us : List Value} {rv : Value} {e j : Nat} (y' : α) (hok : RowOk C rv ys (hp w)) (he : e < ys.length) (hfit' : j + us.length ≤ C.k) (hl' : spl (C.f (ga ys e)) j us = C.f y') :
    ∃ cur : Array Value, hp w (rb rv) = some (.cells cur C.E (0, 0)) ∧ rb rv ∈ rv.ownBlock.toList ∧ (∀ b ∈ rv.ownBlock.toList, b = rb rv) ∧ e * C.k + j + us.length ≤ cur.size ∧ RowOk C rv (ys.set e y') (hp (w.setRow (rb rv) (cur.toList.take (e * C.k + j) ++ us ++ cur.toList.drop (e * C.k + j + us.length)).toArray)) := by
  rw [ga_eq he] at hl'
  rcases hok with ⟨_, h2⟩ | ⟨g, cap, cur, rfl, h2, h3, h4, h5, h6⟩
  · subst h2; simp at he
  · have hcur : e * C.k + j + us.length ≤ cur.size := by
      have h7 : e * C.k + C.k ≤ cap * C.k := by rw [← Nat.succ_mul]; exact Nat.mul_le_mul_right _ (by omega)
      omega
    refine ⟨cur, h2, by simp [rb, Value.ownBlock], fun b hb => by simpa [rb, Value.ownBlock] using hb, hcur, ?_⟩
    have hcur' : e * C.k + j + us.length ≤ cur.toList.length := by simpa using hcur
    rw [← spl_eq us cur.toList (e * C.k + j) hcur']
    have hs := setRow_heap w g cur (spl cur.toList (e * C.k + j) us).toArray C.E (0, 0) h2
    refine .inr ⟨g, cap, (spl cur.toList (e * C.k + j) us).toArray, by rw [List.length_set], hs, by rw [List.length_set]; exact h3, h4, by simp [spl_len, h5], ?_⟩
    rw [List.length_set, ← flat_spl ys e j us y' he hfit' hl', ← h6]
    apply List.ext_getElem?
    intro m
    have hle : e * C.k + C.k ≤ ys.length * C.k := by rw [← Nat.succ_mul]; exact Nat.mul_le_mul_right _ he
    have hys : ys.length * C.k ≤ cur.size := by rw [h5]; exact Nat.mul_le_mul_right _ h3
    rw [List.getElem?_take, spl_get us _ _ _ hcur', spl_get us _ _ _ (by simp; omega), List.getElem?_take]
    by_cases hm : m < ys.length * C.k
    · rw [if_pos hm, if_pos hm]
    · rw [if_neg hm, if_neg hm, if_neg (by omega)]
theorem wo_storeT {α : Type} [Inhabited α] {C : Cd α} {vs : List SlV} {xss : List (List α)} {us : List Value} {k e j : Nat} (y' : α) (hop : o.op = .store T x y) (hd : o.dst = none) (S : SH w M X H) (hi : nth H i = some (Rs.tab C vs xss)) (hkk : k < xss.length) (he : e < (ga xss k).length) (hx : oev L x = some (.pointer (some ⟨adB (ga vs k).A, e * C.k + j, none⟩))) (hy : oev L y = some v) (hl : v.cells.toList = us) (hk : (P.info? T).map (·.size) = some us.length)
    (hfit : Nat.ble (j + us.length) C.k = true) (h1 : ones us = true) (hl' : spl (C.f (ga (ga xss k) e)) j us = C.f y') (hH : H.set i (Rs.tab C vs (xss.set k ((ga xss k).set e y'))) = H') (h : ∀ w', SH w' M X H' → Kt L w') : WO P n o L w Kt := by
  have hfit' : j + us.length ≤ C.k := by simpa using hfit
  have ht : TabOk C vs xss (hp w) := S.get hi
  have hkv : k < vs.length := by rw [ht.1]; exact hkk
  obtain ⟨cur, h2, h3, h4, h5, h6⟩ := row_stored (w := w) y' (ht.2.1 k hkk) he hfit' hl'
  rw [← rb_v] at hx
  refine wo_runS hd (run_storeAt hop hx hy hl hk h2 h5 (ones_spec h1)) (h _ ?_)
  have hmem : rb (ga vs k).v ∈ tabBl vs := tab_mem.2 ⟨k, hkv, h3⟩
  refine S.step hi hH (like_setRow _ _ _) (fun b _ hb => keep_setRow _ _ _ b (fun e => hb (by rw [e]; exact hmem))) ⟨by simp [ht.1], fun m hm => ?_, ht.2.2⟩ (fun b hb => ⟨.inl hb, ?_⟩)
  · rw [List.length_set] at hm
    rw [ga_set _ _ _ _ hkk]
    by_cases hkm : k = m
    · subst hkm
      rw [if_pos rfl]; exact h6
    · rw [if_neg hkm]
      refine (Rs.row C (ga vs m).v (ga xss m)).loc _ _ (fun b hb => keep_setRow _ _ _ b (fun e => ?_)) (ht.2.1 m hm)
      subst e
      exact ht.2.2 k m hkv (by rw [ht.1]; exact hm) hkm _ h3 hb
  · have hm : Rs.tab C vs xss ∈ H := by rw [nth_eq] at hi; exact List.mem_of_getElem? hi
    have := S.bl _ hm b hb
    simpa using this.1
end
end Go.Proofs.Ytkgofmloleicgaa
namespace Go.Proofs.Ytkgofmloleicgaa
open Go.ChangeShapes Go.WideShapes Go.ChangeAt Go.RowKit
/-- Of the things that are owned, the first ones are written in the region and not read. -/
theorem ws_drawN {P : Program} {n : Nat} {C : Ctx} {c : Code} {s : List K} {L : List (Nat × Value)} {w : World} {M : Hp} {X : Fr} (N Hb : List Rs) (hk : kind c = 8) (hm : P.follows .mixedOrders = true) (S : SH w M X (N ++ Hb)) (f : Nat) (hf : (rg c).size = f) (h : WA P n C c s X f (Array.replicate f false) L M Hb M (N ++ Hb)) : WS P n C c s L w := by
  intro a ha
  rw [kind_draw hk]
  refine wp_region_any hm ?_
  rw [hf]
  exact AnyM.any _ _ _ _ _ _ _ _ (S.kp ⟨rfl, rfl, rfl, Nat.le_refl _⟩ fun _ _ => rfl) (down_start _) (h ⟨Hp.le_refl _, N, rfl⟩ a ha)
/-- A field of one cell, compared: its offset; is it a Bool? -/
def FE (P : Program) (f : Field) (p : Nat × Bool) : Prop :=
  (f.name == "_") = false ∧ f.offset = p.1 ∧ (match p.2 with | true => P.underlying f.type = some .bool | false => ∃ k, P.underlying f.type = some (.int k))
def EqIs (xs ys : List Value) : List (Nat × Bool) → Prop → Prop
  | [], Q => Q = True
  | [(o, false)], Q => ∃ k x y, nth xs o = some (.int k x) ∧ nth ys o = some (.int k y) ∧ Q = (x = y)
  | [(o, true)], Q => ∃ x y, nth xs o = some (.bool x) ∧ nth ys o = some (.bool y) ∧ Q = (x = y)
  | (o, false) :: r, Q => ∃ k x y Q', nth xs o = some (.int k x) ∧ nth ys o = some (.int k y) ∧ EqIs xs ys r Q' ∧ Q = (x = y ∧ Q')
  | (o, true) :: r, Q => ∃ x y Q', nth xs o = some (.bool x) ∧ nth ys o = some (.bool y) ∧ EqIs xs ys r Q' ∧ Q = (x = y ∧ Q')
def StEq (P : Program) (T : TypeId) (pl : List (Nat × Bool)) : Prop :=
  ∃ fs : List Field, P.underlying T = some (.struct fs.toArray) ∧ Al2 (FE P) fs pl ∧ P.stoodInHeld T = false ∧ P.eqGuardType P.depth T = false
section
variable {P : Program}
theorem eqIs_go {xs ys : List Value} {o : Nat} {b : Bool} : ∀ {r : List (Nat × Bool)} {Q : Prop}, EqIs xs ys ((o, b) :: r) Q → ∃ Q1 Q2, (match b with | false => ∃ k x y, nth xs o = some (.int k x) ∧ nth ys o = some (.int k y) ∧ Q1 = (x = y) | true => ∃ x y, nth xs o = some (.bool x) ∧ nth ys o = some (.bool y) ∧ Q1 = (x = y)) ∧ EqIs xs ys r Q2 ∧ (Q ↔ Q1 ∧ Q2)
  | [], Q, h => by
    cases b with
    | false => obtain ⟨k, x, y, h1, h2, rfl⟩ := h; exact ⟨_, True, ⟨k, x, y, h1, h2, rfl⟩, rfl, by simp⟩
    | true => obtain ⟨x, y, h1, h2, rfl⟩ := h; exact ⟨_, True, ⟨x, y, h1, h2, rfl⟩, rfl, by simp⟩
  | (_ :: _), Q, h => by
    cases b with
    | false => obtain ⟨k, x, y, Q', h1, h2, h3, rfl⟩ := h; exact ⟨_, Q', ⟨k, x, y, h1, h2, rfl⟩, h3, Iff.rfl⟩
    | true => obtain ⟨x, y, Q', h1, h2, h3, rfl⟩ := h; exact ⟨_, Q', ⟨x, y, h1, h2, rfl⟩, h3, Iff.rfl⟩
theorem part1 {T : TypeId} {dd : TypeDesc} {cs : List Value} {o : Nat} {v : Value} {w : World} (hu : P.underlying T = some dd) (hd : flatD dd = true) (hv : nth cs o = some v) : (part T cs.toArray o).run P w = .ok v w := by
  rw [nth_eq] at hv
  simp only [part, Sem.run_bind, run_isAgg hu, hd, Result.andThen_ok, Bool.not_true, Bool.false_eq_true, if_false, List.getElem?_toArray, hv, Sem.run_pure]
theorem run_eqFields {xs ys : List Value} {w : World} : ∀ {fs : List Field} {pl : List (Nat × Bool)} {Q : Prop}, Al2 (FE P) fs pl → EqIs xs ys pl Q → ∃ r : Bool, (Op.eqFields 9999 xs.toArray ys.toArray fs).run P w = .ok r w ∧ (r = true ↔ Q)
  | [], [], Q, _, h => ⟨true, rfl, by rw [show Q = True from h]; simp⟩
  | f :: fs, (o, b) :: pl, Q, ha, h => by
    obtain ⟨⟨hn, ho, hu⟩, ha⟩ := ha
    obtain ⟨Q1, Q2, h1, h2, hiff⟩ := eqIs_go h
    obtain ⟨r2, hr2, hi2⟩ := run_eqFields (w := w) ha h2
    have hne : f.name ≠ "_" := by simpa using hn
    simp only at ho
    have key : ∃ r1 : Bool, ∃ u v, (part f.type xs.toArray f.offset).run P w = .ok u w ∧ (part f.type ys.toArray f.offset).run P w = .ok v w ∧ (Op.equalIn 9999 f.type u v).run P w = .ok r1 w ∧ (r1 = true ↔ Q1) := by
      cases b with
      | false =>
        obtain ⟨k, x, y, g1, g2, rfl⟩ := h1
        obtain ⟨k', hu⟩ := hu
        exact ⟨_, _, _, part1 hu rfl (by rw [ho]; exact g1), part1 hu rfl (by rw [ho]; exact g2), run_equalIn_int w 9998 _ _ _ _ _ hu, by simp⟩
      | true =>
        obtain ⟨x, y, g1, g2, rfl⟩ := h1
        exact ⟨_, _, _, part1 hu rfl (by rw [ho]; exact g1), part1 hu rfl (by rw [ho]; exact g2), run_equalIn_bool' w 9998 _ _ _ hu, by simp⟩
    obtain ⟨r1, u, v, k1, k2, k3, k4⟩ := key
    refine ⟨r1 && r2, ?_, by rw [hiff, ← k4, ← hi2]; simp⟩
    rw [Op.eqFields, if_pos hne]
    simp only [Sem.run_bind, k1, k2, k3, Result.andThen_ok]
    cases r1 <;> simp [hr2]
  | [], _ :: _, _, ha, _ => False.elim ha
  | _ :: _, [], _, ha, _ => False.elim ha
variable {o : Oper} {L : List (Nat × Value)} {w : World} {x y : Operand} {t t' : TypeId}
theorem run_equalSt {xs ys : List Value} {pl : List (Nat × Bool)} {Q : Prop} [Decidable Q] (hT : StEq P t pl) (he : EqIs xs ys pl Q) : (Op.equalIn 10000 t (.agg xs.toArray) (.agg ys.toArray)).run P w = .ok (decide Q) w := by
  obtain ⟨fs, hu, ha, hs, _⟩ := hT
  have hfs : P.fieldsOf t = fs.toArray := by simp [Program.fieldsOf, hu]
  obtain ⟨r, hr, hi⟩ := run_eqFields (w := w) ha he
  rw [run_equalIn_struct w 9999 t _ _ (by rw [hfs]; exact hu) hs, hfs]
  have : r = decide Q := by
    by_cases h : Q
    · rw [decide_eq_true h]; exact hi.2 h
    · rw [decide_eq_false h]
      cases r with
      | false => rfl
      | true => exact absurd (hi.1 rfl) h
  rw [← this]
  exact hr
theorem run_eqSt {xs ys : List Value} {pl : List (Nat × Bool)} {Q : Prop} [Decidable Q] (hop : o.op = .binOp .eql t x y t') (hx : oev L x = some (.agg xs.toArray)) (hy : oev L y = some (.agg ys.toArray)) (hT : StEq P t pl) (he : EqIs xs ys pl Q) : Run P o L w (.bool (decide Q)) w := by
  intro n c' he'
  have hg := run_eqGuard_agg (P := P) w .eql t x y xs.toArray ys.toArray hT.choose_spec.2.2.2
  unfold execOp
  simp only [hop, he'.eval hx, he'.eval hy, hg, Sem.run_bind, Sem.run_pure, Result.andThen_ok, run_eql_struct, run_equalSt hT he]
theorem run_neSt {xs ys : List Value} {pl : List (Nat × Bool)} {Q : Prop} [Decidable Q] (hop : o.op = .binOp .neq t x y t') (hx : oev L x = some (.agg xs.toArray)) (hy : oev L y = some (.agg ys.toArray)) (hT : StEq P t pl) (he : EqIs xs ys pl Q) : Run P o L w (.bool (decide (¬ Q))) w := by
  intro n c' he'
  have hg := run_eqGuard_agg (P := P) w .neq t x y xs.toArray ys.toArray hT.choose_spec.2.2.2
  unfold execOp
  simp only [hop, he'.eval hx, he'.eval hy, hg, Sem.run_bind, Sem.run_pure, Result.andThen_ok, run_neq_struct, run_equalSt hT he, decide_not]
end
end Go.Proofs.Ytkgofmloleicgaa
namespace Go.Proofs.Ytkgofmloleicgaa
open Go.ChangeShapes Go.WideShapes Go.ChangeAt Go.RowKit
section
variable {κ ε : Type} [DecidableEq κ]
def mg (k : κ) : List (κ × ε) → Option ε
  | [] => none
  | p :: r => if k = p.1 then some p.2 else mg k r
def mp (k : κ) (v : ε) : List (κ × ε) → List (κ × ε)
  | [] => [(k, v)]
  | p :: r => if k = p.1 then (k, v) :: r else p :: mp k v r
def fk (k : κ) : List (κ × ε) → Nat → Option (Nat × ε)
  | [], _ => none
  | p :: r, i => if k = p.1 then some (i, p.2) else fk k r (i + 1)
theorem mg_mp (k k' : κ) (v : ε) : ∀ es : List (κ × ε), mg k (mp k' v es) = if k = k' then some v else mg k es
  | [] => by simp [mp, mg]
  | p :: r => by
    unfold mp
    by_cases h : k' = p.1
    · rw [if_pos h]
      by_cases h2 : k = k'
      · simp [mg, h2]
      · have h3 : k ≠ p.1 := fun e => h2 (e.trans h.symm)
        simp [mg, h2, h3]
    · rw [if_neg h]
      have ih := mg_mp k k' v r
      by_cases h2 : k = p.1
      · have h3 : k ≠ k' := fun e => h (e.symm.trans h2)
        rw [if_neg h3]
        simp [mg, h2]
      · simp only [mg, if_neg h2, ih]
theorem fk_none {k : κ} : ∀ {es : List (κ × ε)} {i : Nat}, fk k es i = none → mg k es = none ∧ ∀ v, mp k v es = es ++ [(k, v)]
  | [], _, _ => ⟨rfl, fun _ => rfl⟩
  | p :: r, i, h => by
    unfold fk at h
    split at h
    · cases h
    · rename_i hne
      obtain ⟨h1, h2⟩ := fk_none h
      exact ⟨by simp [mg, hne, h1], fun v => by simp [mp, hne, h2 v]⟩
theorem fk_some {k : κ} : ∀ {es : List (κ × ε)} {i j : Nat} {v : ε}, fk k es i = some (j, v) → mg k es = some v ∧ ∃ m, j = i + m ∧ ∃ p, es[m]? = some p ∧ p.1 = k ∧ ∀ v', mp k v' es = es.set m (k, v')
  | p :: r, i, j, v, h => by
    unfold fk at h
    split at h
    · rename_i he
      injection h with h
      injection h with h1 h2
      exact ⟨by simp [mg, he, h2], 0, by omega, p, rfl, he.symm, fun v' => by simp [mp, he]⟩
    · rename_i hne
      obtain ⟨h1, m, h2, q, h3, h4, h5⟩ := fk_some h
      exact ⟨by simp [mg, hne, h1], m + 1, by omega, q, by simpa using h3, h4, fun v' => by simp [mp, hne, h5 v']⟩
end
/-- How a map's keys lie: each value's key. -/
structure MapK (P : Program) (K : TypeId) {κ : Type} [DecidableEq κ] (kc : κ → Value) : Prop where
  check : ∀ k w b, (Instr.checkKey b 10000 K (kc k)).run P w = .ok () w
  find : ∀ (k : κ) (es : List (κ × Value)) (l : List MapEntry) (w : World), l.map (fun e => (e.key, e.val)) = es.map (fun p => (kc p.1, p.2)) → (Instr.findKey K (kc k) l).run P w = .ok (fk k es 0) w
  bits : ∀ k, Instr.sameBits 10000 (kc k) (kc k) = true
/-- .. where the key is a struct of numbers and Bools. -/
theorem mapK_st {P : Program} {K : TypeId} {κ : Type} [DecidableEq κ] {f : κ → List Value} {pl : List (Nat × Bool)} (hT : StEq P K pl) (he : ∀ x y, ∃ Q, EqIs (f x) (f y) pl Q ∧ (Q ↔ x = y)) (hb : ∀ k, Instr.sameBits 10000 (.agg (f k).toArray) (.agg (f k).toArray) = true) : MapK P K (fun k => .agg (f k).toArray) := by
  have heq : ∀ (x y : κ) (w : World), (Op.equal K (.agg (f x).toArray) (.agg (f y).toArray)).run P w = .ok (decide (x = y)) w := by
    intro x y w
    obtain ⟨Q, h1, h2⟩ := he x y
    haveI : Decidable Q := decidable_of_iff _ h2.symm
    have := run_equalSt (P := P) (w := w) hT h1
    rw [show decide (x = y) = decide Q from decide_eq_decide.2 h2.symm]
    exact this
  have hask : ∀ (k : κ) (es : List (κ × Value)) (l : List MapEntry) (i : Nat) (w : World), l.map (fun e => (e.key, e.val)) = es.map (fun p => (Value.agg (f p.1).toArray, p.2)) → (Instr.findAsking K (.agg (f k).toArray) l i).run P w = .ok (fk k es i) w := by
    intro k es
    induction es with
    | nil => intro l i w h; rw [List.map_nil, List.map_eq_nil_iff] at h; subst h; rfl
    | cons p es ih =>
      intro l i w h
      cases l with
      | nil => cases h
      | cons e l =>
        simp only [List.map_cons, List.cons.injEq, Prod.mk.injEq] at h
        unfold Instr.findAsking fk
        rw [h.1.1]
        simp only [Sem.run_bind, heq, Result.andThen]
        by_cases hk : k = p.1
        · simp [hk, h.1.2]
        · simp only [hk, decide_false, Bool.false_eq_true, if_false]
          exact ih l (i + 1) w h.2
  obtain ⟨fs, hu, ha, hs, _⟩ := hT
  refine ⟨fun k w b => ?_, fun k es l w h => ?_, hb⟩
  · have hfs : ∀ (fs : List Field) (pl : List (Nat × Bool)) (Q : Prop), Al2 (FE P) fs pl → EqIs (f k) (f k) pl Q → ((forIn fs PUnit.unit fun (fld : Field) (_ : PUnit) => if fld.name ≠ "_" then (do
        let x ← part fld.type (f k).toArray fld.offset
        Instr.checkKey b 9999 fld.type x
        pure (ForInStep.yield PUnit.unit) : Sem (ForInStep PUnit)) else pure (ForInStep.yield PUnit.unit)) : Sem PUnit).run P w = .ok () w := by
      intro fs
      induction fs with
      | nil => intro pl Q _ _; rfl
      | cons fld fs ih =>
        intro pl Q ha h
        cases pl with
        | nil => exact False.elim ha
        | cons p pl =>
          obtain ⟨o, bb⟩ := p
          obtain ⟨⟨hn, ho, hu'⟩, ha⟩ := ha
          obtain ⟨Q1, Q2, h1, h2, _⟩ := eqIs_go h
          have hne : fld.name ≠ "_" := by simpa using hn
          simp only at ho
          have key : ∃ u, (part fld.type (f k).toArray fld.offset).run P w = .ok u w ∧ (Instr.checkKey b 9999 fld.type u).run P w = .ok () w := by
            cases bb with
            | false =>
              obtain ⟨q, x, y, g1, _, _⟩ := h1
              obtain ⟨k', hu'⟩ := hu'
              refine ⟨_, part1 hu' rfl (by rw [ho]; exact g1), ?_⟩
              rw [show (9999 : Nat) = 9998 + 1 from rfl]
              unfold Instr.checkKey
              simp only [Sem.run_bind, run_underlying hu', Result.andThen]
              rfl
            | true =>
              obtain ⟨x, y, g1, _, _⟩ := h1
              refine ⟨_, part1 hu' rfl (by rw [ho]; exact g1), ?_⟩
              rw [show (9999 : Nat) = 9998 + 1 from rfl]
              unfold Instr.checkKey
              simp only [Sem.run_bind, run_underlying hu', Result.andThen]
              rfl
          obtain ⟨u, k1, k2⟩ := key
          have := ih pl Q2 ha h2
          rw [List.forIn_cons]
          simp only [if_pos hne, Sem.run_bind, k1, k2, Result.andThen, Sem.run_pure]
          exact this
    obtain ⟨Q, h1, _⟩ := he k k
    have := hfs fs pl Q ha h1
    rw [show (10000 : Nat) = 9999 + 1 from rfl]
    unfold Instr.checkKey
    simp only [Sem.run_bind, run_underlying hu, Result.andThen]
    rw [← Array.forIn_toList, List.toList_toArray]
    rw [this]
    rfl
  · unfold Instr.findKey
    simp only [Sem.run_bind, run_underlying hu, Result.andThen]
    cases l with
    | nil =>
      cases es with
      | nil => simp [Instr.findNow, fk]
      | cons p es => cases h
    | cons e l =>
      have hn : Instr.findNow (.struct fs.toArray) (.agg (f k).toArray) (e :: l) 0 = none := by
        unfold Instr.findNow
        simp [Instr.sameNow]
      rw [hn]
      exact hask k es (e :: l) 0 w h
/-- No stamp stands twice; all are older than the clock. -/
def Stm (arr : Array MapEntry) (clock : Nat) : Prop := (arr.toList.map (·.born)).Nodup ∧ ∀ e ∈ arr.toList, e.born < clock
def MpOk {κ ε : Type} (kc : κ → Value) (vc : ε → Value) (g : Nat) (es : List (κ × ε)) (h : Hp) : Prop :=
  ∃ arr clock, h g = some (.map arr clock) ∧ arr.toList.map (fun e => (e.key, e.val)) = es.map (fun p => (kc p.1, vc p.2)) ∧ Stm arr clock
def Rs.mp {κ ε : Type} (kc : κ → Value) (vc : ε → Value) (g : Nat) (es : List (κ × ε)) : Rs :=
  ⟨[g], MpOk kc vc g es, fun h h' hb hk => by
    obtain ⟨arr, clock, h1, h2⟩ := hk
    exact ⟨arr, clock, by rw [hb g (by simp)]; exact h1, h2⟩⟩
section
variable {P : Program} {o : Oper} {L : List (Nat × Value)} {w w' : World} {x y z : Operand} {t T K E : TypeId} {v u : Value} {n d g i : Nat} {Kt : List (Nat × Value) → World → Prop} {M M' : Hp} {X : Fr} {H H' : List Rs}
variable {κ ε : Type} [DecidableEq κ] {kc : κ → Value} {vc : ε → Value} {es : List (κ × ε)}
theorem wo_makeMap (κ ε : Type) (kc : κ → Value) (vc : ε → Value) (hop : o.op = .makeMap T none) (hd : o.dst = some d) (hn : Nat.blt d n = true) (S : SH w M X H)
    (h : ∀ g w', SH w' M X (Rs.mp kc vc g ([] : List (κ × ε)) :: H) → Kt ((d, .map (some g)) :: L) w') : WO P n o L w Kt := by
  refine wo_run (v := .map (some w.heap.size)) (w' := w.alloc (.map #[] 0)) hd hn ?_ (h _ _ ?_)
  · intro n c he
    unfold execOp
    simp only [hop, Option.map_none, run_makeMap, Sem.run_bind, Result.andThen_ok, Sem.run_pure]
  · exact S.cons (like_alloc w _) (keep_alloc w _) ⟨#[], 0, heap_alloc_new w _, rfl, by simp [Stm]⟩ (fun b hb => by simp [Rs.mp] at hb; subst hb; rw [size_al]; omega)
omit [DecidableEq κ] in
theorem map_pairs {arr : Array MapEntry} (h : arr.toList.map (fun e => (e.key, e.val)) = es.map (fun p => (kc p.1, vc p.2))) : arr.toList.map (fun e => (e.key, e.val)) = (es.map (fun p => (p.1, vc p.2))).map (fun p => (kc p.1, p.2)) := by
  rw [h, List.map_map]; rfl
theorem fk_map (k : κ) : ∀ (es : List (κ × ε)) (i : Nat), fk k (es.map (fun p => (p.1, vc p.2))) i = (fk k es i).map (fun q => (q.1, vc q.2))
  | [], _ => rfl
  | p :: r, i => by
    simp only [List.map_cons, fk]
    split
    · rfl
    · exact fk_map k r (i + 1)
theorem SH.look {k : κ} {zv : ε} (S : SH w M X H) (hi : nth H i = some (Rs.mp kc vc g es)) (hu : P.underlying T = some (.map K E)) (hK : MapK P K kc) (hz : (P.info? E).map (·.zero) = some (some (vc zv))) : (Instr.lookup T (.map (some g)) (kc k) false).run P w = .ok (vc ((mg k es).getD zv)) w ∧ (Instr.lookup T (.map (some g)) (kc k) true).run P w = .ok (.tuple #[vc ((mg k es).getD zv), .bool (mg k es).isSome]) w := by
  obtain ⟨arr, clock, hg, ha, hstm⟩ := (S.get hi : MpOk kc vc g es (hp w))
  have hf := hK.find k _ arr.toList w (map_pairs ha)
  rw [fk_map] at hf
  have hg' : w.heap[g]? = some (.map arr clock) := hg
  have hgo := MapKept.run_getObj_map (P := P) hg'
  have hc := fun b => hK.check k w b
  cases hfk : fk k es 0 with
  | none =>
    rw [hfk] at hf
    have hm := (fk_none hfk).1
    constructor
    · simp only [Instr.lookup, Sem.run_bind, run_underlying hu, hgo, hc, hf, Result.andThen_ok, Sem.run_pure, run_zero hz, Option.map_none, hm, Option.getD_none]
      rfl
    · simp only [Instr.lookup, Sem.run_bind, run_underlying hu, hgo, hc, hf, Result.andThen_ok, Sem.run_pure, run_zero hz, Option.map_none, hm, Option.getD_none]
      rfl
  | some q =>
    obtain ⟨j, v⟩ := q
    rw [hfk] at hf
    have hm := (fk_some hfk).1
    constructor
    · simp only [Instr.lookup, Sem.run_bind, run_underlying hu, hgo, hc, hf, Result.andThen_ok, Sem.run_pure, Option.map_some, hm, Option.getD_some]
      rfl
    · simp only [Instr.lookup, Sem.run_bind, run_underlying hu, hgo, hc, hf, Result.andThen_ok, Sem.run_pure, Option.map_some, hm, Option.getD_some]
      rfl
theorem run_lookup {k : κ} {zv : ε} (hop : o.op = .lookup T x y false) (hx : oev L x = some (.map (some g))) (hy : oev L y = some (kc k)) (hu : P.underlying T = some (.map K E)) (hK : MapK P K kc) (hz : (P.info? E).map (·.zero) = some (some (vc zv))) (S : SH w M X H) (hi : nth H i = some (Rs.mp kc vc g es)) : Run P o L w (vc ((mg k es).getD zv)) w := by
  intro n c he
  unfold execOp
  simp only [hop, he.eval hx, he.eval hy, (S.look hi hu hK hz).1, Sem.run_bind, Result.andThen_ok, Sem.run_pure]
theorem like_setB (w : World) (g : Nat) (ob : Obj) : Like w { w with heap := w.heap.setIfInBounds g ob } := ⟨rfl, rfl, rfl, by simp⟩
theorem wo_mapUpdate {k : κ} {e : ε} (hop : o.op = .mapUpdate T x y z ∨ o.op = .insert T x y z) (hd : o.dst = none) (S : SH w M X H) (hi : nth H i = some (Rs.mp kc vc g es)) (hx : oev L x = some (.map (some g))) (hy : oev L y = some (kc k)) (hz : oev L z = some (vc e)) (hu : P.underlying T = some (.map K E)) (hK : MapK P K kc)
    (hH : H.set i (Rs.mp kc vc g (Go.Proofs.Ytkgofmloleicgaa.mp k e es)) = H') (h : ∀ w', SH w' M X H' → Kt L w') : WO P n o L w Kt := by
  obtain ⟨arr, clock, hg, ha, hstm⟩ := (S.get hi : MpOk kc vc g es (hp w))
  have hf := hK.find k _ arr.toList w (map_pairs ha)
  rw [fk_map] at hf
  have hg' : w.heap[g]? = some (.map arr clock) := hg
  have hgo := MapKept.run_getObj_map (P := P) hg'
  have hc := fun b => hK.check k w b
  have key : ∃ arr' clock', (Instr.mapUpdate T (.map (some g)) (kc k) (vc e)).run P w = .ok () { w with heap := w.heap.setIfInBounds g (.map arr' clock') } ∧ arr'.toList.map (fun e => (e.key, e.val)) = (Go.Proofs.Ytkgofmloleicgaa.mp k e es).map (fun p => (kc p.1, vc p.2)) ∧ Stm arr' clock' := by
    cases hfk : fk k es 0 with
    | none =>
      rw [hfk] at hf
      refine ⟨arr.push { key := kc k, val := vc e, born := clock }, clock + 1, ?_, ?_, ?_⟩
      · simp only [Instr.mapUpdate, Sem.run_bind, run_underlying hu, hgo, hc, hf, Result.andThen_ok, Option.map_none, MapKept.run_setObj_map _ hg']
      · rw [(fk_none hfk).2 e, Array.toList_push, List.map_append, List.map_append, ha]; rfl
      · refine ⟨?_, fun x hx => ?_⟩
        · rw [Array.toList_push, List.map_append]
          refine List.nodup_append.2 ⟨hstm.1, by simp, fun a ha' b hb' => ?_⟩
          obtain ⟨x, hx, rfl⟩ := List.mem_map.1 ha'
          simp at hb'
          have := hstm.2 x hx
          omega
        · rw [Array.toList_push] at hx
          rcases List.mem_append.1 hx with h1 | h1
          · have := hstm.2 x h1; omega
          · simp at h1; subst h1; exact Nat.lt_succ_self _
    | some q =>
      obtain ⟨j, v⟩ := q
      rw [hfk] at hf
      obtain ⟨_, m, hj, p, hp1, hp2, hset⟩ := fk_some hfk
      obtain rfl : j = m := by omega
      have hlen : arr.toList.length = es.length := by have := congrArg List.length ha; simpa using this
      have hjl : j < es.length := (List.getElem?_eq_some_iff.1 hp1).1
      have hja : j < arr.size := by rw [← Array.length_toList, hlen]; exact hjl
      have hkey : (arr[j]?).map (·.key) = some (kc k) := by
        have h1 := congrArg (fun l => l[j]?) ha
        simp only [List.getElem?_map, hp1, Option.map_some] at h1
        rw [Array.getElem?_toList, Array.getElem?_eq_getElem hja] at h1
        rw [Array.getElem?_eq_getElem hja]
        simp only [Option.map_some, Option.some.injEq, Prod.mk.injEq] at h1 ⊢
        rw [h1.1, hp2]
      refine ⟨arr.modify j fun e' => { e' with key := kc k, val := vc e }, clock, ?_, ?_, ?_⟩
      · have hst : (Instr.keyThatStays (kc k) (kc k)).run P w = .ok (kc k) w := by
          unfold Instr.keyThatStays
          rw [if_pos (hK.bits k)]; rfl
        simp only [Instr.mapUpdate, Sem.run_bind, run_underlying hu, hgo, hc, hf, Result.andThen_ok, Option.map_some, hkey, Option.getD_some, hst, MapKept.run_setObj_map _ hg']
      · rw [hset e]
        apply List.ext_getElem?
        intro q
        have h1 := congrArg (fun l => l[q]?) ha
        simp only [List.getElem?_map] at h1 ⊢
        rw [Array.getElem?_toList, Array.getElem?_modify, List.getElem?_set]
        rw [Array.getElem?_toList] at h1
        by_cases hq : j = q
        · subst hq
          rw [if_pos rfl, if_pos rfl, if_pos hjl, Array.getElem?_eq_getElem hja]
          rfl
        · rw [if_neg hq, if_neg hq]
          exact h1
      · have hb : (arr.modify j fun e' => { e' with key := kc k, val := vc e }).toList.map (·.born) = arr.toList.map (·.born) := by
          apply List.ext_getElem?
          intro q
          simp only [List.getElem?_map]
          rw [Array.getElem?_toList, Array.getElem?_modify, Array.getElem?_toList]
          by_cases hq : j = q
          · subst hq; rw [if_pos rfl, Array.getElem?_eq_getElem hja]; rfl
          · rw [if_neg hq]
        refine ⟨by rw [hb]; exact hstm.1, fun x hx => ?_⟩
        have h2 : x.born ∈ arr.toList.map (·.born) := by rw [← hb]; exact List.mem_map.2 ⟨x, hx, rfl⟩
        obtain ⟨y, hy, e2⟩ := List.mem_map.1 h2
        rw [← e2]; exact hstm.2 y hy
  obtain ⟨arr', clock', hrun, hpairs, hstm'⟩ := key
  have hlt := hp_lt hg
  refine wo_runS hd (w' := { w with heap := w.heap.setIfInBounds g (.map arr' clock') }) ?_ (h _ ?_)
  · intro n c he
    unfold execOp
    rcases hop with hop | hop <;> simp only [hop, he.eval hx, he.eval hy, he.eval hz, hrun, Sem.run_bind, Result.andThen_ok, Sem.run_pure]
  · refine S.step hi hH (like_setB w g _) (fun b _ hb => ?_) ⟨arr', clock', ?_, hpairs, hstm'⟩ (fun b hb => ⟨.inl hb, ?_⟩)
    · have hne : b ≠ g := by simpa [Rs.mp] using hb
      show (w.heap.setIfInBounds g _)[b]? = w.heap[b]?
      rw [Array.getElem?_setIfInBounds_ne (Ne.symm hne)]
    · show (w.heap.setIfInBounds g _)[g]? = _
      simp [hlt]
    · simp [Rs.mp] at hb
      subst hb
      show _ < (w.heap.setIfInBounds _ _).size
      simpa using hlt
end
end Go.Proofs.Ytkgofmloleicgaa
namespace Go.Proofs.Ytkgofmloleicgaa
open Go.ChangeShapes Go.WideShapes Go.ChangeAt Go.RowKit
open Go.ChangeMaps (setBlock)
theorem MpOk.mono {κ ε : Type} {kc : κ → Value} {vc : ε → Value} {g : Nat} {es : List (κ × ε)} {N N' : Hp} (h : MpOk kc vc g es N) (k : N.le N') : MpOk kc vc g es N' := by
  obtain ⟨arr, clock, h1, h2, h3⟩ := h
  exact ⟨arr, clock, k _ _ h1, h2, h3⟩
section
variable {κ ε : Type}
/-- The map's entries. -/
def MpEs (kc : κ → Value) (vc : ε → Value) (N : Hp) (g : Nat) (arr : Array MapEntry) (clock : Nat) (es : List (κ × ε)) : Prop := N g = some (.map arr clock) ∧ arr.toList.map (fun e => (e.key, e.val)) = es.map (fun p => (kc p.1, vc p.2)) ∧ Stm arr clock
variable {kc : κ → Value} {vc : ε → Value} {N : Hp} {arr : Array MapEntry} {clock g : Nat} {es lf : List (κ × ε)} {seen : Array Nat}
theorem MpEs.mono {N' : Hp} (h : MpEs kc vc N g arr clock es) (k : N.le N') : MpEs kc vc N' g arr clock es := ⟨k _ _ h.1, h.2⟩
section
variable {P : Program} {o : Oper} {L : List (Nat × Value)} {w : World} {x : Operand} {T K E : TypeId} {n d r i : Nat} {Kt : List (Nat × Value) → World → Prop} {M : Hp} {X : Fr} {H : List Rs}
theorem one_sh (hm : MpOk kc vc g es (hp w)) : SH w (fun _ => none) ⟨fun _ => none, w⟩ [Rs.mp kc vc g es] := by
  refine ⟨fun _ _ h => by simp at h, fun _ _ h => by simp at h, fun _ _ h => by simp at h, fun r hr => ?_, fun r hr b hb => ?_, fun i j r s hij h1 h2 => ?_, Like.refl w⟩
  · rw [List.mem_singleton] at hr; subst hr; exact hm
  · rw [List.mem_singleton] at hr; subst hr
    obtain ⟨arr, clock, h1, _⟩ := hm
    simp [Rs.mp] at hb; subst hb
    exact ⟨hp_lt h1, rfl, rfl⟩
  · have h1 := (List.getElem?_eq_some_iff.1 h1).1
    have h2 := (List.getElem?_eq_some_iff.1 h2).1
    simp at h1 h2; omega
/-- A lookup in a map that lasts. -/
theorem lookM [DecidableEq κ] {k : κ} {zv : ε} (hm : MpOk kc vc g es (hp w)) (hu : P.underlying T = some (.map K E)) (hK : MapK P K kc) (hz : (P.info? E).map (·.zero) = some (some (vc zv))) : (Instr.lookup T (.map (some g)) (kc k) false).run P w = .ok (vc ((mg k es).getD zv)) w :=
  (SH.look (i := 0) (H := [Rs.mp kc vc g es]) (M := fun _ => none) (X := ⟨fun _ => none, w⟩) (one_sh hm) rfl hu hK hz).1
theorem run_lookupM [DecidableEq κ] {y : Operand} {k : κ} {zv : ε} (hop : o.op = .lookup T x y false) (hx : oev L x = some (.map (some g))) (hy : oev L y = some (kc k)) (hu : P.underlying T = some (.map K E)) (hK : MapK P K kc) (hz : (P.info? E).map (·.zero) = some (some (vc zv))) (hm : MpOk kc vc g es N) (hN : N.le (hp w)) : Run P o L w (vc ((mg k es).getD zv)) w := by
  intro n c he
  unfold execOp
  simp only [hop, he.eval hx, he.eval hy, lookM (hm.mono hN) hu hK hz, Sem.run_bind, Result.andThen_ok, Sem.run_pure]
/-- A map of the call's own lasts from now on. -/
theorem SH.pubmap {H' : List Rs} (S : SH w M X H) (hi : nth H i = some (Rs.mp kc vc g es)) (hH : H.set i Rs.emp = H') : ∃ M', M.le M' ∧ SH w M' X H' ∧ MpOk kc vc g es M' := by
  obtain ⟨h1, h2, h3⟩ := S.pub hi hH
  have h4 : MpOk kc vc g es (hp w) := S.get hi
  obtain ⟨arr, clock, e, h5⟩ := h4
  exact ⟨_, h1, h2, arr, clock, (h3 g (by simp [Rs.mp])).trans e, h5⟩
end
end
section
variable {P : Program} {o : Oper} {L : List (Nat × Value)} {w : World} {x y : Operand} {t t' : TypeId} {a b : Int}
end
end Go.Proofs.Ytkgofmloleicgaa
namespace Go.Proofs.Ytkgofmloleicgaa
open Go.ChangeShapes Go.WideShapes Go.ChangeAt Go.RowKit
section
variable {α : Type} {C : Cd α} {N N' : Hp} {vs vs' : List SlV} {xss yss : List (List α)}
/-- The inner lists' own lists. -/
def RdD (C : Cd α) (N : Hp) (svs : List (List SlV)) (mm : List (List (List α))) : Prop := svs.length = mm.length ∧ ∀ i, i < svs.length → Rd2 C N (ga svs i) (ga mm i)
variable {svs : List (List SlV)} {mm : List (List (List α))}
theorem RdD.mono (h : RdD C N svs mm) (k : N.le N') : RdD C N' svs mm := ⟨h.1, fun i hi => (h.2 i hi).mono k⟩
end
section
variable {P : Program} {o : Oper} {L : List (Nat × Value)} {w : World} {x hx : Operand} {t tn T : TypeId} {n d : Nat} {Kt : List (Nat × Value) → World → Prop} {M : Hp} {X : Fr} {H : List Rs}
end
end Go.Proofs.Ytkgofmloleicgaa
namespace Go.Proofs.Ytkgofmloleicgaa
open Go.ChangeShapes Go.WideShapes Go.ChangeAt Go.RowKit
def Rs.bun (H : List Rs) : Rs :=
  ⟨H.flatMap (·.bl), fun h => (∀ r ∈ H, r.ok h) ∧ ∀ (i j : Nat) r s, i ≠ j → H[i]? = some r → H[j]? = some s → ∀ b ∈ r.bl, b ∉ s.bl, fun h h' hb hk =>
    ⟨fun r hr => r.loc h h' (fun b hbr => hb b (List.mem_flatMap.2 ⟨r, hr, hbr⟩)) (hk.1 r hr), hk.2⟩⟩
section
variable {w w' : World} {M M' : Hp} {X : Fr} {H H' : List Rs} {r r' : Rs} {i : Nat}
theorem SH.bun (S : SH w M X H) : SH w M X [Rs.bun H] := by
  refine ⟨S.m, S.x, S.mx, fun s hs => ?_, fun s hs b hb => ?_, fun i j r s hij hi hj b hb => ?_, S.like⟩
  · rw [List.mem_singleton] at hs; subst hs; exact ⟨S.ok, S.ap⟩
  · rw [List.mem_singleton] at hs; subst hs
    obtain ⟨r, hr, hbr⟩ := List.mem_flatMap.1 hb
    exact S.bl r hr b hbr
  · have h1 := (List.getElem?_eq_some_iff.1 hi).1
    have h2 := (List.getElem?_eq_some_iff.1 hj).1
    simp at h1 h2; omega
theorem SH.unbun (S : SH w M X [Rs.bun H]) : SH w M X H := by
  obtain ⟨h1, h2⟩ := S.ok (Rs.bun H) (by simp)
  exact ⟨S.m, S.x, S.mx, h1, fun r hr b hb => S.bl (Rs.bun H) (by simp) b (List.mem_flatMap.2 ⟨r, hr, hb⟩), h2, S.like⟩
end
namespace InF
structure Ctx where
  Q : Exit → Act → World → Prop
  r : Option Nat
def Ctx.F (C : Ctx) : Fence := match C.r with
  | none => Fence.wide
  | some l => Fence.wide.inRound l
def post (P : Program) (C : Ctx) : List K → Exit → Act → World → Prop
  | [] => C.Q
  | .thn c :: s => Exit.then (c.wpIn C.F 0 P (post P C s)) (post P C s)
  | .blk id :: s => Exit.inBlock id (post P C s)
  | .lp I :: s => Exit.then I (post P C s)
section
variable {P : Program} {n : Nat} {C : Ctx} {c : Code} {s : List K} {L : List (Nat × Value)} {w : World}
end
section
variable {P : Program} {n : Nat} {C : Ctx} {c : Code} {s : List K} {L : List (Nat × Value)} {w : World} {M : Hp} {X : Fr} {H : List Rs}
end
end InF
end Go.Proofs.Ytkgofmloleicgaa
namespace Go.Proofs.Ytkgofmloleicgaa
open Go.ChangeShapes Go.WideShapes Go.ChangeAt Go.RowKit
/-- No block stands in two things. -/
def apartL (H : List Rs) : Prop := H.Pairwise fun r s => ∀ b ∈ r.bl, b ∉ s.bl
theorem apart_iff {H : List Rs} : apartL H ↔ ∀ (i j : Nat) r s, i ≠ j → H[i]? = some r → H[j]? = some s → ∀ b ∈ r.bl, b ∉ s.bl := by
  unfold apartL
  rw [List.pairwise_iff_getElem]
  constructor
  · intro h i j r s hij hi hj b hb hbs
    obtain ⟨i1, e1⟩ := List.getElem?_eq_some_iff.1 hi
    obtain ⟨j1, e2⟩ := List.getElem?_eq_some_iff.1 hj
    rcases Nat.lt_or_ge i j with h1 | h1
    · exact h i j i1 j1 h1 b (by rw [e1]; exact hb) (by rw [e2]; exact hbs)
    · exact h j i j1 i1 (by omega) b (by rw [e2]; exact hbs) (by rw [e1]; exact hb)
  · intro h i j hi hj hij
    exact h i j _ _ (by omega) (List.getElem?_eq_getElem hi) (List.getElem?_eq_getElem hj)
section
variable {w : World} {M : Hp} {X : Fr} {A B H H' : List Rs}
theorem SH.bunC (S : SH w M X (A ++ B)) : SH w M X (Rs.bun A :: B) := by
  have hap := apart_iff.2 S.ap
  obtain ⟨h1, h2, h3⟩ := List.pairwise_append.1 hap
  refine ⟨S.m, S.x, S.mx, fun r hr => ?_, fun r hr b hb => ?_, apart_iff.1 (List.pairwise_cons.2 ⟨fun s hs b hb => ?_, h2⟩), S.like⟩
  · rcases List.mem_cons.1 hr with rfl | hr
    · exact ⟨fun r hr => S.ok r (by simp [hr]), apart_iff.1 h1⟩
    · exact S.ok r (by simp [hr])
  · rcases List.mem_cons.1 hr with rfl | hr
    · obtain ⟨q, hq, hb⟩ := List.mem_flatMap.1 hb
      exact S.bl q (by simp [hq]) b hb
    · exact S.bl r (by simp [hr]) b hb
  · obtain ⟨q, hq, hb⟩ := List.mem_flatMap.1 hb
    exact h3 q hq s hs b hb
theorem SH.unbunC (S : SH w M X (Rs.bun A :: B)) : SH w M X (A ++ B) := by
  obtain ⟨hok, hap⟩ := S.ok (Rs.bun A) (by simp)
  obtain ⟨h1, h2⟩ := List.pairwise_cons.1 (apart_iff.2 S.ap)
  refine ⟨S.m, S.x, S.mx, fun r hr => ?_, fun r hr b hb => ?_, apart_iff.1 (List.pairwise_append.2 ⟨apart_iff.2 hap, h2, fun r hr s hs b hb => h1 s hs b (List.mem_flatMap.2 ⟨r, hr, hb⟩)⟩), S.like⟩
  · rcases List.mem_append.1 hr with hr | hr
    · exact hok r hr
    · exact S.ok r (by simp [hr])
  · rcases List.mem_append.1 hr with hr | hr
    · exact S.bl (Rs.bun A) (by simp) b (List.mem_flatMap.2 ⟨r, hr, hb⟩)
    · exact S.bl r (by simp [hr]) b hb
end
namespace InF
section
variable {P : Program} {n : Nat} {C : Ctx} {c : Code} {s : List K} {L : List (Nat × Value)} {w : World} {M : Hp} {X : Fr} {H : List Rs}
end
end InF
end Go.Proofs.Ytkgofmloleicgaa
namespace Go.Proofs.Ytkgofmloleicgaa
open Go.ChangeShapes Go.WideShapes Go.ChangeAt Go.RowKit
section
variable {P : Program} {o : Oper} {L : List (Nat × Value)} {w : World} {n d : Nat} {Kt : List (Nat × Value) → World → Prop} {M : Hp} {X : Fr} {H : List Rs} {i : Nat} {r : Rs}
theorem SH.less (S : SH w M X H) (hi : nth H i = some r) : SH w M X (H.set i Rs.emp) := S.step hi rfl (Like.refl w) (fun _ _ _ => rfl) trivial (fun b hb => by cases hb)
end
end Go.Proofs.Ytkgofmloleicgaa
namespace Go.Proofs.Ytkgofmloleicgaa
open Go.ChangeShapes Go.WideShapes Go.ChangeAt Go.RowKit
section
variable {P : Program} {o : Oper} {L : List (Nat × Value)} {w w' : World} {x y : Operand} {T E : TypeId} {a : Int} {v : Value} {M : Hp} {X : Fr} {H N : List Rs} {i g : Nat} {l : List Value}
theorem yield_cqF {o : Oper} {fid : FuncId} {vs cap : List Value} {ca : Call} {fo : Operand} {xs : List Operand} {v : Value} (hop : o.op = .call ca) (hca : ca.callee = .value fo) (hfo : oev L fo = some (.func (.func fid) #[] cap.toArray))
    (hxs : ca.args = xs.toArray) (hvs : oevs L xs = some vs) (hen : ∀ args w, (callFunc fid args).run P w = .ok (.enter fid args) w) (S : SH w M X H) (hc : Cq P fid (vs ++ cap) w M (XH w X H) (fun u => u = v)) :
    Run P o L w v w ∨ ∃ fid vs, (∀ n a, Env n L a → (execOp a.eval o).run P w = .ok (.enter fid vs) w) ∧ Calls P fid vs w fun e w3 => e = .returned v ∧ SH w3 M X H := by
  refine .inr ⟨fid, (vs ++ cap).toArray, fun n a ha => ?_, hc.mono fun e w3 ⟨u, h1, h2, h3⟩ => ⟨by rw [h1, h3], S.back h2⟩⟩
  unfold execOp
  simp only [hop, resolve, hca, ha.eval hfo, hxs, List.map_toArray, ha.evals hvs, Deferred.ofValue, Sem.run_bind, Sem.run_pure, Result.andThen_ok, invoke, Array.empty_append, List.append_toArray]
  exact hen _ _
theorem nth_app (N H : List Rs) (i : Nat) : nth (N ++ H) (N.length + i) = nth H i := by
  rw [nth_eq, nth_eq, List.getElem?_append_right (by omega)]
  congr 1
  omega
theorem SH.boxMs (S : SH w M X (N ++ H)) (hi : nth H i = some (Rs.box g E l)) : BxM (M.un (XH w X (N ++ H)).h) g E l := S.boxM (i := N.length + i) (by rw [nth_app]; exact hi)
end
end Go.Proofs.Ytkgofmloleicgaa
namespace Go.Proofs.Ytkgofmloleicgaa
open Go.ChangeShapes Go.WideShapes Go.ChangeAt Go.RowKit
def upd {α : Type} (h : Nat → α) (e : Nat) (v : α) (k : Nat) : α := if k = e then v else h k
end Go.Proofs.Ytkgofmloleicgaa
namespace Go.Proofs.Ytkgofmloleicgaa
open Go.ChangeShapes Go.WideShapes Go.ChangeAt Go.RowKit
/-- A corner, or a place. -/
structure Sp where
  c : Int
  a : Int
instance : Inhabited Sp := ⟨⟨0, 0⟩⟩
instance : DecidableEq Sp := fun x y => decidable_of_iff (x.c = y.c ∧ x.a = y.a) ⟨fun h => by cases x; cases y; simp at h; simp [h], fun h => by rw [h]; exact ⟨rfl, rfl⟩⟩
/-- An end of a tangle. -/
structure En where
  ic : Bool
  c : Int
  a : Int
  o : Int
instance : Inhabited En := ⟨⟨false, 0, 0, 0⟩⟩
def En.co (e : En) : Sp := ⟨e.c, e.a⟩
/-- The corner as an end. -/
def enC (z : Sp) : En := ⟨true, z.c, z.a, 0⟩
def vt (v : Int) : Sp := ⟨-1, v⟩
def flp (v : Int) : Int := if v = 0 then 1 else if v = 1 then 0 else if v = 2 then 3 else 2
def fl (j : Nat) : Nat := if j = 0 then 1 else if j = 1 then 0 else if j = 2 then 3 else 2
theorem flp_bd (v : Int) : 0 ≤ flp v ∧ flp v < 4 := by unfold flp; (repeat' split) <;> omega
theorem flp_flp {v : Int} (h : 0 ≤ v) (h4 : v < 4) : flp (flp v) = v := by
  have : v = 0 ∨ v = 1 ∨ v = 2 ∨ v = 3 := by omega
  rcases this with rfl | rfl | rfl | rfl <;> rfl
theorem flp_ne (v : Int) : flp v ≠ v := by unfold flp; (repeat' split) <;> omega
theorem fl_lt (j : Nat) : fl j < 4 := by unfold fl; (repeat' split) <;> omega
theorem fl_fl {j : Nat} (h : j < 4) : fl (fl j) = j := by
  have : j = 0 ∨ j = 1 ∨ j = 2 ∨ j = 3 := by omega
  rcases this with rfl | rfl | rfl | rfl <;> rfl
theorem fl_ne {j : Nat} : fl j ≠ j := by unfold fl; (repeat' split) <;> omega
theorem fl_flp {j : Nat} (h : j < 4) : flp (j : Int) = (fl j : Int) := by
  have : j = 0 ∨ j = 1 ∨ j = 2 ∨ j = 3 := by omega
  rcases this with rfl | rfl | rfl | rfl <;> rfl
theorem vt_inj {v u : Int} (h : vt v = vt u) : v = u := by injection h
abbrev Tie := Sp → Option Sp
def tieD (D : Tie) (s t : Sp) : Tie := fun u => match D u with
  | some r => some r
  | none => if s = u then some t else if t = u then some s else none
def tieT (T : Tie) (a b : Sp) : Tie := fun u => if u = b then some a else if u = a then some b else T u
/-- A place of a crossing among the first K. -/
def Rl (K : Nat) (s : Sp) : Prop := 0 ≤ s.c ∧ s.c < K ∧ 0 ≤ s.a ∧ s.a < 4
def Vl (K : Nat) (s : Sp) : Prop := Rl K s ∨ ∃ v, s = vt v ∧ 0 ≤ v ∧ v < 4
theorem Rl.mono {K : Nat} {s : Sp} (h : Rl K s) : Rl (K + 1) s := ⟨h.1, by have := h.2.1; push_cast; omega, h.2.2⟩
theorem Vl.mono {K : Nat} {s : Sp} (h : Vl K s) : Vl (K + 1) s := h.elim (fun h => .inl h.mono) .inr
/-- From s the ties lead to the place t, at once or by one of the first arcs. -/
def Thr (D : Tie) (s t : Sp) : Prop := 0 ≤ t.c ∧ (D s = some t ∨ ∃ v, 0 ≤ v ∧ v < 4 ∧ D s = some (vt v) ∧ D (vt (flp v)) = some t)
def SubD (D D' : Tie) : Prop := ∀ s t, D s = some t → D' s = some t
theorem Thr.mono {D D' : Tie} (h : SubD D D') {s t : Sp} (k : Thr D s t) : Thr D' s t := by
  obtain ⟨h0, h1 | ⟨v, h1, h2, h3, h4⟩⟩ := k
  · exact ⟨h0, .inl (h _ _ h1)⟩
  · exact ⟨h0, .inr ⟨v, h1, h2, h _ _ h3, h _ _ h4⟩⟩
theorem sub_tieD (D : Tie) (s t : Sp) : SubD D (tieD D s t) := fun u r h => by simp [tieD, h]
theorem tieD_l {D : Tie} {s t : Sp} (h : D s = none) : tieD D s t s = some t := by simp [tieD, h]
theorem tieD_r {D : Tie} {s t : Sp} (h : D t = none) (hne : s ≠ t) : tieD D s t t = some s := by simp [tieD, h, hne]
theorem tieD_cases {D : Tie} {s t u r : Sp} (h : tieD D s t u = some r) : D u = some r ∨ (D u = none ∧ ((u = s ∧ r = t) ∨ (u = t ∧ r = s))) := by
  unfold tieD at h
  cases hD : D u with
  | some x => rw [hD] at h; exact .inl h
  | none =>
    rw [hD] at h
    simp only at h
    split at h
    · rename_i e; injection h with h; exact .inr ⟨rfl, .inl ⟨e.symm, h.symm⟩⟩
    · split at h
      · rename_i e; injection h with h; exact .inr ⟨rfl, .inr ⟨e.symm, h.symm⟩⟩
      · cases h
theorem tieD_none {D : Tie} {s t u : Sp} (h : D u = none) (h1 : u ≠ s) (h2 : u ≠ t) : tieD D s t u = none := by
  unfold tieD; rw [h]; simp only; rw [if_neg (fun e => h1 e.symm), if_neg (fun e => h2 e.symm)]
structure Inv (K : Nat) (A : Nat → Prop) (Pn : Sp → Prop) (D T : Tie) (sp : Sp → Sp) (E : Nat → En) (X : Nat → Sp) : Prop where
  ds : ∀ s t, D s = some t → D t = some s ∧ s ≠ t
  dr : ∀ s t, D s = some t → Vl K s
  xa : ∀ j, A j → j < 4 ∧ D (X j) = none ∧ Vl K (X j)
  xd : ∀ i j, A i → A j → i ≠ j → X i ≠ X j
  ec : ∀ j, A j → (E j).ic = true → Rl K (E j).co ∧ T (E j).co = none ∧ (X j = sp (E j).co ∨ ∃ v, 0 ≤ v ∧ v < 4 ∧ X j = vt v ∧ D (vt (flp v)) = some (sp (E j).co))
  ef : ∀ j, A j → (E j).ic = false → (E j).o = (fl j : Int) ∧ A (fl j) ∧ X j = vt j ∧ (E (fl j)).ic = false
  cv : ∀ x, Rl K x → (∃ y, T x = some y ∧ T y = some x ∧ Rl K y ∧ Thr D (sp x) (sp y) ∧ Thr D (sp y) (sp x)) ∨ T x = none ∧ ((∃ j, A j ∧ (E j).ic = true ∧ (E j).co = x) ∨ Pn x)
  pn : ∀ x, Pn x → Rl K x ∧ T x = none ∧ D (sp x) = none ∧ ∀ j, A j → X j ≠ sp x
  tr : ∀ x y, T x = some y → Rl K x
/-- Corners are places. -/
structure Spk (sp : Sp → Sp) : Prop where
  rl : ∀ K x, Rl K x → Rl K (sp x)
  inj : ∀ K x y, Rl K x → Rl K y → sp x = sp y → x = y
section
variable {K : Nat} {A : Nat → Prop} {Pn : Sp → Prop} {D T : Tie} {sp : Sp → Sp} {E : Nat → En} {X : Nat → Sp}
/-- The corners at two ends are not the same. -/
theorem Inv.ecd (I : Inv K A Pn D T sp E X) {i j : Nat} (hi : A i) (hj : A j) (h : i ≠ j) (ei : (E i).ic = true) (ej : (E j).ic = true) : (E i).co ≠ (E j).co := by
  intro e
  obtain ⟨_, _, h1⟩ := I.ec i hi ei
  obtain ⟨_, _, h2⟩ := I.ec j hj ej
  have hn := I.xd i j hi hj h
  have xi := (I.xa i hi).2.1
  have xj := (I.xa j hj).2.1
  rcases h1 with h1 | ⟨v, v0, v4, h1, d1⟩ <;> rcases h2 with h2 | ⟨u, u0, u4, h2, d2⟩
  · exact hn (by rw [h1, h2, e])
  · have := (I.ds _ _ d2).1
    rw [← e, ← h1, xi] at this; cases this
  · have := (I.ds _ _ d1).1
    rw [e, ← h2, xj] at this; cases this
  · have a1 := (I.ds _ _ d1).1
    have a2 := (I.ds _ _ d2).1
    rw [e, a2] at a1
    injection a1 with a1
    have := congrArg flp (vt_inj a1)
    rw [flp_flp u0 u4, flp_flp v0 v4] at this
    exact hn (by rw [h1, h2, this])
theorem Inv.ep (I : Inv K A Pn D T sp E X) {j : Nat} {z : Sp} (hj : A j) (hz : Pn z) (ej : (E j).ic = true) : (E j).co ≠ z := by
  intro e
  obtain ⟨_, _, h1⟩ := I.ec j hj ej
  obtain ⟨_, _, hd, hx⟩ := I.pn z hz
  rcases h1 with h1 | ⟨v, v0, v4, h1, d1⟩
  · exact hx j hj (by rw [h1, e])
  · have := (I.ds _ _ d1).1
    rw [e, hd] at this; cases this
/-- A tie of two ends that were not tied. -/
theorem ds_tie (I : Inv K A Pn D T sp E X) {s t : Sp} (hs : D s = none) (ht : D t = none) (hne : s ≠ t) : ∀ a b, tieD D s t a = some b → tieD D s t b = some a ∧ a ≠ b := by
  intro a b h
  rcases tieD_cases h with h | ⟨h0, ⟨rfl, rfl⟩ | ⟨rfl, rfl⟩⟩
  · exact ⟨sub_tieD _ _ _ _ _ (I.ds _ _ h).1, (I.ds _ _ h).2⟩
  · exact ⟨tieD_r ht hne, hne⟩
  · exact ⟨tieD_l hs, fun e => hne e.symm⟩
theorem dr_tie (I : Inv K A Pn D T sp E X) {s t : Sp} (hs : Vl K s) (ht : Vl K t) : ∀ a b, tieD D s t a = some b → Vl K a := by
  intro a b h
  rcases tieD_cases h with h | ⟨h0, ⟨rfl, rfl⟩ | ⟨rfl, rfl⟩⟩
  · exact I.dr _ _ h
  · exact hs
  · exact ht
/-- An end that is a corner is tied to a corner of the new crossing. -/
theorem Inv.glueC (I : Inv K A Pn D T sp E X) (k : Spk sp) {j : Nat} {z : Sp} (hj : A j) (hz : Pn z) (ej : (E j).ic = true) :
    Inv K (fun i => A i ∧ i ≠ j) (fun x => Pn x ∧ x ≠ z) (tieD D (X j) (sp z)) (tieT T (E j).co z) sp E X := by
  obtain ⟨r1, t1, x1⟩ := I.ec j hj ej
  obtain ⟨r2, t2, d2, x2⟩ := I.pn z hz
  obtain ⟨j4, dx, vx⟩ := I.xa j hj
  have hne : X j ≠ sp z := x2 j hj
  have hxz : (E j).co ≠ z := I.ep hj hz ej
  have hsub := sub_tieD D (X j) (sp z)
  have rz := k.rl _ _ r2
  have rx := k.rl _ _ r1
  have th : Thr (tieD D (X j) (sp z)) (sp (E j).co) (sp z) ∧ Thr (tieD D (X j) (sp z)) (sp z) (sp (E j).co) := by
    rcases x1 with h | ⟨v, v0, v4, h, d⟩
    · refine ⟨⟨rz.1, .inl ?_⟩, ⟨rx.1, .inl ?_⟩⟩
      · rw [← h]; exact tieD_l dx
      · rw [← h]; exact tieD_r d2 hne
    · refine ⟨⟨rz.1, .inr ⟨flp v, (flp_bd v).1, (flp_bd v).2, hsub _ _ (I.ds _ _ d).1, ?_⟩⟩, ⟨rx.1, .inr ⟨v, v0, v4, ?_, hsub _ _ d⟩⟩⟩
      · rw [flp_flp v0 v4, ← h]; exact tieD_l dx
      · rw [← h]; exact tieD_r d2 hne
  refine ⟨ds_tie I dx d2 hne, dr_tie I vx (.inl rz), fun i hi => ?_, fun i i' hi hi' h => I.xd i i' hi.1 hi'.1 h, fun i hi ei => ?_, fun i hi ei => ?_, fun x hx => ?_, fun x hx => ?_, fun x y h => ?_⟩
  · exact ⟨(I.xa i hi.1).1, tieD_none (I.xa i hi.1).2.1 (I.xd i j hi.1 hj hi.2) (x2 i hi.1), (I.xa i hi.1).2.2⟩
  · obtain ⟨a1, a2, a3⟩ := I.ec i hi.1 ei
    refine ⟨a1, ?_, a3.imp id fun ⟨v, v0, v4, h1, h2⟩ => ⟨v, v0, v4, h1, hsub _ _ h2⟩⟩
    unfold tieT
    rw [if_neg (I.ep hi.1 hz ei), if_neg (I.ecd hi.1 hj hi.2 ei ej), a2]
  · obtain ⟨a1, a2, a3, a4⟩ := I.ef i hi.1 ei
    exact ⟨a1, ⟨a2, fun e => by rw [e, ej] at a4; cases a4⟩, a3, a4⟩
  · by_cases e1 : x = z
    · subst e1
      exact .inl ⟨(E j).co, by simp [tieT], by simp [tieT, hxz], r1, th.2, th.1⟩
    · by_cases e2 : x = (E j).co
      · subst e2
        exact .inl ⟨z, by simp [tieT, hxz], by simp [tieT], r2, th.1, th.2⟩
      · have e3 : tieT T (E j).co z x = T x := by simp [tieT, e1, e2]
        rcases I.cv x hx with ⟨y, a1, a2, a3, a4, a5⟩ | ⟨a1, ⟨i, a2, a3, a4⟩ | a2⟩
        · refine .inl ⟨y, e3.trans a1, ?_, a3, a4.mono hsub, a5.mono hsub⟩
          have n1 : y ≠ z := fun e => by rw [e, t2] at a2; cases a2
          have n2 : y ≠ (E j).co := fun e => by rw [e, t1] at a2; cases a2
          simp [tieT, n1, n2, a2]
        · exact .inr ⟨e3.trans a1, .inl ⟨i, ⟨a2, fun e => by subst e; exact e2 a4.symm⟩, a3, a4⟩⟩
        · exact .inr ⟨e3.trans a1, .inr ⟨a2, e1⟩⟩
  · obtain ⟨b1, b2, b3, b4⟩ := I.pn x hx.1
    have n2 : x ≠ (E j).co := fun e => I.ep hj hx.1 ej e.symm
    refine ⟨b1, by simp [tieT, hx.2, n2, b2], tieD_none b3 (fun e => b4 j hj e.symm) (fun e => hx.2 (k.inj _ _ _ b1 r2 e)), fun i hi => b4 i hi.1⟩
  · by_cases e1 : x = z
    · rw [e1]; exact r2
    · by_cases e2 : x = (E j).co
      · rw [e2]; exact r1
      · simp [tieT, e1, e2] at h
        exact I.tr _ _ h
/-- An end that is one of a free arc: the arc's other end becomes the corner. -/
theorem Inv.glueF (I : Inv K A Pn D T sp E X) (k : Spk sp) {j : Nat} {z : Sp} (hj : A j) (hz : Pn z) (ej : (E j).ic = false) :
    Inv K (fun i => A i ∧ i ≠ j) (fun x => Pn x ∧ x ≠ z) (tieD D (X j) (sp z)) T sp (upd E (fl j) (enC z)) X := by
  obtain ⟨o1, f1, x1, f2⟩ := I.ef j hj ej
  obtain ⟨r2, t2, d2, x2⟩ := I.pn z hz
  obtain ⟨j4, dx, vx⟩ := I.xa j hj
  obtain ⟨o3, f3, x3, f4⟩ := I.ef _ f1 f2
  have hne : X j ≠ sp z := x2 j hj
  have hsub := sub_tieD D (X j) (sp z)
  have rz := k.rl _ _ r2
  have old : ∀ i, i ≠ fl j → upd E (fl j) (enC z) i = E i := fun i h => by simp [upd, h]
  have new : upd E (fl j) (enC z) (fl j) = enC z := by simp [upd]
  refine ⟨ds_tie I dx d2 hne, dr_tie I vx (.inl rz), fun i hi => ?_, fun i i' hi hi' h => I.xd i i' hi.1 hi'.1 h, fun i hi ei => ?_, fun i hi ei => ?_, fun x hx => ?_, fun x hx => ?_, I.tr⟩
  · exact ⟨(I.xa i hi.1).1, tieD_none (I.xa i hi.1).2.1 (I.xd i j hi.1 hj hi.2) (x2 i hi.1), (I.xa i hi.1).2.2⟩
  · by_cases e : i = fl j
    · subst e
      rw [new]
      refine ⟨r2, t2, .inr ⟨(fl j : Nat), by omega, by have := fl_lt j; omega, x3, ?_⟩⟩
      rw [fl_flp (fl_lt j), fl_fl j4, ← x1]
      exact tieD_l dx
    · rw [old i e] at ei ⊢
      obtain ⟨a1, a2, a3⟩ := I.ec i hi.1 ei
      exact ⟨a1, a2, a3.imp id fun ⟨v, v0, v4, h1, h2⟩ => ⟨v, v0, v4, h1, hsub _ _ h2⟩⟩
  · by_cases e : i = fl j
    · subst e; rw [new] at ei; cases ei
    · rw [old i e] at ei ⊢
      obtain ⟨a1, a2, a3, a4⟩ := I.ef i hi.1 ei
      have i4 := (I.xa i hi.1).1
      have n1 : fl i ≠ j := fun h => e (by rw [← h, fl_fl i4])
      have n2 : fl i ≠ fl j := fun h => hi.2 (by rw [← fl_fl i4, h, fl_fl j4])
      refine ⟨a1, ⟨a2, n1⟩, a3, ?_⟩
      rw [old _ n2]; exact a4
  · rcases I.cv x hx with ⟨y, a1, a2, a3, a4, a5⟩ | ⟨a1, ⟨i, a2, a3, a4⟩ | a2⟩
    · exact .inl ⟨y, a1, a2, a3, a4.mono hsub, a5.mono hsub⟩
    · have n1 : i ≠ fl j := fun h => by rw [h, f2] at a3; cases a3
      have n2 : i ≠ j := fun h => by rw [h, ej] at a3; cases a3
      exact .inr ⟨a1, .inl ⟨i, ⟨a2, n2⟩, by rw [old i n1]; exact a3, by rw [old i n1]; exact a4⟩⟩
    · by_cases e1 : x = z
      · subst e1
        exact .inr ⟨a1, .inl ⟨fl j, ⟨f1, fl_ne⟩, by rw [new]; rfl, by rw [new]; rfl⟩⟩
      · exact .inr ⟨a1, .inr ⟨a2, e1⟩⟩
  · obtain ⟨b1, b2, b3, b4⟩ := I.pn x hx.1
    exact ⟨b1, b2, tieD_none b3 (fun e => b4 j hj e.symm) (fun e => hx.2 (k.inj _ _ _ b1 r2 e)), fun i hi => b4 i hi.1⟩
/-- A corner of the new crossing becomes an end. -/
theorem Inv.addE (I : Inv K A Pn D T sp E X) (k : Spk sp) {j : Nat} {z : Sp} (hj : ¬A j) (h4 : j < 4) (hz : Pn z) :
    Inv K (fun i => A i ∨ i = j) (fun x => Pn x ∧ x ≠ z) D T sp (upd E j (enC z)) (upd X j (sp z)) := by
  obtain ⟨r2, t2, d2, x2⟩ := I.pn z hz
  have rz := k.rl _ _ r2
  have oldE : ∀ i, i ≠ j → upd E j (enC z) i = E i := fun i h => by simp [upd, h]
  have newE : upd E j (enC z) j = enC z := by simp [upd]
  have oldX : ∀ i, i ≠ j → upd X j (sp z) i = X i := fun i h => by simp [upd, h]
  have newX : upd X j (sp z) j = sp z := by simp [upd]
  have hn : ∀ i, A i → i ≠ j := fun i hi e => hj (e ▸ hi)
  refine ⟨I.ds, I.dr, fun i hi => ?_, fun i i' hi hi' h => ?_, fun i hi ei => ?_, fun i hi ei => ?_, fun x hx => ?_, fun x hx => ?_, I.tr⟩
  · rcases hi with hi | rfl
    · rw [oldX i (hn i hi)]; exact I.xa i hi
    · rw [newX]; exact ⟨h4, d2, .inl rz⟩
  · rcases hi with hi | rfl <;> rcases hi' with hi' | rfl
    · rw [oldX i (hn i hi), oldX i' (hn i' hi')]; exact I.xd i i' hi hi' h
    · rw [oldX i (hn i hi), newX]; exact x2 i hi
    · rw [oldX i' (hn i' hi'), newX]; exact fun e => x2 i' hi' e.symm
    · exact absurd rfl h
  · rcases hi with hi | rfl
    · rw [oldE i (hn i hi)] at ei ⊢
      rw [oldX i (hn i hi)]; exact I.ec i hi ei
    · rw [newE, newX]; exact ⟨r2, t2, .inl rfl⟩
  · rcases hi with hi | rfl
    · rw [oldE i (hn i hi)] at ei ⊢
      obtain ⟨a1, a2, a3, a4⟩ := I.ef i hi ei
      rw [oldX i (hn i hi), oldE _ (hn _ a2)]
      exact ⟨a1, .inl a2, a3, a4⟩
    · rw [newE] at ei; cases ei
  · rcases I.cv x hx with h | ⟨a1, ⟨i, a2, a3, a4⟩ | a2⟩
    · exact .inl h
    · exact .inr ⟨a1, .inl ⟨i, .inl a2, by rw [oldE i (hn i a2)]; exact a3, by rw [oldE i (hn i a2)]; exact a4⟩⟩
    · by_cases e1 : x = z
      · subst e1
        exact .inr ⟨a1, .inl ⟨j, .inr rfl, by rw [newE]; rfl, by rw [newE]; rfl⟩⟩
      · exact .inr ⟨a1, .inr ⟨a2, e1⟩⟩
  · obtain ⟨b1, b2, b3, b4⟩ := I.pn x hx.1
    refine ⟨b1, b2, b3, fun i hi => ?_⟩
    rcases hi with hi | rfl
    · rw [oldX i (hn i hi)]; exact b4 i hi
    · rw [newX]; exact fun e => hx.2 (k.inj _ _ _ b1 r2 e.symm)
/-- A new crossing. -/
theorem Inv.newC (I : Inv K A (fun _ => False) D T sp E X) (k : ∀ x : Sp, Rl (K + 1) x → x.c = (K : Int) → (sp x).c = (K : Int)) : Inv (K + 1) A (fun x => Rl (K + 1) x ∧ x.c = K) D T sp E X := by
  have oldR : ∀ x : Sp, Rl (K + 1) x → x.c ≠ (K : Int) → Rl K x := fun x h hc => ⟨h.1, by have := h.2.1; push_cast at this; omega, h.2.2⟩
  have noR : ∀ x : Sp, x.c = (K : Int) → ¬ Rl K x := fun x hc h => by have := h.2.1; omega
  have noV : ∀ x : Sp, x.c = (K : Int) → ¬ Vl K x := fun x hc h => by
    rcases h with h | ⟨v, rfl, _⟩
    · exact noR _ hc h
    · simp only [vt] at hc; omega
  refine ⟨I.ds, fun s t h => (I.dr s t h).mono, fun j hj => ⟨(I.xa j hj).1, (I.xa j hj).2.1, (I.xa j hj).2.2.mono⟩, I.xd, fun j hj ej => ?_, I.ef, fun x hx => ?_, fun x hx => ?_, fun x y h => (I.tr x y h).mono⟩
  · obtain ⟨h1, h2⟩ := I.ec j hj ej
    exact ⟨h1.mono, h2⟩
  · by_cases hc : x.c = (K : Int)
    · refine .inr ⟨?_, .inr ⟨hx, hc⟩⟩
      cases hT : T x with
      | none => rfl
      | some y => exact absurd (I.tr _ _ hT) (noR _ hc)
    · rcases I.cv x (oldR x hx hc) with ⟨y, a1, a2, a3, a4⟩ | ⟨a1, a2 | a2⟩
      · exact .inl ⟨y, a1, a2, a3.mono, a4⟩
      · exact .inr ⟨a1, .inl a2⟩
      · exact a2.elim
  · obtain ⟨h1, hc⟩ := hx
    have hs := k x h1 hc
    refine ⟨h1, ?_, ?_, fun j hj e => ?_⟩
    · cases hT : T x with
      | none => rfl
      | some y => exact absurd (I.tr _ _ hT) (noR _ hc)
    · cases hD : D (sp x) with
      | none => rfl
      | some y => exact absurd (I.dr _ _ hD) (noV _ hs)
    · have := (I.xa j hj).2.2
      rw [e] at this
      exact noV _ hs this
/-- Two ends that are corners are tied to one another; one of them at least stands at a place. -/
theorem Inv.joinC (I : Inv K A (fun _ => False) D T sp E X) (k : Spk sp) {i j : Nat} (hi : A i) (hj : A j) (hij : i ≠ j) (ei : (E i).ic = true) (ej : (E j).ic = true) (hr : X j = sp (E j).co) :
    Inv K (fun m => (A m ∧ m ≠ i) ∧ m ≠ j) (fun _ => False) (tieD D (X i) (X j)) (tieT T (E j).co (E i).co) sp E X := by
  obtain ⟨r1, t1, x1⟩ := I.ec i hi ei
  obtain ⟨r2, t2, _⟩ := I.ec j hj ej
  obtain ⟨i4, dx, vx⟩ := I.xa i hi
  obtain ⟨j4, d2, vy⟩ := I.xa j hj
  have hne := I.xd i j hi hj hij
  have hco := I.ecd hi hj hij ei ej
  have hsub := sub_tieD D (X i) (X j)
  have rz := k.rl _ _ r2
  have rx := k.rl _ _ r1
  have th : Thr (tieD D (X i) (X j)) (sp (E i).co) (sp (E j).co) ∧ Thr (tieD D (X i) (X j)) (sp (E j).co) (sp (E i).co) := by
    rcases x1 with h | ⟨v, v0, v4, h, d⟩
    · refine ⟨⟨rz.1, .inl ?_⟩, ⟨rx.1, .inl ?_⟩⟩
      · rw [← h, ← hr]; exact tieD_l dx
      · rw [← h, ← hr]; exact tieD_r d2 hne
    · refine ⟨⟨rz.1, .inr ⟨flp v, (flp_bd v).1, (flp_bd v).2, hsub _ _ (I.ds _ _ d).1, ?_⟩⟩, ⟨rx.1, .inr ⟨v, v0, v4, ?_, hsub _ _ d⟩⟩⟩
      · rw [flp_flp v0 v4, ← h, ← hr]; exact tieD_l dx
      · rw [← h, ← hr]; exact tieD_r d2 hne
  refine ⟨ds_tie I dx d2 hne, dr_tie I vx vy, fun m hm => ?_, fun m m' hm hm' h => I.xd m m' hm.1.1 hm'.1.1 h, fun m hm em => ?_, fun m hm em => ?_, fun x hx => ?_, fun x hx => hx.elim, fun x y h => ?_⟩
  · exact ⟨(I.xa m hm.1.1).1, tieD_none (I.xa m hm.1.1).2.1 (I.xd m i hm.1.1 hi hm.1.2) (I.xd m j hm.1.1 hj hm.2), (I.xa m hm.1.1).2.2⟩
  · obtain ⟨a1, a2, a3⟩ := I.ec m hm.1.1 em
    refine ⟨a1, ?_, a3.imp id fun ⟨v, v0, v4, h1, h2⟩ => ⟨v, v0, v4, h1, hsub _ _ h2⟩⟩
    unfold tieT
    rw [if_neg (I.ecd hm.1.1 hi hm.1.2 em ei), if_neg (I.ecd hm.1.1 hj hm.2 em ej), a2]
  · obtain ⟨a1, a2, a3, a4⟩ := I.ef m hm.1.1 em
    exact ⟨a1, ⟨⟨a2, fun e => by rw [e, ei] at a4; cases a4⟩, fun e => by rw [e, ej] at a4; cases a4⟩, a3, a4⟩
  · by_cases e1 : x = (E i).co
    · subst e1
      exact .inl ⟨(E j).co, by simp [tieT], by simp [tieT, hco.symm], r2, th.1, th.2⟩
    · by_cases e2 : x = (E j).co
      · subst e2
        exact .inl ⟨(E i).co, by simp [tieT, hco.symm], by simp [tieT], r1, th.2, th.1⟩
      · have e3 : tieT T (E j).co (E i).co x = T x := by simp [tieT, e1, e2]
        rcases I.cv x hx with ⟨y, a1, a2, a3, a4, a5⟩ | ⟨a1, ⟨m, a2, a3, a4⟩ | a2⟩
        · refine .inl ⟨y, e3.trans a1, ?_, a3, a4.mono hsub, a5.mono hsub⟩
          have n1 : y ≠ (E i).co := fun e => by rw [e, t1] at a2; cases a2
          have n2 : y ≠ (E j).co := fun e => by rw [e, t2] at a2; cases a2
          simp [tieT, n1, n2, a2]
        · exact .inr ⟨e3.trans a1, .inl ⟨m, ⟨⟨a2, fun e => by subst e; exact e1 a4.symm⟩, fun e => by subst e; exact e2 a4.symm⟩, a3, a4⟩⟩
        · exact a2.elim
  · by_cases e1 : x = (E i).co
    · rw [e1]; exact r1
    · by_cases e2 : x = (E j).co
      · rw [e2]; exact r2
      · simp [tieT, e1, e2] at h
        exact I.tr _ _ h
/-- The ends of a free arc are tied to one another. -/
theorem Inv.joinF (I : Inv K A (fun _ => False) D T sp E X) {i : Nat} (hi : A i) (ei : (E i).ic = false) :
    Inv K (fun m => (A m ∧ m ≠ i) ∧ m ≠ fl i) (fun _ => False) (tieD D (X i) (X (fl i))) T sp E X := by
  obtain ⟨o1, hj, x1, ej⟩ := I.ef i hi ei
  obtain ⟨i4, dx, vx⟩ := I.xa i hi
  obtain ⟨j4, d2, vy⟩ := I.xa _ hj
  have hij : i ≠ fl i := fun e => fl_ne e.symm
  have hne := I.xd i _ hi hj hij
  have hsub := sub_tieD D (X i) (X (fl i))
  refine ⟨ds_tie I dx d2 hne, dr_tie I vx vy, fun m hm => ?_, fun m m' hm hm' h => I.xd m m' hm.1.1 hm'.1.1 h, fun m hm em => ?_, fun m hm em => ?_, fun x hx => ?_, fun x hx => hx.elim, I.tr⟩
  · exact ⟨(I.xa m hm.1.1).1, tieD_none (I.xa m hm.1.1).2.1 (I.xd m i hm.1.1 hi hm.1.2) (I.xd m _ hm.1.1 hj hm.2), (I.xa m hm.1.1).2.2⟩
  · obtain ⟨a1, a2, a3⟩ := I.ec m hm.1.1 em
    exact ⟨a1, a2, a3.imp id fun ⟨v, v0, v4, h1, h2⟩ => ⟨v, v0, v4, h1, hsub _ _ h2⟩⟩
  · obtain ⟨a1, a2, a3, a4⟩ := I.ef m hm.1.1 em
    have m4 := (I.xa m hm.1.1).1
    have n1 : fl m ≠ i := fun h => hm.2 (by rw [← h, fl_fl m4])
    have n2 : fl m ≠ fl i := fun h => hm.1.2 (by rw [← fl_fl m4, h, fl_fl i4])
    exact ⟨a1, ⟨⟨a2, n1⟩, n2⟩, a3, a4⟩
  · rcases I.cv x hx with ⟨y, a1, a2, a3, a4, a5⟩ | ⟨a1, ⟨m, a2, a3, a4⟩ | a2⟩
    · exact .inl ⟨y, a1, a2, a3, a4.mono hsub, a5.mono hsub⟩
    · have n1 : m ≠ i := fun h => by rw [h, ei] at a3; cases a3
      have n2 : m ≠ fl i := fun h => by rw [h, ej] at a3; cases a3
      exact .inr ⟨a1, .inl ⟨m, ⟨⟨a2, n1⟩, n2⟩, a3, a4⟩⟩
    · exact a2.elim
end
end Go.Proofs.Ytkgofmloleicgaa
namespace Go.Proofs.Ytkgofmloleicgaa
open Go.ChangeShapes Go.WideShapes Go.ChangeAt Go.RowKit
structure A4 where
  a : Int
  b : Int
  c : Int
  d : Int
instance : Inhabited A4 := ⟨⟨0, 0, 0, 0⟩⟩
/-- An entry is laid: it was made first. -/
def ins (k v : Sp) (es : List (Sp × Sp)) : List (Sp × Sp) := mp k v (mp k ((mg k es).getD default) es)
theorem mg_ins (u k v : Sp) (es : List (Sp × Sp)) : mg u (ins k v es) = if u = k then some v else mg u es := by
  unfold ins
  rw [mg_mp, mg_mp]
  by_cases h : u = k
  · rw [if_pos h, if_pos h]
  · rw [if_neg h, if_neg h, if_neg h]
def tieL (es : List (Sp × Sp)) (a b : Sp) : List (Sp × Sp) := ins b a (ins a b es)
def tOf (es : List (Sp × Sp)) : Tie := fun u => mg u es
theorem tOf_tieL (es : List (Sp × Sp)) (a b : Sp) : tOf (tieL es a b) = tieT (tOf es) a b := by
  funext u
  unfold tOf tieL tieT
  rw [mg_ins, mg_ins]
structure Tg where
  E : Nat → En
  pl : List A4
  ties : List (Sp × Sp)
  loops : Int
def e0 : Nat → En := fun j => ⟨false, 0, 0, (fl j : Int)⟩
def tg0 : Tg := ⟨e0, [], [], 0⟩
def glueG (s : Tg) (k : Nat) (z : Sp) : Tg := if (s.E k).ic = true then ⟨s.E, s.pl, tieL s.ties (s.E k).co z, s.loops⟩ else ⟨upd s.E (s.E k).o.toNat (enC z), s.pl, s.ties, s.loops⟩
def pla (a : Bool) : A4 := if a = true then ⟨0, 2, 3, 1⟩ else ⟨2, 3, 1, 0⟩
def old0 (b : Bool) : Nat := if b = true then 2 else 1
def tied1 (b : Bool) : Int := if b = true then 1 else 2
def twG1 (b a : Bool) (s : Tg) : Tg := glueG ⟨s.E, s.pl ++ [pla a], s.ties, s.loops⟩ (old0 b) ⟨s.pl.length, 0⟩
def twG2 (b a : Bool) (s : Tg) : Tg := glueG (twG1 b a s) 3 ⟨s.pl.length, tied1 b⟩
def twG (b a : Bool) (s : Tg) : Tg := ⟨upd (upd (twG2 b a s).E (old0 b) (enC ⟨s.pl.length, (old0 b : Int)⟩)) 3 (enC ⟨s.pl.length, 3⟩), (twG2 b a s).pl, (twG2 b a s).ties, (twG2 b a s).loops⟩
def joinG (s : Tg) (i j : Nat) : Tg := if (s.E i).ic = true then glueG s j (s.E i).co else ⟨s.E, s.pl, s.ties, s.loops + 1⟩
def tgs (ts : List (Bool × Bool)) : Tg := ts.foldl (fun s t => twG t.1 t.2 s) tg0
theorem tgs_snoc (ts : List (Bool × Bool)) (t : Bool × Bool) : tgs (ts ++ [t]) = twG t.1 t.2 (tgs ts) := by unfold tgs; rw [List.foldl_append]; rfl
def tieF : List (Sp × Sp) → Tie
  | [], _ => none
  | p :: r, s => if p.1 = s then some p.2 else if p.2 = s then some p.1 else tieF r s
theorem tieF_snoc (L : List (Sp × Sp)) (s t : Sp) : tieF (L ++ [(s, t)]) = tieD (tieF L) s t := by
  funext u
  unfold tieD
  induction L with
  | nil => rfl
  | cons p r ih =>
    rw [List.cons_append, tieF, tieF]
    by_cases h : p.1 = u
    · rw [if_pos h, if_pos h]
    · rw [if_neg h, if_neg h]
      by_cases h2 : p.2 = u
      · rw [if_pos h2, if_pos h2]
      · rw [if_neg h2, if_neg h2, ih]
structure Dc where
  L : List (Sp × Sp)
  X : Nat → Sp
  n : Nat
def cS (n : Nat) (a : Bool) (i : Int) : Sp := ⟨n, if a = true then i else (i + 3) % 4⟩
def x0 : Nat → Sp := fun j => vt j
def dc0 : Dc := ⟨[], x0, 0⟩
def twD (b a : Bool) (s : Dc) : Dc := if b = true then ⟨(s.L ++ [(s.X 2, cS s.n a 0)]) ++ [(s.X 3, cS s.n a 3)], upd (upd s.X 2 (cS s.n a 1)) 3 (cS s.n a 2), s.n + 1⟩
  else ⟨(s.L ++ [(s.X 1, cS s.n a 0)]) ++ [(s.X 3, cS s.n a 1)], upd (upd s.X 1 (cS s.n a 3)) 3 (cS s.n a 2), s.n + 1⟩
def dcs (ts : List (Bool × Bool)) : Dc := ts.foldl (fun s t => twD t.1 t.2 s) dc0
theorem dcs_snoc (ts : List (Bool × Bool)) (t : Bool × Bool) : dcs (ts ++ [t]) = twD t.1 t.2 (dcs ts) := by unfold dcs; rw [List.foldl_append]; rfl
def endL (s : Dc) : List (Sp × Sp) := (s.L ++ [(s.X 0, s.X 1)]) ++ [(s.X 2, s.X 3)]
/-- Which place a corner is. -/
def plc (b : Bool) (a : Int) : Int := if b = true then (if a = 0 then 0 else if a = 2 then 1 else if a = 3 then 2 else 3) else (if a = 2 then 0 else if a = 3 then 1 else if a = 1 then 2 else 3)
def spf (sg : Nat → Bool) (x : Sp) : Sp := ⟨x.c, plc (sg x.c.toNat) x.a⟩
theorem plc_bd (b : Bool) (a : Int) : 0 ≤ plc b a ∧ plc b a < 4 := by unfold plc; (repeat' split) <;> omega
theorem plc_inj {b : Bool} {a a' : Int} (h : 0 ≤ a ∧ a < 4) (h' : 0 ≤ a' ∧ a' < 4) (e : plc b a = plc b a') : a = a' := by
  have h1 : a = 0 ∨ a = 1 ∨ a = 2 ∨ a = 3 := by omega
  have h2 : a' = 0 ∨ a' = 1 ∨ a' = 2 ∨ a' = 3 := by omega
  cases b <;> rcases h1 with rfl | rfl | rfl | rfl <;> rcases h2 with rfl | rfl | rfl | rfl <;> revert e <;> decide
theorem spf_spk (sg : Nat → Bool) : Spk (spf sg) := by
  refine ⟨fun K x h => ⟨h.1, h.2.1, (plc_bd _ _).1, (plc_bd _ _).2⟩, fun K x y hx hy e => ?_⟩
  unfold spf at e
  injection e with e1 e2
  rw [e1] at e2
  have := plc_inj hx.2.2 hy.2.2 e2
  cases x; cases y; simp at e1 this; rw [e1, this]
theorem spf_cS {sg : Nat → Bool} {n : Nat} {a : Bool} (h : sg n = a) (i : Int) (j : Int) (hij : plc a j = if a = true then i else (i + 3) % 4) : spf sg ⟨n, j⟩ = cS n a i := by
  unfold spf cS
  simp only [Int.toNat_natCast, h]
  rw [hij]
theorem Inv.cast {K : Nat} {A A' : Nat → Prop} {Pn Pn' : Sp → Prop} {D T : Tie} {sp : Sp → Sp} {E : Nat → En} {X : Nat → Sp} (I : Inv K A Pn D T sp E X) (hA : ∀ i, A i ↔ A' i) (hP : ∀ x, Pn x ↔ Pn' x) : Inv K A' Pn' D T sp E X := by
  obtain rfl : A = A' := funext fun i => propext (hA i)
  obtain rfl : Pn = Pn' := funext fun i => propext (hP i)
  exact I
theorem Inv.glue {K : Nat} {A : Nat → Prop} {Pn : Sp → Prop} {D : Tie} {sp : Sp → Sp} {s : Tg} {X : Nat → Sp} (I : Inv K A Pn D (tOf s.ties) sp s.E X) (k : Spk sp) {j : Nat} {z : Sp} (hj : A j) (hz : Pn z) :
    Inv K (fun i => A i ∧ i ≠ j) (fun x => Pn x ∧ x ≠ z) (tieD D (X j) (sp z)) (tOf (glueG s j z).ties) sp (glueG s j z).E X := by
  unfold glueG
  by_cases h : (s.E j).ic = true
  · rw [if_pos h]
    show Inv _ _ _ _ (tOf (tieL _ _ _)) _ _ _
    rw [tOf_tieL]
    exact I.glueC k hj hz h
  · rw [if_neg h]
    have h' : (s.E j).ic = false := by simpa using h
    have ho := (I.ef j hj h').1
    show Inv _ _ _ _ _ _ (upd s.E (s.E j).o.toNat (enC z)) _
    rw [ho, Int.toNat_natCast]
    exact I.glueF k hj hz h'
theorem glueG_pl (s : Tg) (j : Nat) (z : Sp) : (glueG s j z).pl = s.pl := by unfold glueG; split <;> rfl
theorem glueG_loops (s : Tg) (j : Nat) (z : Sp) : (glueG s j z).loops = s.loops := by unfold glueG; split <;> rfl
theorem glueG_old {K : Nat} {A : Nat → Prop} {Pn : Sp → Prop} {D : Tie} {sp : Sp → Sp} {s : Tg} {X : Nat → Sp} (I : Inv K A Pn D (tOf s.ties) sp s.E X) {j i : Nat} {z : Sp} (hj : A j) (hi : i ≠ fl j) : (glueG s j z).E i = s.E i := by
  unfold glueG
  by_cases h : (s.E j).ic = true
  · rw [if_pos h]
  · rw [if_neg h]
    have h' : (s.E j).ic = false := by simpa using h
    have ho := (I.ef j hj h').1
    show upd s.E (s.E j).o.toNat (enC z) i = _
    rw [ho, Int.toNat_natCast]
    simp [upd, hi]
/-- What holds of both sides after some twists. -/
structure Jn (ts : List (Bool × Bool)) (sg : Nat → Bool) : Prop where
  inv : Inv ts.length (fun i => i < 4) (fun _ => False) (tieF (dcs ts).L) (tOf (tgs ts).ties) (spf sg) (tgs ts).E (dcs ts).X
  pl : (tgs ts).pl = ts.map fun t => pla t.2
  n : (dcs ts).n = ts.length
  lp : (tgs ts).loops = 0
  xz : (dcs ts).X 0 = vt 0
  x1 : ((tgs ts).E 1).ic = true → (dcs ts).X 1 = spf sg ((tgs ts).E 1).co
  x3 : ((tgs ts).E 3).ic = true → (dcs ts).X 3 = spf sg ((tgs ts).E 3).co
  d1 : ((tgs ts).E 0).ic = true → ∃ r, tieF (dcs ts).L (vt 1) = some r ∧ 0 ≤ r.c
  d3 : ((tgs ts).E 2).ic = true → ∃ r, tieF (dcs ts).L (vt 3) = some r ∧ 0 ≤ r.c
theorem jn_nil (sg : Nat → Bool) : Jn [] sg := by
  refine ⟨?_, rfl, rfl, rfl, rfl, (fun h => by cases h), (fun h => by cases h), (fun h => by cases h), (fun h => by cases h)⟩
  refine ⟨(fun s t h => by cases h), (fun s t h => by cases h), fun j hj => ⟨hj, rfl, .inr ⟨(j : Int), rfl, by omega, by omega⟩⟩, fun i j hi hj h e => h ?_, (fun j hj h => by cases h), fun j hj _ => ⟨rfl, fl_lt j, rfl, rfl⟩, fun x hx => ?_, fun x h => h.elim, (fun x y h => by cases h)⟩
  · have := vt_inj e; omega
  · have := hx.1; have := hx.2.1; simp at this; omega
theorem Inv.tw {K : Nat} {D : Tie} {sg : Nat → Bool} {s : Tg} {X : Nat → Sp} (b a : Bool) (hl : s.pl.length = K) (I : Inv K (fun i => i < 4) (fun _ => False) D (tOf s.ties) (spf sg) s.E X) :
    Inv (K + 1) (fun i => i < 4) (fun _ => False) (tieD (tieD D (X (old0 b)) (spf sg ⟨K, 0⟩)) (X 3) (spf sg ⟨K, tied1 b⟩)) (tOf (twG b a s).ties) (spf sg) (twG b a s).E (upd (upd X (old0 b) (spf sg ⟨K, (old0 b : Int)⟩)) 3 (spf sg ⟨K, 3⟩)) := by
  have k := spf_spk sg
  have I1 : Inv (K + 1) _ _ D (tOf (⟨s.E, s.pl ++ [pla a], s.ties, s.loops⟩ : Tg).ties) (spf sg) (⟨s.E, s.pl ++ [pla a], s.ties, s.loops⟩ : Tg).E X := I.newC (fun x _ h => h)
  have hP : ∀ i : Int, 0 ≤ i → i < 4 → Rl (K + 1) (⟨K, i⟩ : Sp) ∧ (⟨K, i⟩ : Sp).c = (K : Int) := fun i h0 h4 => ⟨⟨by simp, by simp; omega, h0, h4⟩, rfl⟩
  have o4 : old0 b < 4 := by cases b <;> decide
  have o3 : old0 b ≠ 3 := by cases b <;> decide
  have I2 := I1.glue k (j := old0 b) (z := ⟨K, 0⟩) o4 (hP 0 (by omega) (by omega))
  have t0 : (⟨K, tied1 b⟩ : Sp) ≠ ⟨K, 0⟩ := by cases b <;> (intro h; injection h with _ h; revert h; decide)
  have I3 := I2.glue k (j := 3) (z := ⟨K, tied1 b⟩) ⟨by omega, fun e => o3 e.symm⟩ ⟨hP _ (by cases b <;> decide) (by cases b <;> decide), t0⟩
  have f0 : (⟨K, (old0 b : Int)⟩ : Sp) ≠ ⟨K, 0⟩ := by cases b <;> (intro h; injection h with _ h; revert h; decide)
  have f1 : (⟨K, (old0 b : Int)⟩ : Sp) ≠ ⟨K, tied1 b⟩ := by cases b <;> (intro h; injection h with _ h; revert h; decide)
  have I4 := I3.addE k (j := old0 b) (z := ⟨K, (old0 b : Int)⟩) (fun h => h.1.2 rfl) o4 ⟨⟨hP _ (by cases b <;> decide) (by cases b <;> decide), f0⟩, f1⟩
  have g0 : (⟨K, 3⟩ : Sp) ≠ ⟨K, 0⟩ := by intro h; injection h with _ h; revert h; decide
  have g1 : (⟨K, 3⟩ : Sp) ≠ ⟨K, tied1 b⟩ := by cases b <;> (intro h; injection h with _ h; revert h; decide)
  have g2 : (⟨K, 3⟩ : Sp) ≠ ⟨K, (old0 b : Int)⟩ := by cases b <;> (intro h; injection h with _ h; revert h; decide)
  have I5 := I4.addE k (j := 3) (z := ⟨K, 3⟩) (fun h => h.elim (fun h => h.2 rfl) (fun h => o3 h.symm)) (by omega) ⟨⟨⟨hP 3 (by omega) (by omega), g0⟩, g1⟩, g2⟩
  subst hl
  refine I5.cast (fun i => ?_) (fun x => ?_)
  · constructor
    · rintro ((h | h) | h)
      · exact h.1.1
      · rw [h]; exact o4
      · omega
    · intro h
      by_cases h3 : i = 3
      · exact .inr h3
      · by_cases h1 : i = old0 b
        · exact .inl (.inr h1)
        · exact .inl (.inl ⟨⟨h, h1⟩, h3⟩)
  · refine ⟨fun h => ?_, fun h => h.elim⟩
    obtain ⟨⟨⟨⟨⟨⟨r1, r2, r3, r4⟩, hc⟩, n0⟩, n1⟩, n2⟩, n3⟩ := h
    obtain ⟨c, y⟩ := x
    simp only at hc r3 r4
    subst hc
    have e : y = 0 ∨ y = 1 ∨ y = 2 ∨ y = 3 := by omega
    have w0 : y ≠ 0 := fun e => n0 (by rw [e])
    have w1 : y ≠ tied1 b := fun e => n1 (by rw [e])
    have w2 : y ≠ (old0 b : Int) := fun e => n2 (by rw [e])
    have w3 : y ≠ 3 := fun e => n3 (by rw [e])
    cases b
    · have h1 : tied1 false = 2 := rfl
      have h2 : ((old0 false : Nat) : Int) = 1 := rfl
      omega
    · have h1 : tied1 true = 1 := rfl
      have h2 : ((old0 true : Nat) : Int) = 2 := rfl
      omega
theorem twD_L (b a : Bool) (s : Dc) {sg : Nat → Bool} (h : sg s.n = a) : tieF (twD b a s).L = tieD (tieD (tieF s.L) (s.X (old0 b)) (spf sg ⟨s.n, 0⟩)) (s.X 3) (spf sg ⟨s.n, tied1 b⟩) ∧ (twD b a s).X = upd (upd s.X (old0 b) (spf sg ⟨s.n, (old0 b : Int)⟩)) 3 (spf sg ⟨s.n, 3⟩) := by
  cases b
  · unfold twD
    rw [if_neg (by simp)]
    show tieF _ = tieD (tieD (tieF s.L) (s.X 1) (spf sg ⟨s.n, 0⟩)) (s.X 3) (spf sg ⟨s.n, 2⟩) ∧ _ = upd (upd s.X 1 (spf sg ⟨s.n, 1⟩)) 3 (spf sg ⟨s.n, 3⟩)
    rw [tieF_snoc, tieF_snoc, spf_cS h 0 0 (by cases a <;> rfl), spf_cS h 1 2 (by cases a <;> rfl), spf_cS h 3 1 (by cases a <;> rfl), spf_cS h 2 3 (by cases a <;> rfl)]
    exact ⟨rfl, rfl⟩
  · unfold twD
    rw [if_pos rfl]
    show tieF _ = tieD (tieD (tieF s.L) (s.X 2) (spf sg ⟨s.n, 0⟩)) (s.X 3) (spf sg ⟨s.n, 1⟩) ∧ _ = upd (upd s.X 2 (spf sg ⟨s.n, 2⟩)) 3 (spf sg ⟨s.n, 3⟩)
    rw [tieF_snoc, tieF_snoc, spf_cS h 0 0 (by cases a <;> rfl), spf_cS h 3 1 (by cases a <;> rfl), spf_cS h 1 2 (by cases a <;> rfl), spf_cS h 2 3 (by cases a <;> rfl)]
    exact ⟨rfl, rfl⟩
theorem twD_n (b a : Bool) (s : Dc) : (twD b a s).n = s.n + 1 := by unfold twD; split <;> rfl
theorem twG_pl (b a : Bool) (s : Tg) : (twG b a s).pl = s.pl ++ [pla a] ∧ (twG b a s).loops = s.loops := by
  unfold twG twG2 twG1
  simp only [glueG_pl, glueG_loops, and_self]
theorem twG_keep {K : Nat} {D : Tie} {sg : Nat → Bool} {s : Tg} {X : Nat → Sp} (a : Bool) (hl : s.pl.length = K) (I : Inv K (fun i => i < 4) (fun _ => False) D (tOf s.ties) (spf sg) s.E X) {j : Nat} (h2 : j < 2) : (twG true a s).E j = s.E j := by
  have I2 : Inv (K + 1) _ _ D (tOf (⟨s.E, s.pl ++ [pla a], s.ties, s.loops⟩ : Tg).ties) (spf sg) (⟨s.E, s.pl ++ [pla a], s.ties, s.loops⟩ : Tg).E X := I.newC (fun x _ h => h)
  have I3 := I2.glue (spf_spk sg) (j := old0 true) (z := ⟨(s.pl.length : Nat), 0⟩) (by show (2 : Nat) < 4; omega) ⟨⟨by simp, by simp [hl]; omega, by simp, by simp⟩, by simp [hl]⟩
  have I3' : Inv _ _ _ _ (tOf (twG1 true a s).ties) _ (twG1 true a s).E _ := I3
  have e0 : (twG true a s).E j = (twG2 true a s).E j := by
    show upd (upd (twG2 true a s).E (old0 true) (enC ⟨s.pl.length, (old0 true : Int)⟩)) 3 (enC ⟨s.pl.length, 3⟩) j = _
    unfold upd old0
    rw [if_neg (by omega), if_pos rfl, if_neg (by omega)]
  rw [e0]
  unfold twG2
  rw [glueG_old I3' (j := 3) ⟨by omega, by decide⟩ (by show j ≠ 2; omega)]
  unfold twG1
  rw [glueG_old I2 (j := old0 true) (by show (2 : Nat) < 4; omega) (by show j ≠ 3; omega)]
/-- The second end of a pair was free: now its arc's end is tied to a place. -/
theorem Jn.snoc {ts : List (Bool × Bool)} {sg : Nat → Bool} (J : Jn ts sg) (b a : Bool) (h : sg ts.length = a) : Jn (ts ++ [(b, a)]) sg := by
  have hpl : (tgs ts).pl.length = ts.length := by rw [J.pl, List.length_map]
  have I := J.inv.tw b a hpl
  obtain ⟨e1, e2⟩ := twD_L b a (dcs ts) (sg := sg) (by rw [J.n]; exact h)
  rw [J.n] at e1 e2
  rw [← e1, ← e2] at I
  have hL : (ts ++ [(b, a)]).length = ts.length + 1 := by simp
  have hE3 : (twG b a (tgs ts)).E 3 = enC ⟨ts.length, 3⟩ := by unfold twG; rw [hpl]; simp [upd]
  have hEo : (twG b a (tgs ts)).E (old0 b) = enC ⟨ts.length, (old0 b : Int)⟩ := by unfold twG; rw [hpl]; cases b <;> simp [upd, old0]
  have hX3 : (twD b a (dcs ts)).X 3 = spf sg ⟨ts.length, 3⟩ := by rw [e2]; simp [upd]
  have hXo : (twD b a (dcs ts)).X (old0 b) = spf sg ⟨ts.length, (old0 b : Int)⟩ := by rw [e2]; cases b <;> simp [upd, old0]
  have hX0 : (twD b a (dcs ts)).X 0 = vt 0 := by rw [e2]; cases b <;> simp [upd, old0, J.xz]
  -- what a tie to a place leaves behind
  have k := spf_spk sg
  have I0 := J.inv
  have key : ∀ j, j < 4 → (j = old0 b ∨ j = 3) → ((tgs ts).E j).ic = false → ∃ r, tieF (twD b a (dcs ts)).L (vt j) = some r ∧ 0 ≤ r.c := by
    intro j j4 hj hf
    obtain ⟨_, _, xj, _⟩ := I0.ef j j4 hf
    have dn := (I0.xa j j4).2.1
    rw [e1, ← xj]
    rcases hj with rfl | rfl
    · exact ⟨_, sub_tieD _ _ _ _ _ (tieD_l dn), by simp [spf]⟩
    · have o4 : old0 b < 4 := by cases b <;> decide
      have o3 : 3 ≠ old0 b := by cases b <;> decide
      have n1 := I0.xd 3 (old0 b) j4 o4 o3
      have n2 : (dcs ts).X 3 ≠ spf sg ⟨(ts.length : Int), 0⟩ := by rw [xj]; intro e; have := congrArg Sp.c e; simp [vt, spf] at this
      exact ⟨_, tieD_l (tieD_none dn n1 n2), by simp [spf]⟩
  have sub : ∀ s t, tieF (dcs ts).L s = some t → tieF (twD b a (dcs ts)).L s = some t := fun s t h => by rw [e1]; exact sub_tieD _ _ _ _ _ (sub_tieD _ _ _ _ _ h)
  have ic : ∀ j, ((tgs ts).E j).ic = false → ((tgs ts).E (fl j)).ic = true → j < 4 → False := fun j h1 h2 h4 => by rw [(I0.ef j h4 h1).2.2.2] at h2; cases h2
  refine ⟨?_, ?_, ?_, ?_, ?_, fun hi => ?_, fun hi => ?_, fun hi => ?_, fun hi => ?_⟩
  · rw [tgs_snoc, dcs_snoc, hL]; exact I
  · rw [tgs_snoc, (twG_pl _ _ _).1, J.pl, List.map_append]; rfl
  · rw [dcs_snoc, twD_n, J.n, hL]
  · rw [tgs_snoc, (twG_pl _ _ _).2, J.lp]
  · rw [dcs_snoc]; exact hX0
  · rw [tgs_snoc] at hi ⊢
    rw [dcs_snoc]
    cases b
    · have h1 := hEo; have h2 := hXo
      change (twG false a (tgs ts)).E 1 = _ at h1
      change (twD false a (dcs ts)).X 1 = _ at h2
      rw [h1, h2]; rfl
    · have h2 : (twD true a (dcs ts)).X 1 = (dcs ts).X 1 := by rw [e2]; simp [upd, old0]
      have h3 := twG_keep a hpl I0 (j := 1) (by omega)
      rw [h3] at hi ⊢
      rw [h2]
      exact J.x1 hi
  · rw [tgs_snoc, dcs_snoc]
    show (twD b a (dcs ts)).X 3 = spf sg ((twG b a (tgs ts)).E 3).co
    rw [hE3, hX3]; rfl
  · rw [tgs_snoc] at hi
    rw [dcs_snoc]
    show ∃ r, tieF (twD b a (dcs ts)).L (vt 1) = some r ∧ 0 ≤ r.c
    cases h0 : ((tgs ts).E 0).ic with
    | true => obtain ⟨r, h1, h2⟩ := J.d1 h0; exact ⟨r, sub _ _ h1, h2⟩
    | false =>
      have f1 := (I0.ef 0 (by omega) h0).2.2.2
      change ((tgs ts).E 1).ic = false at f1
      cases b
      · exact key 1 (by omega) (.inl rfl) f1
      · exfalso
        have h3 := twG_keep a hpl I0 (j := 0) (by omega)
        rw [h3, h0] at hi; cases hi
  · rw [dcs_snoc]
    show ∃ r, tieF (twD b a (dcs ts)).L (vt 3) = some r ∧ 0 ≤ r.c
    cases h0 : ((tgs ts).E 3).ic with
    | false => exact key 3 (by omega) (.inr rfl) h0
    | true =>
      have f2 : ((tgs ts).E 2).ic = true := by
        cases h2 : ((tgs ts).E 2).ic with
        | true => rfl
        | false => exact (ic 2 h2 h0 (by omega)).elim
      obtain ⟨r, h1, h2⟩ := J.d3 f2
      exact ⟨r, sub _ _ h1, h2⟩
theorem snocInd {α : Type} {P : List α → Prop} (h0 : P []) (h1 : ∀ l a, P l → P (l ++ [a])) (l : List α) : P l := by
  rw [← List.reverse_reverse l]
  induction l.reverse with
  | nil => exact h0
  | cons a r ih => rw [List.reverse_cons]; exact h1 _ _ ih
theorem jn_all (sg : Nat → Bool) (ts : List (Bool × Bool)) (h : ∀ i, i < ts.length → sg i = (ga ts i).2) : Jn ts sg := by
  revert h
  refine snocInd (P := fun ts => (∀ i, i < ts.length → sg i = (ga ts i).2) → Jn ts sg) (fun _ => jn_nil sg) (fun ts t ih h => ?_) ts
  have h1 := ih fun i hi => by rw [h i (by simp; omega), ga_append_left _ _ _ hi]
  have h2 := h ts.length (by simp)
  rw [ga_append_right _ _ _ (Nat.le_refl _), Nat.sub_self] at h2
  exact h1.snoc t.1 t.2 h2
end Go.Proofs.Ytkgofmloleicgaa
namespace Go.Proofs.Ytkgofmloleicgaa
open Go.ChangeShapes Go.WideShapes Go.ChangeAt Go.RowKit
/-- The place behind the ties, through the first two arcs. -/
def oth (L : List (Sp × Sp)) (s : Sp) : Sp := if 0 ≤ ((tieF L s).getD s).c then (tieF L s).getD s else (tieF L (vt (flp ((tieF L s).getD s).a))).getD default
theorem oth_thr {L : List (Sp × Sp)} {s t : Sp} (h : Thr (tieF L) s t) : oth L s = t := by
  obtain ⟨h0, h1 | ⟨v, v0, v4, h1, h2⟩⟩ := h
  · unfold oth; rw [h1]; simp only [Option.getD_some]; rw [if_pos h0]
  · have e : (tieF L s).getD s = vt v := by rw [h1]; rfl
    unfold oth; rw [e, if_neg (by show ¬ (0 : Int) ≤ -1; omega)]
    show (tieF L (vt (flp v))).getD default = t
    rw [h2]; rfl
def tgE (ts : List (Bool × Bool)) : Tg := joinG (joinG (tgs ts) 0 1) 2 3
def rgc (D : Tie) (v : Int) : Int := match D (vt v) with
  | some r => if r.c < 0 then 1 else 0
  | none => 0
structure Fin (ts : List (Bool × Bool)) (sg : Nat → Bool) : Prop where
  inv : Inv ts.length (fun _ => False) (fun _ => False) (tieF (endL (dcs ts))) (tOf (tgE ts).ties) (spf sg) (tgE ts).E (dcs ts).X
  pl : (tgE ts).pl = ts.map fun t => pla t.2
  v1 : ∃ r, tieF (endL (dcs ts)) (vt 1) = some r ∧ (0 ≤ r.c ∨ r = vt 0)
  v3 : ∃ r, tieF (endL (dcs ts)) (vt 3) = some r ∧ (0 ≤ r.c ∨ r = vt 2)
  lp : (tgE ts).loops = rgc (tieF (endL (dcs ts))) 1 + rgc (tieF (endL (dcs ts))) 3
/-- One join: what it does, and what the arc's end is tied to. -/
theorem join_one {K : Nat} {A : Nat → Prop} {D : Tie} {sp : Sp → Sp} {s : Tg} {X : Nat → Sp} (I : Inv K A (fun _ => False) D (tOf s.ties) sp s.E X) (k : Spk sp) {i : Nat} (hi : A i) (hj : A (fl i)) (hx : (s.E (fl i)).ic = true → X (fl i) = sp (s.E (fl i)).co)
    (hd : (s.E i).ic = true → ∃ r, D (vt (fl i : Nat)) = some r ∧ 0 ≤ r.c) :
    Inv K (fun m => (A m ∧ m ≠ i) ∧ m ≠ fl i) (fun _ => False) (tieD D (X i) (X (fl i))) (tOf (joinG s i (fl i)).ties) sp (joinG s i (fl i)).E X ∧ (joinG s i (fl i)).E = s.E ∧ (joinG s i (fl i)).pl = s.pl ∧
    ∃ r, tieD D (X i) (X (fl i)) (vt (fl i : Nat)) = some r ∧ ((0 ≤ r.c ∧ (joinG s i (fl i)).loops = s.loops) ∨ (r = vt (i : Nat) ∧ (joinG s i (fl i)).loops = s.loops + 1)) := by
  have i4 := (I.xa i hi).1
  unfold joinG
  cases ei : (s.E i).ic with
  | true =>
    have ej : (s.E (fl i)).ic = true := by
      cases h : (s.E (fl i)).ic with
      | true => rfl
      | false => have := (I.ef _ hj h).2.2.2; rw [fl_fl i4, ei] at this; cases this
    rw [if_pos rfl]
    unfold glueG
    rw [if_pos ej]
    obtain ⟨r, h1, h2⟩ := hd ei
    refine ⟨?_, rfl, rfl, r, sub_tieD _ _ _ _ _ h1, .inl ⟨h2, rfl⟩⟩
    show Inv _ _ _ _ (tOf (tieL _ _ _)) _ _ _
    rw [tOf_tieL]
    exact I.joinC k hi hj (fun e => fl_ne e.symm) ei ej (hx ej)
  | false =>
    rw [if_neg (by simp)]
    obtain ⟨o1, _, x1, ej⟩ := I.ef i hi ei
    obtain ⟨o2, _, x2, _⟩ := I.ef _ hj ej
    have hne := I.xd i (fl i) hi hj (fun e => fl_ne e.symm)
    refine ⟨I.joinF hi ei, rfl, rfl, X i, ?_, .inr ⟨x1, rfl⟩⟩
    rw [← x2]
    exact tieD_r (I.xa _ hj).2.1 hne
theorem fin_all {ts : List (Bool × Bool)} {sg : Nat → Bool} (J : Jn ts sg) : Fin ts sg := by
  have k := spf_spk sg
  obtain ⟨I1, E1, P1, r1, q1, w1⟩ := join_one J.inv k (i := 0) (by omega) (by show (1 : Nat) < 4; omega) J.x1 J.d1
  change Inv _ _ _ (tieD _ _ ((dcs ts).X 1)) (tOf (joinG _ 0 1).ties) _ (joinG _ 0 1).E _ at I1
  change (joinG _ 0 1).E = _ at E1
  have h2 := I1.ec
  obtain ⟨I2, E2, P2, r2, q2, w2⟩ := join_one (i := 2) I1 k ⟨⟨by omega, by omega⟩, by decide⟩ ⟨⟨by decide, by decide⟩, by decide⟩ (by rw [E1]; exact J.x3) (by rw [E1]; intro h; obtain ⟨r, a1, a2⟩ := J.d3 h; exact ⟨r, sub_tieD _ _ _ _ _ a1, a2⟩)
  have hD : tieF (endL (dcs ts)) = tieD (tieD (tieF (dcs ts).L) ((dcs ts).X 0) ((dcs ts).X 1)) ((dcs ts).X 2) ((dcs ts).X 3) := by unfold endL; rw [tieF_snoc, tieF_snoc]
  have d1 : tieF (endL (dcs ts)) (vt 1) = some r1 := by rw [hD]; exact sub_tieD _ _ _ _ _ q1
  have d3 : tieF (endL (dcs ts)) (vt 3) = some r2 := by rw [hD]; exact q2
  refine ⟨?_, ?_, ⟨r1, d1, w1.imp (·.1) (·.1)⟩, ⟨r2, d3, w2.imp (·.1) (·.1)⟩, ?_⟩
  · rw [hD]
    refine I2.cast (fun i => ⟨fun h => ?_, fun h => h.elim⟩) (fun x => Iff.rfl)
    obtain ⟨⟨⟨⟨a1, a2⟩, a3⟩, a4⟩, a5⟩ := h
    have a3' : i ≠ 1 := a3
    have a5' : i ≠ 3 := a5
    omega
  · exact P2.trans (P1.trans J.pl)
  · unfold rgc
    rw [d1, d3]
    have e0 := J.lp
    have c1 : (joinG (tgs ts) 0 1).loops = if r1.c < 0 then 1 else 0 := by
      rcases w1 with ⟨a, b⟩ | ⟨a, b⟩
      · rw [if_neg (by omega)]; exact b.trans e0
      · rw [if_pos (by rw [a]; simp [vt])]; exact b.trans (by rw [e0]; rfl)
    have c2 : (tgE ts).loops = (joinG (tgs ts) 0 1).loops + if r2.c < 0 then 1 else 0 := by
      rcases w2 with ⟨a, b⟩ | ⟨a, b⟩
      · rw [if_neg (by omega), Int.add_zero]; exact b
      · rw [if_pos (by rw [a]; simp [vt])]; exact b
    rw [c2, c1]
def a4g (x : A4) (p : Nat) : Int := if p = 0 then x.a else if p = 1 then x.b else if p = 2 then x.c else x.d
def crn (b : Bool) (p : Int) : Int := a4g (pla b) p.toNat
theorem crn_plc (b : Bool) {p : Int} (h : 0 ≤ p ∧ p < 4) : plc b (crn b p) = p ∧ 0 ≤ crn b p ∧ crn b p < 4 := by
  have : p = 0 ∨ p = 1 ∨ p = 2 ∨ p = 3 := by omega
  cases b <;> rcases this with rfl | rfl | rfl | rfl <;> decide
/-- The corner at a place. -/
def crf (sg : Nat → Bool) (s : Sp) : Sp := ⟨s.c, crn (sg s.c.toNat) s.a⟩
theorem spf_crf (sg : Nat → Bool) {K : Nat} {s : Sp} (h : Rl K s) : spf sg (crf sg s) = s ∧ Rl K (crf sg s) := by
  obtain ⟨h1, h2, h3⟩ := crn_plc (sg s.c.toNat) h.2.2
  refine ⟨?_, h.1, h.2.1, h2, h3⟩
  unfold spf crf
  simp only [h1]
theorem Fin.pi {ts : List (Bool × Bool)} {sg : Nat → Bool} (F : Fin ts sg) {s : Sp} (h : Rl ts.length s) :
    ∃ y, mg (crf sg s) (tgE ts).ties = some y ∧ Rl ts.length y ∧ spf sg y = oth (endL (dcs ts)) s ∧ Thr (tieF (endL (dcs ts))) s (oth (endL (dcs ts)) s) ∧ Rl ts.length (oth (endL (dcs ts)) s) ∧ oth (endL (dcs ts)) (oth (endL (dcs ts)) s) = s ∧ oth (endL (dcs ts)) s ≠ s := by
  obtain ⟨e1, r1⟩ := spf_crf sg h
  rcases F.inv.cv _ r1 with ⟨y, t1, t2, r2, th1, th2⟩ | ⟨_, ⟨j, hj, _⟩ | h⟩
  · rw [e1] at th1 th2
    have o1 := oth_thr th1
    refine ⟨y, t1, r2, o1.symm, by rw [o1]; exact th1, by rw [o1]; exact (spf_spk sg).rl _ _ r2, by rw [o1]; exact oth_thr th2, ?_⟩
    rw [o1]
    intro e
    rw [e] at th1
    obtain ⟨_, h1 | ⟨v, v0, v4, h1, h2⟩⟩ := th1
    · exact (F.inv.ds _ _ h1).2 rfl
    · have := (F.inv.ds _ _ h2).1
      rw [h1] at this
      injection this with this
      exact flp_ne v (vt_inj this).symm
  · exact hj.elim
  · exact h.elim
def at2 (m : List (List Int)) (c p : Int) : Int := ga (ga m c.toNat) p.toNat
def set2 (m : List (List Int)) (c p v : Int) : List (List Int) := m.set c.toNat ((ga m c.toNat).set p.toNat v)
structure Ws where
  ar : List (List Int)
  inn : List (List Int)
  n : Int
  s : Sp
def opp (s : Sp) : Sp := ⟨s.c, (s.a + 2) % 4⟩
def stepW (pi : Sp → Sp) (w : Ws) : Ws := ⟨set2 (set2 w.ar w.s.c w.s.a (w.n + 1)) w.s.c ((w.s.a + 2) % 4) (w.n + 2), set2 w.inn w.s.c (w.s.a % 2) w.s.a, w.n + 1, pi (opp w.s)⟩
def visW (w : Ws) : Prop := 0 ≤ at2 w.inn w.s.c (w.s.a % 2)
instance (w : Ws) : Decidable (visW w) := inferInstanceAs (Decidable (_ ≤ _))
/-- Tables of rows of one length. -/
def Tb (m : List (List Int)) (n k : Nat) : Prop := m.length = n ∧ ∀ c, c < n → (ga m c).length = k
theorem Tb.set2 {m : List (List Int)} {n k : Nat} (h : Tb m n k) (c p v : Int) : Tb (set2 m c p v) n k := by
  refine ⟨by simp [Go.Proofs.Ytkgofmloleicgaa.set2, h.1], fun i hi => ?_⟩
  unfold Go.Proofs.Ytkgofmloleicgaa.set2
  by_cases hc : c.toNat < m.length
  · rw [ga_set _ _ _ _ hc]
    split
    · rename_i e; rw [List.length_set]; subst e; exact h.2 _ (by rw [← h.1]; exact hc)
    · exact h.2 _ hi
  · rw [List.set_eq_of_length_le (by omega)]; exact h.2 _ hi
theorem at2_set2 {m : List (List Int)} {n k : Nat} (h : Tb m n k) {c p c' p' : Int} (v : Int) (hc : 0 ≤ c ∧ c < n) (hp : 0 ≤ p ∧ p < k) (hc' : 0 ≤ c') (hp' : 0 ≤ p') : at2 (set2 m c p v) c' p' = if c' = c ∧ p' = p then v else at2 m c' p' := by
  unfold at2 set2
  have h1 : c.toNat < m.length := by rw [h.1]; omega
  rw [ga_set _ _ _ _ h1]
  by_cases e : c.toNat = c'.toNat
  · have e' : c' = c := by omega
    subst e'
    rw [if_pos rfl, ga_set _ _ _ _ (by rw [h.2 _ (by omega)]; omega)]
    by_cases e2 : p.toNat = p'.toNat
    · have : p' = p := by omega
      rw [if_pos e2, if_pos ⟨rfl, this⟩]
    · have : ¬ p' = p := by omega
      rw [if_neg e2, if_neg (fun h => this h.2)]
  · have : ¬ c' = c := by omega
    rw [if_neg e, if_neg (fun h => this h.1)]
def negs (m : List (List Int)) : Nat := (m.map fun r => r.countP (fun x => decide (x < 0))).sum
theorem countP_set (r : List Int) : ∀ {i : Nat} {v : Int}, i < r.length → ga r i < 0 → 0 ≤ v → (r.set i v).countP (fun x => decide (x < 0)) + 1 = r.countP (fun x => decide (x < 0)) := by
  induction r with
  | nil => intro i v h; simp at h
  | cons x r ih =>
    intro i v hi hx hv
    cases i with
    | zero =>
      have hx' : x < 0 := hx
      rw [List.set_cons_zero, List.countP_cons, List.countP_cons, if_neg (by simp; omega), if_pos (by simpa using hx')]
    | succ i =>
      have := ih (i := i) (v := v) (by simpa using hi) hx hv
      rw [List.set_cons_succ, List.countP_cons, List.countP_cons]
      omega
theorem negs_set (m : List (List Int)) : ∀ {c p : Nat} {v : Int}, c < m.length → p < (ga m c).length → ga (ga m c) p < 0 → 0 ≤ v → negs (m.set c ((ga m c).set p v)) + 1 = negs m := by
  unfold negs
  induction m with
  | nil => intro c p v h; simp at h
  | cons r m ih =>
    intro c p v hc hp hx hv
    cases c with
    | zero =>
      have e : ga (r :: m) 0 = r := rfl
      rw [e] at hp hx ⊢
      rw [List.set_cons_zero, List.map_cons, List.map_cons, List.sum_cons, List.sum_cons]
      have := countP_set r hp hx hv
      omega
    | succ c =>
      have e : ga (r :: m) (c + 1) = ga m c := rfl
      rw [e] at hp hx ⊢
      rw [List.set_cons_succ, List.map_cons, List.map_cons, List.sum_cons, List.sum_cons]
      have := ih (c := c) (p := p) (v := v) (by simpa using hc) hp hx hv
      omega
structure OkW (n : Nat) (w : Ws) : Prop where
  ar : Tb w.ar n 4
  inn : Tb w.inn n 2
  s : Rl n w.s
def PiOk (n : Nat) (pi : Sp → Sp) : Prop := ∀ s, Rl n s → Rl n (pi s) ∧ pi (pi s) = s ∧ pi s ≠ s
theorem opp_rl {n : Nat} {s : Sp} (h : Rl n s) : Rl n (opp s) := ⟨h.1, h.2.1, by unfold opp; simp only; omega, by unfold opp; simp only; omega⟩
theorem OkW.step {n : Nat} {pi : Sp → Sp} (hp : PiOk n pi) {w : Ws} (h : OkW n w) : OkW n (stepW pi w) := ⟨(h.ar.set2 _ _ _).set2 _ _ _, h.inn.set2 _ _ _, (hp _ (opp_rl h.s)).1⟩
theorem negs_step {n : Nat} {pi : Sp → Sp} {w : Ws} (h : OkW n w) (hv : ¬ visW w) : negs (stepW pi w).inn + 1 = negs w.inn := by
  have h1 := h.s.1
  have h2 := h.s.2.1
  have h3 := h.s.2.2
  have hc : w.s.c.toNat < w.inn.length := by rw [h.inn.1]; omega
  exact negs_set w.inn hc (by rw [h.inn.2 _ (by omega)]; omega) (by unfold visW at2 at hv; omega) h3.1
def wk (pi : Sp → Sp) : Nat → Ws → Ws
  | 0, w => w
  | m + 1, w => if visW w then w else wk pi m (stepW pi w)
def fullW (pi : Sp → Sp) (w : Ws) : Ws := wk pi (negs w.inn) w
theorem full_vis (pi : Sp → Sp) {w : Ws} (h : visW w) : fullW pi w = w := by
  unfold fullW
  cases negs w.inn with
  | zero => rfl
  | succ m => rw [wk, if_pos h]
theorem full_step {n : Nat} {pi : Sp → Sp} {w : Ws} (h : OkW n w) (hv : ¬ visW w) : fullW pi w = fullW pi (stepW pi w) := by
  have := negs_step (pi := pi) h hv
  unfold fullW
  rw [← this, wk, if_neg hv]
/-- Way in, way out. -/
def isI (m : List (List Int)) (s : Sp) : Prop := at2 m s.c (s.a % 2) = s.a
def isO (m : List (List Int)) (s : Sp) : Prop := at2 m s.c (s.a % 2) = (s.a + 2) % 4
def InOk (m : List (List Int)) (n : Nat) : Prop := ∀ s, Rl n s → at2 m s.c (s.a % 2) < 0 ∨ isI m s ∨ isO m s
structure Clo (m : List (List Int)) (n : Nat) (pi : Sp → Sp) : Prop where
  io : InOk m n
  i : ∀ s, Rl n s → isI m s → isO m (pi s)
  o : ∀ s, Rl n s → isO m s → isI m (pi s)
structure WkI (w : Ws) (n : Nat) (pi : Sp → Sp) (s0 : Sp) (n0 : Int) : Prop where
  ok : OkW n w
  io : InOk w.inn n
  a : ∀ i, Rl n i → isI w.inn i → i = s0 ∨ (isO w.inn (pi i) ∧ pi i ≠ pi w.s)
  b : ∀ o, Rl n o → isO w.inn o → o = pi w.s ∨ isI w.inn (pi o)
  c : isO w.inn (pi w.s)
  d : isI w.inn s0
  q : at2 w.ar (pi w.s).c (pi w.s).a = w.n + 1
  r : ∀ t, Rl n t → t ≠ pi w.s → at2 w.ar t.c t.a ≤ w.n
  g : n0 + 1 ≤ w.n
theorem isI_isO {m : List (List Int)} {n : Nat} {s : Sp} (hs : Rl n s) (h1 : isI m s) (h2 : isO m s) : False := by
  unfold isI at h1; unfold isO at h2
  have := hs.2.2
  omega
theorem inn_set {m : List (List Int)} {n : Nat} (hm : Tb m n 2) {s t : Sp} (hs : Rl n s) (ht : Rl n t) (v : Int) : at2 (set2 m s.c (s.a % 2) v) t.c (t.a % 2) = if t.c = s.c ∧ t.a % 2 = s.a % 2 then v else at2 m t.c (t.a % 2) :=
  at2_set2 hm v ⟨hs.1, hs.2.1⟩ (by omega) ht.1 (by have := ht.2.2; omega)
theorem same_strand {n : Nat} {s t : Sp} (hs : Rl n s) (ht : Rl n t) (h : t.c = s.c ∧ t.a % 2 = s.a % 2) : t = s ∨ t = opp s := by
  obtain ⟨c, a⟩ := s
  obtain ⟨c', a'⟩ := t
  have h1 := hs.2.2
  have h2 := ht.2.2
  obtain ⟨e1, e2⟩ := h
  simp only at e1 e2 h1 h2
  subst e1
  unfold opp
  simp only [Sp.mk.injEq, true_and]
  omega
section
variable {n : Nat} {m : List (List Int)} {s t : Sp}
/-- A strand that was not walked: where it comes in, and nothing else. -/
theorem isI_set (hm : Tb m n 2) (hs : Rl n s) (hv : at2 m s.c (s.a % 2) < 0) (ht : Rl n t) : isI (set2 m s.c (s.a % 2) s.a) t ↔ t = s ∨ isI m t := by
  unfold isI
  rw [inn_set hm hs ht]
  constructor
  · intro h
    split at h
    · rename_i e
      rcases same_strand hs ht e with h1 | h1
      · exact .inl h1
      · rw [h1] at h; have := hs.2.2; unfold opp at h; simp only at h; omega
    · exact .inr h
  · rintro (h | h)
    · rw [h, if_pos ⟨rfl, rfl⟩]
    · split
      · rename_i e
        rw [e.1, e.2] at h
        have := ht.2.2
        omega
      · exact h
theorem isO_set (hm : Tb m n 2) (hs : Rl n s) (hv : at2 m s.c (s.a % 2) < 0) (ht : Rl n t) : isO (set2 m s.c (s.a % 2) s.a) t ↔ t = opp s ∨ isO m t := by
  unfold isO
  rw [inn_set hm hs ht]
  constructor
  · intro h
    split at h
    · rename_i e
      rcases same_strand hs ht e with h1 | h1
      · rw [h1] at h; have := hs.2.2; omega
      · exact .inl h1
    · exact .inr h
  · rintro (h | h)
    · rw [h, if_pos ⟨rfl, by unfold opp; simp only; omega⟩]
      have := hs.2.2
      unfold opp
      simp only
      omega
    · split
      · rename_i e
        rw [e.1, e.2] at h
        have := ht.2.2
        omega
      · exact h
theorem InOk.set_ (hm : Tb m n 2) (hs : Rl n s) (hv : at2 m s.c (s.a % 2) < 0) (h : InOk m n) : InOk (set2 m s.c (s.a % 2) s.a) n := by
  intro t ht
  by_cases e : t.c = s.c ∧ t.a % 2 = s.a % 2
  · rcases same_strand hs ht e with h1 | h1
    · exact .inr (.inl ((isI_set hm hs hv ht).2 (.inl h1)))
    · exact .inr (.inr ((isO_set hm hs hv ht).2 (.inl h1)))
  · have e2 : at2 (set2 m s.c (s.a % 2) s.a) t.c (t.a % 2) = at2 m t.c (t.a % 2) := by rw [inn_set hm hs ht, if_neg e]
    rcases h t ht with h | h | h
    · exact .inl (by rw [e2]; exact h)
    · exact .inr (.inl ((isI_set hm hs hv ht).2 (.inr h)))
    · exact .inr (.inr ((isO_set hm hs hv ht).2 (.inr h)))
theorem not_isO_opp (hs : Rl n s) (hv : at2 m s.c (s.a % 2) < 0) : ¬ isO m (opp s) := by
  unfold isO
  have e : (opp s).a % 2 = s.a % 2 := by unfold opp; simp only; omega
  have e2 : (opp s).c = s.c := rfl
  rw [e, e2]
  have := hs.2.2
  omega
end
/-- The arcs behind a step. -/
theorem ar_step {w : Ws} {n : Nat} {pi : Sp → Sp} (h : OkW n w) (hp : PiOk n pi) {t : Sp} (ht : Rl n t) : at2 (stepW pi w).ar t.c t.a = if t = opp w.s then w.n + 2 else if t = w.s then w.n + 1 else at2 w.ar t.c t.a := by
  have hs := h.s
  have h3 := hs.2.2
  show at2 (set2 (set2 w.ar w.s.c w.s.a (w.n + 1)) w.s.c ((w.s.a + 2) % 4) (w.n + 2)) t.c t.a = _
  rw [at2_set2 (h.ar.set2 _ _ _) _ ⟨hs.1, hs.2.1⟩ (by omega) ht.1 ht.2.2.1, at2_set2 h.ar _ ⟨hs.1, hs.2.1⟩ (by omega) ht.1 ht.2.2.1]
  have c1 : (t.c = w.s.c ∧ t.a = (w.s.a + 2) % 4) ↔ t = opp w.s := by
    unfold opp
    constructor
    · intro h; cases t; simp only at h; rw [h.1, h.2]
    · intro h; rw [h]; exact ⟨rfl, rfl⟩
  have c2 : (t.c = w.s.c ∧ t.a = w.s.a) ↔ t = w.s := by
    constructor
    · intro h; obtain ⟨c, a⟩ := t; simp only at h; rw [h.1, h.2]
    · intro h; rw [h]; exact ⟨rfl, rfl⟩
  simp only [c1, c2]
theorem WkI.first {w : Ws} {n : Nat} {pi : Sp → Sp} (h : OkW n w) (hp : PiOk n pi) (hc : Clo w.inn n pi) (hv : ¬ visW w) (ha : ∀ t, Rl n t → at2 w.ar t.c t.a ≤ w.n) : WkI (stepW pi w) n pi w.s w.n := by
  have hv' : at2 w.inn w.s.c (w.s.a % 2) < 0 := by unfold visW at hv; omega
  have hs := h.s
  have ho := opp_rl hs
  have e : pi (stepW pi w).s = opp w.s := (hp _ ho).2.1
  refine ⟨h.step hp, hc.io.set_ h.inn hs hv', fun i hi h1 => ?_, fun o hoo h1 => ?_, ?_, ?_, ?_, fun t ht hne => ?_, by show w.n + 1 ≤ w.n + 1; omega⟩
  · rcases (isI_set h.inn hs hv' hi).1 h1 with h1 | h1
    · exact .inl h1
    · have h2 := hc.i i hi h1
      refine .inr ⟨(isO_set h.inn hs hv' (hp _ hi).1).2 (.inr h2), fun e2 => ?_⟩
      rw [e2, e] at h2
      exact not_isO_opp hs hv' h2
  · rw [e]
    rcases (isO_set h.inn hs hv' hoo).1 h1 with h1 | h1
    · exact .inl h1
    · exact .inr ((isI_set h.inn hs hv' (hp _ hoo).1).2 (.inr (hc.o o hoo h1)))
  · rw [e]; exact (isO_set h.inn hs hv' ho).2 (.inl rfl)
  · exact (isI_set h.inn hs hv' hs).2 (.inl rfl)
  · rw [e, ar_step h hp ho, if_pos rfl]
    show w.n + 2 = w.n + 1 + 1
    omega
  · rw [e] at hne
    rw [ar_step h hp ht, if_neg hne]
    have := ha t ht
    show _ ≤ w.n + 1
    split <;> omega
theorem WkI.next {w : Ws} {n : Nat} {pi : Sp → Sp} {s0 : Sp} {n0 : Int} (I : WkI w n pi s0 n0) (hp : PiOk n pi) (hv : ¬ visW w) (h0 : Rl n s0) : WkI (stepW pi w) n pi s0 n0 := by
  have hv' : at2 w.inn w.s.c (w.s.a % 2) < 0 := by unfold visW at hv; omega
  have h := I.ok
  have hs := h.s
  have ho := opp_rl hs
  have hq := (hp _ hs).1
  have e : pi (stepW pi w).s = opp w.s := (hp _ ho).2.1
  have nq : pi w.s ≠ opp w.s := fun e2 => not_isO_opp hs hv' (by rw [← e2]; exact I.c)
  refine ⟨h.step hp, I.io.set_ h.inn hs hv', fun i hi h1 => ?_, fun o hoo h1 => ?_, ?_, ?_, ?_, fun t ht hne => ?_, by have := I.g; show _ ≤ w.n + 1; omega⟩
  · rcases (isI_set h.inn hs hv' hi).1 h1 with h1 | h1
    · right
      rw [h1, e]
      exact ⟨(isO_set h.inn hs hv' hq).2 (.inr I.c), nq⟩
    · rcases I.a i hi h1 with h2 | ⟨h2, _⟩
      · exact .inl h2
      · refine .inr ⟨(isO_set h.inn hs hv' (hp _ hi).1).2 (.inr h2), fun e2 => ?_⟩
        rw [e2, e] at h2
        exact not_isO_opp hs hv' h2
  · rw [e]
    rcases (isO_set h.inn hs hv' hoo).1 h1 with h1 | h1
    · exact .inl h1
    · right
      rcases I.b o hoo h1 with h2 | h2
      · rw [h2, (hp _ hs).2.1]
        exact (isI_set h.inn hs hv' hs).2 (.inl rfl)
      · exact (isI_set h.inn hs hv' (hp _ hoo).1).2 (.inr h2)
  · rw [e]; exact (isO_set h.inn hs hv' ho).2 (.inl rfl)
  · exact (isI_set h.inn hs hv' h0).2 (.inr I.d)
  · rw [e, ar_step h hp ho, if_pos rfl]
    show w.n + 2 = w.n + 1 + 1
    omega
  · rw [e] at hne
    rw [ar_step h hp ht, if_neg hne]
    show _ ≤ w.n + 1
    split
    · omega
    · by_cases e3 : t = pi w.s
      · rw [e3, I.q]; omega
      · have := I.r t ht e3; omega
/-- A walk is back where it began. -/
theorem WkI.back {w : Ws} {n : Nat} {pi : Sp → Sp} {s0 : Sp} {n0 : Int} (I : WkI w n pi s0 n0) (hp : PiOk n pi) (hv : visW w) : w.s = s0 := by
  have hs := I.ok.s
  have hq := hp _ hs
  rcases I.io w.s hs with h | h | h
  · unfold visW at hv; omega
  · rcases I.a _ hs h with h1 | ⟨_, h1⟩
    · exact h1
    · exact absurd rfl h1
  · rcases I.b _ hs h with h1 | h1
    · exact absurd h1.symm hq.2.2
    · exact (isI_isO hq.1 h1 I.c).elim
theorem full_inv {n : Nat} {pi : Sp → Sp} (hp : PiOk n pi) {s0 : Sp} {n0 : Int} (h0 : Rl n s0) : ∀ (k : Nat) (w : Ws), negs w.inn = k → WkI w n pi s0 n0 → WkI (fullW pi w) n pi s0 n0 ∧ visW (fullW pi w) := by
  intro k
  induction k with
  | zero =>
    intro w hk I
    by_cases hv : visW w
    · rw [full_vis pi hv]; exact ⟨I, hv⟩
    · have := negs_step (pi := pi) I.ok hv; omega
  | succ k ih =>
    intro w hk I
    by_cases hv : visW w
    · rw [full_vis pi hv]; exact ⟨I, hv⟩
    · have h1 := negs_step (pi := pi) I.ok hv
      rw [full_step I.ok hv]
      exact ih _ (by omega) (I.next hp hv h0)
/-- Arcs and ways in. -/
structure Rst where
  ar : List (List Int)
  inn : List (List Int)
  n : Int
structure ROk (r : Rst) (n : Nat) (pi : Sp → Sp) : Prop where
  ar : Tb r.ar n 4
  inn : Tb r.inn n 2
  clo : Clo r.inn n pi
  le : ∀ t, Rl n t → at2 r.ar t.c t.a ≤ r.n
  ge : 0 ≤ r.n
def rw_ (pi : Sp → Sp) (r : Rst) (s : Sp) : Ws := fullW pi ⟨r.ar, r.inn, r.n, s⟩
/-- One strand, walked whole; its last arc is its first one. -/
def rngS (pi : Sp → Sp) (r : Rst) (s : Sp) : Rst := if 0 ≤ at2 r.inn s.c s.a then r else ⟨set2 (rw_ pi r s).ar (pi s).c (pi s).a (r.n + 1), (rw_ pi r s).inn, (rw_ pi r s).n⟩
theorem map_set2 {m : List (List Int)} {n k : Nat} (h : Tb m n k) {c p : Int} (hc : 0 ≤ c ∧ c < n) (hp : 0 ≤ p ∧ p < k) (x v : Int) (h1 : at2 m c p = x) (h2 : ∀ c' p', 0 ≤ c' ∧ c' < (n : Int) → 0 ≤ p' ∧ p' < (k : Int) → ¬ (c' = c ∧ p' = p) → at2 m c' p' ≠ x) : m.map (fun r => r.map fun a => if a = x then v else a) = set2 m c p v := by
  have hT := h.set2 c p v
  refine ga_ext (by rw [List.length_map, hT.1, h.1]) fun i hi => ?_
  rw [List.length_map] at hi
  rw [ga_map _ _ _ hi]
  have hi' : i < n := by rw [← h.1]; exact hi
  refine ga_ext (by rw [List.length_map, hT.2 i hi', h.2 i hi']) fun j hj => ?_
  rw [List.length_map] at hj
  rw [ga_map _ _ _ hj]
  have hj' : j < k := by rw [← h.2 i hi']; exact hj
  have e1 := at2_set2 h v hc hp (c' := (i : Int)) (p' := (j : Int)) (by omega) (by omega)
  have e2 : at2 m (i : Int) (j : Int) = ga (ga m i) j := by unfold at2; simp
  have e3 : at2 (set2 m c p v) (i : Int) (j : Int) = ga (ga (set2 m c p v) i) j := by unfold at2; simp
  rw [← e3, e1, ← e2]
  by_cases hh : (i : Int) = c ∧ (j : Int) = p
  · rw [if_pos hh, hh.1, hh.2, if_pos h1]
  · rw [if_neg hh, if_neg (h2 _ _ (by omega) (by omega) hh)]
theorem rng_spec {r : Rst} {n : Nat} {pi : Sp → Sp} (hp : PiOk n pi) (h : ROk r n pi) {s : Sp} (hs : Rl n s) (h2 : s.a < 2) : ROk (rngS pi r s) n pi ∧ (¬ 0 ≤ at2 r.inn s.c s.a → (rngS pi r s).ar = (rw_ pi r s).ar.map (fun l => l.map fun a => if a = (rw_ pi r s).n + 1 then r.n + 1 else a)) ∧ 0 ≤ at2 (rngS pi r s).inn s.c s.a ∧ (∀ t, Rl n t → 0 ≤ at2 r.inn t.c (t.a % 2) → 0 ≤ at2 (rngS pi r s).inn t.c (t.a % 2)) := by
  have ha2 : s.a % 2 = s.a := by have := hs.2.2; omega
  by_cases h0 : 0 ≤ at2 r.inn s.c s.a
  · have e : rngS pi r s = r := by unfold rngS; rw [if_pos h0]
    rw [e]
    exact ⟨h, fun h1 => absurd h0 h1, h0, fun t _ ht => ht⟩
  · have e : rngS pi r s = ⟨set2 (rw_ pi r s).ar (pi s).c (pi s).a (r.n + 1), (rw_ pi r s).inn, (rw_ pi r s).n⟩ := by unfold rngS; rw [if_neg h0]
    have hv : ¬ visW ⟨r.ar, r.inn, r.n, s⟩ := by unfold visW; rw [ha2]; exact h0
    have hok : OkW n ⟨r.ar, r.inn, r.n, s⟩ := ⟨h.ar, h.inn, hs⟩
    have I1 := WkI.first hok hp h.clo hv h.le
    obtain ⟨I2, v2⟩ := full_inv hp hs _ _ rfl I1
    rw [← full_step hok hv] at I2 v2
    change WkI (rw_ pi r s) n pi s r.n at I2
    change visW (rw_ pi r s) at v2
    have hb := I2.back hp v2
    have hq := (hp _ hs).1
    have hn1 := I2.g
    have hA : (rw_ pi r s).ar.map (fun l => l.map fun a => if a = (rw_ pi r s).n + 1 then r.n + 1 else a) = set2 (rw_ pi r s).ar (pi s).c (pi s).a (r.n + 1) := by
      refine map_set2 I2.ok.ar ⟨hq.1, hq.2.1⟩ hq.2.2 _ _ (by have := I2.q; rwa [hb] at this) fun c' p' hc hp' hne => ?_
      have := I2.r ⟨c', p'⟩ ⟨hc.1, hc.2, hp'⟩ (by rw [hb]; intro e; exact hne ⟨congrArg Sp.c e, congrArg Sp.a e⟩)
      simp only at this
      omega
    have mono : ∀ t, Rl n t → 0 ≤ at2 r.inn t.c (t.a % 2) → 0 ≤ at2 (rw_ pi r s).inn t.c (t.a % 2) := by
      have key : ∀ (k : Nat) (w : Ws), OkW n w → ∀ t, Rl n t → 0 ≤ at2 w.inn t.c (t.a % 2) → 0 ≤ at2 (wk pi k w).inn t.c (t.a % 2) := by
        intro k
        induction k with
        | zero => intro w _ t _ h; exact h
        | succ k ih =>
          intro w hw t ht h
          rw [wk]
          split
          · exact h
          · refine ih _ (hw.step hp) t ht ?_
            show 0 ≤ at2 (set2 w.inn w.s.c (w.s.a % 2) w.s.a) _ _
            rw [inn_set hw.inn hw.s ht]
            split
            · exact hw.s.2.2.1
            · exact h
      exact fun t ht h => key _ _ hok t ht h
    rw [e]
    refine ⟨⟨I2.ok.ar.set2 _ _ _, I2.ok.inn, ⟨I2.io, fun i hi h1 => ?_, fun o ho h1 => ?_⟩, fun t ht => ?_, by show 0 ≤ (rw_ pi r s).n; have := h.ge; omega⟩, fun _ => hA.symm, ?_, mono⟩
    · rcases I2.a i hi h1 with h3 | ⟨h3, _⟩
      · rw [h3]; have := I2.c; rwa [hb] at this
      · exact h3
    · rcases I2.b o ho h1 with h3 | h3
      · rw [h3, hb, (hp _ hs).2.1]; exact I2.d
      · exact h3
    · show at2 (set2 (rw_ pi r s).ar (pi s).c (pi s).a (r.n + 1)) t.c t.a ≤ (rw_ pi r s).n
      rw [at2_set2 I2.ok.ar _ ⟨hq.1, hq.2.1⟩ hq.2.2 ht.1 ht.2.2.1]
      split
      · exact hn1
      · rename_i hne
        have := I2.r t ht (by rw [hb]; intro e2; exact hne ⟨by rw [e2], by rw [e2]⟩)
        exact this
    · have := I2.d
      unfold isI at this
      rw [ha2] at this
      show 0 ≤ at2 (rw_ pi r s).inn s.c s.a
      rw [this]; exact hs.2.2.1
/-- The first m strands. -/
def rgs (pi : Sp → Sp) (n : Nat) : Nat → Rst
  | 0 => ⟨List.replicate n [0, 0, 0, 0], List.replicate n [-1, -1], 0⟩
  | m + 1 => rngS pi (rgs pi n m) ⟨(m / 2 : Nat), (m % 2 : Nat)⟩
theorem rgs_ok {n : Nat} {pi : Sp → Sp} (hp : PiOk n pi) : ∀ m, m ≤ 2 * n → ROk (rgs pi n m) n pi ∧ ∀ k, k < m → 0 ≤ at2 (rgs pi n m).inn (k / 2 : Nat) (k % 2 : Nat) := by
  intro m
  induction m with
  | zero =>
    intro _
    have hneg : ∀ s, Rl n s → at2 (List.replicate n [-1, -1]) s.c (s.a % 2) = -1 := fun s hs => by
      unfold at2
      have := hs.2.2
      rw [ga_rep _ _ _ (by have := hs.1; have := hs.2.1; omega)]
      have h2 : s.a % 2 = 0 ∨ s.a % 2 = 1 := by omega
      rcases h2 with h2 | h2 <;> rw [h2] <;> rfl
    refine ⟨⟨⟨by simp [rgs], fun c hc => by simp only [rgs]; rw [ga_rep _ _ _ hc]; rfl⟩, ⟨by simp [rgs], fun c hc => by simp only [rgs]; rw [ga_rep _ _ _ hc]; rfl⟩, ⟨fun s hs => .inl ?_, fun s hs h => ?_, fun s hs h => ?_⟩, fun t ht => ?_, Int.le_refl _⟩, fun k hk => absurd hk (Nat.not_lt_zero _)⟩
    · simp only [rgs]; rw [hneg s hs]; decide
    · simp only [rgs] at h; unfold isI at h; rw [hneg s hs] at h; have := hs.2.2; omega
    · simp only [rgs] at h; unfold isO at h; rw [hneg s hs] at h; have := hs.2.2; omega
    · simp only [rgs]
      unfold at2
      rw [ga_rep _ _ _ (by have := ht.1; have := ht.2.1; omega)]
      have h2 := ht.2.2
      have : t.a = 0 ∨ t.a = 1 ∨ t.a = 2 ∨ t.a = 3 := by omega
      rcases this with h | h | h | h <;> rw [h] <;> exact Int.le_refl _
  | succ m ih =>
    intro hm
    obtain ⟨h1, h2⟩ := ih (by omega)
    have hs : Rl n ⟨(m / 2 : Nat), (m % 2 : Nat)⟩ := ⟨by simp only; omega, by simp only; omega, by simp only; omega, by simp only; omega⟩
    obtain ⟨g1, _, g3, g4⟩ := rng_spec hp h1 hs (by simp only; omega)
    refine ⟨g1, fun k hk => ?_⟩
    by_cases e : k = m
    · subst e; exact g3
    · have h3 := h2 k (by omega)
      have := g4 ⟨(k / 2 : Nat), (k % 2 : Nat)⟩ ⟨by simp only; omega, by simp only; omega, by simp only; omega, by simp only; omega⟩ (by simp only; rw [show ((k % 2 : Nat) : Int) % 2 = ((k % 2 : Nat) : Int) by omega]; exact h3)
      simp only at this
      rw [show ((k % 2 : Nat) : Int) % 2 = ((k % 2 : Nat) : Int) by omega] at this
      exact this
/-- At the end each strand was walked: its way in is one of its two places. -/
theorem rgs_in {n : Nat} {pi : Sp → Sp} (hp : PiOk n pi) {c : Nat} (hc : c < n) : (at2 (rgs pi n (2 * n)).inn c 0 = 0 ∨ at2 (rgs pi n (2 * n)).inn c 0 = 2) ∧ (at2 (rgs pi n (2 * n)).inn c 1 = 1 ∨ at2 (rgs pi n (2 * n)).inn c 1 = 3) := by
  obtain ⟨h1, h2⟩ := rgs_ok hp (2 * n) (Nat.le_refl _)
  have v0 := h2 (2 * c) (by omega)
  have v1 := h2 (2 * c + 1) (by omega)
  rw [show 2 * c / 2 = c by omega, show 2 * c % 2 = 0 by omega] at v0
  rw [show (2 * c + 1) / 2 = c by omega, show (2 * c + 1) % 2 = 1 by omega] at v1
  have a0 := h1.clo.io ⟨(c : Nat), 0⟩ ⟨by simp, by simp only; omega, by simp, by simp⟩
  have a1 := h1.clo.io ⟨(c : Nat), 1⟩ ⟨by simp, by simp only; omega, by simp, by simp⟩
  unfold isI isO at a0 a1
  simp only at a0 a1
  change _ ∨ at2 _ _ 0 = 0 ∨ at2 _ _ 0 = 2 at a0
  change at2 _ _ 1 < 0 ∨ at2 _ _ 1 = 1 ∨ at2 _ _ 1 = 3 at a1
  change 0 ≤ at2 _ _ 0 at v0
  change 0 ≤ at2 _ _ 1 at v1
  refine ⟨?_, a1.resolve_left (by omega)⟩
  rcases a0 with h | h | h
  · change at2 _ _ 0 < 0 at h; omega
  · exact .inl h
  · exact .inr h
end Go.Proofs.Ytkgofmloleicgaa
namespace Go.Proofs.Ytkgofmloleicgaa
open Go.ChangeShapes Go.WideShapes Go.ChangeAt Go.RowKit
section
variable {P : Program} {o : Oper} {L : List (Nat × Value)} {w : World} {x y : Operand} {T E t t' : TypeId} {g : Nat} {a b : Int}
/-- .. told at another spelling of the place. -/
theorem run_indexPX {bo : Nat} (e k len off : Nat) (hop : o.op = .indexAddr T x y) (hx : oev L x = some (.pointer (some ⟨g, bo, none⟩))) (hy : oev L y = some (.int .i64 a)) (hu : P.underlying T = some (.array len E)) (hk : (P.info? E).map (·.size) = some k)
    (ha : a = (e : Int)) (he : e < len) (ho : bo + e * k = off) : Run P o L w (.pointer (some ⟨g, off, none⟩)) w := by
  rw [← ho]; exact run_indexP hop hx hy hu hk ha he
theorem run_xorK (ho : o.op = .binOp .xor t x y t') (hx : oev L x = some (.int .i64 a)) (hy : oev L y = some (.int .i64 b)) : Run P o L w (.int .i64 (IntKind.i64.wrap (((BitVec.ofInt IntKind.i64.bits a ^^^ BitVec.ofInt IntKind.i64.bits b).toNat : Nat) : Int))) w :=
  run_bin ho hx hy fun w => by simp [binOp, Op.intBits]
/-- A cell of two. -/
theorem nth_v2 {p q : Int} {e : Nat} (h : e < 2) : nth [Value.int .i64 p, Value.int .i64 q] (0 + e * 1) = some (.int .i64 (ga [p, q] e)) := by
  have : e = 0 ∨ e = 1 := by omega
  rcases this with rfl | rfl <;> rfl
end
end Go.Proofs.Ytkgofmloleicgaa
