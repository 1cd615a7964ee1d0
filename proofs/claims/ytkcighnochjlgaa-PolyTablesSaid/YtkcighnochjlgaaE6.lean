/- Arrays, and laws. Nothing of one program stands here. -/
import Derived.Test.YtkcighnochjlgaaE5
import Derived.Test.YtkcighnochjlgaaLaw
namespace Go.Proofs.Ytkcighnochjlgaa
open Go.ChangeShapes Go.WideShapes Go.ChangeAt Go.RowKit

section
variable {P : Program} {o : Oper} {L : List (Nat × Value)} {w w' : World} {x y z : Operand} {t t' T E : TypeId} {a b : Int} {v u : Value} {n d : Nat} {M M' : Hp} {X : Fr} {H H' : List Rs} {i g off : Nat} {l : List Value}

theorem enter_ok {P : Program} {f : FuncId} {fn : Func} {c : Code} (hf : P.funcs[f]? = some fn) (hname : (fn.name == "runtime.NumGoroutine") = false) (hb : fn.body = some c) (args : Array Value) (w : World) : (callFunc f args).run P w = .ok (.enter f args) w := by
  have h1 : fn.name ≠ "runtime.NumGoroutine" := by simpa using hname
  simp [callFunc, hf, h1, hb]

def plOk (k : Nat) : Nat → List (Nat × Nat) → Bool
  | _, [] => true
  | i, (p, q) :: r => Nat.beq p (i * k) && Nat.beq q k && plOk k (i + 1) r
theorem plOk_spec {k : Nat} : ∀ {pl : List (Nat × Nat)} {j : Nat}, plOk k j pl = true → ∀ i p, nth pl i = some p → p = ((j + i) * k, k)
  | [], _, _, i, p, h => by simp [nth] at h
  | (a, b) :: r, j, hp, 0, p, h => by
    simp only [plOk, Bool.and_eq_true] at hp
    simp only [nth, Option.some.injEq] at h
    rw [← h, Nat.eq_of_beq_eq_true hp.1.1, Nat.eq_of_beq_eq_true hp.1.2, Nat.add_zero]
  | (a, b) :: r, j, hp, i + 1, p, h => by
    simp only [plOk, Bool.and_eq_true] at hp
    simp only [nth] at h
    rw [plOk_spec hp.2 i p h, show j + 1 + i = j + (i + 1) by omega]
theorem fill_eq' {pl : List (Nat × Nat)} {place : Nat → Option (Nat × Nat)} (hpl : ∀ i p, nth pl i = some p → place i = some p) : ∀ (ps : List (Nat × Value)) (cs : Array Value) (out : List Value), fillL pl cs.toList ps = some out → Instr.fill place cs ps = some out.toArray
  | [], cs, out, h => by
    simp only [fillL, Option.some.injEq] at h
    subst h
    simp [Instr.fill]
  | (i, v) :: r, cs, out, h => by
    unfold fillL at h
    unfold Instr.fill
    split at h
    · cases h
    · rename_i p hp
      simp only [hpl i p hp]
      split at h
      · rename_i hc
        simp only [Bool.and_eq_true] at hc
        have h1 : v.cells.size = p.2 := by have := Nat.eq_of_beq_eq_true hc.1; simpa using this
        have h2 : p.1 + p.2 ≤ cs.size := by have := Nat.le_of_ble_eq_true hc.2; simpa using this
        obtain ⟨po, ps⟩ := p
        simp only at h1 h2 h ⊢
        rw [if_neg (by simp [h1]; omega)]
        refine fill_eq' hpl r _ out ?_
        rw [← Array.foldl_toList, Array.toList_zipIdx, foldl_set, Nat.add_zero]
        exact h
      · cases h
theorem run_buildA {pl : List (Nat × Nat)} {zl : List Value} {ps : List (Nat × Operand)} {vs : List (Nat × Value)} {pa : Array (Nat × Operand)} {len k : Nat} (hop : o.op = .build T pa) (hpa : pa = ps.toArray) (hu : P.underlying T = some (.array len E)) (hz : (P.info? T).map (·.zero) = some (some (.agg zl.toArray)))
    (hk : (P.info? E).map (·.size) = some k) (hpl : plOk k 0 pl = true) (hps : partL L ps = some vs) (hl : fillL pl zl vs = some l) : Run P o L w (.agg l.toArray) w := by
  intro n c he
  subst hpa
  unfold execOp
  have e := partL_eq he hps
  have hf := fill_eq' (pl := pl) (place := fun i => some (i * k, k)) (fun i p hp => by rw [plOk_spec hpl i p hp, Nat.zero_add]) vs zl.toArray l (by simpa using hl)
  simp only [hop, Instr.build, run_zero hz, run_underlying hu, run_sizeOf hk, Sem.run_bind, Sem.run_pure, Result.andThen_ok, List.map_toArray, e]
  rw [show Value.cells (.agg zl.toArray) = zl.toArray from rfl, hf]
  rfl
theorem nth_iv (xs : List Int) (e : Nat) (h : e < xs.length) : nth (xs.map (Value.int .i64)) e = some (.int .i64 (ga xs e)) := by
  rw [nth_eq, List.getElem?_map, ga_get? h]; rfl
theorem run_index1 {cs : List Value} {e len : Nat} {dd : TypeDesc} (hop : o.op = .index T x y) (hx : oev L x = some (.agg cs.toArray)) (hy : oev L y = some (.int .i64 a)) (hu : P.underlying T = some (.array len E)) (hE : P.underlying E = some dd) (hf : flatD dd = true) (hk : (P.info? E).map (·.size) = some 1)
    (ha : a = (e : Int)) (he : e < len) (hv : nth cs e = some v) : Run P o L w v w := by
  intro n c hc
  unfold execOp
  rw [nth_eq] at hv
  have hv' : cs.toArray[e]? = some v := by simpa using hv
  have h1 : (0 : Int) ≤ (e : Int) ∧ (e : Int) < (len : Int) := by omega
  simp only [hop, hc.eval hx, hc.eval hy, Instr.index, asIntOf, Sem.run_bind, Sem.run_pure, Result.andThen_ok, run_underlying hu, ha, h1, and_self, if_true, run_sizeOf hk, Int.toNat_natCast, part, run_isAgg hE, hf, Bool.not_true, Bool.false_eq_true, if_false, Nat.mul_one, hv']
theorem run_indexP {bo : Nat} {e k len : Nat} (hop : o.op = .indexAddr T x y) (hx : oev L x = some (.pointer (some ⟨g, bo, none⟩))) (hy : oev L y = some (.int .i64 a)) (hu : P.underlying T = some (.array len E)) (hk : (P.info? E).map (·.size) = some k)
    (ha : a = (e : Int)) (he : e < len) : Run P o L w (.pointer (some ⟨g, bo + e * k, none⟩)) w := by
  intro n c he'
  unfold execOp
  have h1 : (0 : Int) ≤ (e : Int) ∧ (e : Int) < (len : Int) := by omega
  simp only [hop, he'.eval hx, he'.eval hy, Instr.indexAt, asIntOf, Instr.sureAddr, Sem.run_bind, Sem.run_pure, Result.andThen_ok, run_underlying hu, ha, h1, and_self, if_true, run_sizeOf hk, Int.toNat_natCast, add_mul0]
end

/-! ### A law's call -/

/-- Nothing is lent: all that is there lasts. -/
def X0 (W : World) : Fr := ⟨fun _ => none, W⟩
theorem SH.start (W : World) : SH W (hp W) (X0 W) [] :=
  ⟨Hp.le_refl _, (fun b o e => by cases e), (fun b o e => by cases e), (fun s hs => by cases hs), (fun s hs => by cases hs), (fun i j r s _ hr => by simp at hr), Like.refl W⟩
theorem SH.below {W w : World} {M : Hp} (h : (hp W).le M) (S : SH w M (X0 W) []) : Below W.heap.size W w := by
  refine ⟨S.like.os, S.like.tape, S.like.output, S.like.size, fun k hk => ?_⟩
  have e : hp W k = some W.heap[k] := Array.getElem?_eq_getElem hk
  have := S.m k _ (h k _ e)
  unfold hp at this e
  rw [this, e]
theorem law_of_ct {P : Program} {f : FuncId} {vs : List Value} {W : World} (h : Ct P f vs W (hp W) (X0 W) (fun u _ => u = .bool true)) : Calls P f vs.toArray W fun e W' => e = .returned (.bool true) ∧ Below W.heap.size W W' := by
  refine h.mono ?_
  rintro e w' ⟨u, rfl, M', hle, S, rfl⟩
  exact ⟨rfl, S.below hle⟩
end Go.Proofs.Ytkcighnochjlgaa
