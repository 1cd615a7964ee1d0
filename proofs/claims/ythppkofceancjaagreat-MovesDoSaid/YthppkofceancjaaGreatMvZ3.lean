/- Part 3 of the proof of the law MovesDo: the walks through its functions and the plain laws that they need. -/
import Derived.Test.YthppkofceancjaaGreatMvZ2
import Derived.Laws.Pointers
import Derived.Laws.StructEq
import Derived.MapKept
import Derived.Carry
import Derived.RangeFuncNested
import Derived.RangeFuncBound
import Derived.RangeFuncCalls
import Derived.RangeFuncLeaves
import Derived.LoopNIn
import Derived.Sort.OwnSortedInts
import Derived.Shelf.Sort.Plain
import Derived.Shelf.Slices.In.SortNone
import Derived.Maps.RangeRun
set_option linter.unusedSimpArgs false
set_option linter.unusedVariables false
noncomputable section
namespace Go.Proofs.YthppkofceancjaaGreat
open Go.ChangeShapes Go.WideShapes Go.ChangeAt Go.RowKit
def SlV.v (s : SlV) : Value := .slice s.A s.n s.c
section
variable {α : Type} {C : Cd α} {xs zs : List α} {v : Value} {w w' : World} {M : Hp} {X : Fr} {H H' : List Rs} {i q g k : Nat} {T : TypeId} {l : List Value} {vs : List SlV} {xss : List (List α)} {r s t : Rs}
theorem ga_set_ne {β : Type} [Inhabited β] (xs : List β) (i j : Nat) (y : β) (h : i ≠ j) : ga (xs.set i y) j = ga xs j := by
  unfold ga
  rw [List.getD_eq_getElem?_getD, List.getD_eq_getElem?_getD, List.getElem?_set, if_neg h]
theorem SH.boxrow (S : SH w M X H) (zs : List α) (hi : nth H i = some (Rs.box g C.E l)) (hl : l = zs.flatMap C.f) (hm : zs.length ≤ 16777216) (hH : H.set i (Rs.row C (.slice (some ⟨g, 0, none⟩) zs.length zs.length) zs) = H') : SH w M X H' := by
  have hb : hp w g = some (.cells l.toArray C.E (0, 0)) := S.get hi
  refine S.step hi hH (Like.refl w) (fun _ _ _ => rfl) (.inr ⟨g, zs.length, l.toArray, rfl, hb, Nat.le_refl _, by unfold maxLen; omega, by rw [hl]; simpa using U2a C.hf zs, ?_⟩) (fun b hb' => ⟨.inl ?_, ?_⟩)
  · rw [hl, List.take_of_length_le (by rw [List.toList_toArray, U2a C.hf]; exact Nat.le_refl _)]
  · simpa [Rs.row, Value.ownBlock, Rs.box] using hb'
  · simp [Rs.row, Value.ownBlock] at hb'
    subst hb'
    exact U3f hb
theorem U3s.cell [Inhabited α] (h : U3s C v xs (hp w)) {e j : Nat} {u : Value} (he : e < xs.length) (hj : Nat.blt j C.k = true) (hu : nth (C.f (ga xs e)) j = some u) : w.cell? ⟨rb v, e * C.k + j, none⟩ = some u := by
  rcases h with ⟨_, h2⟩ | ⟨g, cap, cur, rfl, h2, h3, h4, h5, h6⟩
  · rw [h2] at he; simp at he
  · have hj' : j < C.k := by simpa using hj
    show w.cell? ⟨g, e * C.k + j, none⟩ = some u
    rw [cell_of_row w g _ cur C.E (0, 0) h2]
    have hlt : e * C.k + j < xs.length * C.k := by
      have := Nat.mul_le_mul_right C.k (show e + 1 ≤ xs.length by omega)
      rw [Nat.succ_mul] at this
      omega
    have h7 := U2p C.hf (xs := xs) he hj'
    rw [← h6, List.getElem?_take, if_pos hlt, ← U36 he, ← U1v (C.f (ga xs e)), hu] at h7
    simpa using h7
end
section
variable {P : Program} {o : Oper} {L : List (Nat × Value)} {w w' : World} {x y z : Operand} {t t' T E : TypeId} {a b : Int} {v u : Value} {n d : Nat} {Kt : List (Nat × Value) → World → Prop} {M M' : Hp} {X : Fr} {H H' : List Rs} {i k g off : Nat} {l : List Value}
end
end Go.Proofs.YthppkofceancjaaGreat
namespace Go.Proofs.YthppkofceancjaaGreat
open Go.ChangeShapes Go.WideShapes Go.ChangeAt Go.RowKit
theorem U29 {P : Program} {n : Nat} {C : Ctx} {c : Code} {s : List K} {L : List (Nat × Value)} {w : World} {M : Hp} {X : Fr} (N Hb : List Rs) (hk : kind c = 8) (hm : P.follows .mixedOrders = true) (S : SH w M X (N ++ Hb)) (f : Nat) (hf : (rg c).size = f) (h : WA P n C c s X f (Array.replicate f false) L M Hb M (N ++ Hb)) : WS P n C c s L w := by
  intro a ha
  rw [kind_draw hk]
  refine wp_region_any hm ?_
  rw [hf]
  exact AnyM.any _ _ _ _ _ _ _ _ (S.kp ⟨rfl, rfl, rfl, Nat.le_refl _⟩ fun _ _ => rfl) (down_start _) (h ⟨Hp.le_refl _, N, rfl⟩ a ha)
def FE (P : Program) (f : Field) (p : Nat × Bool) : Prop :=
  (f.name == "_") = false ∧ f.offset = p.1 ∧ (match p.2 with | true => P.underlying f.type = some .bool | false => ∃ k, P.underlying f.type = some (.int k))
def EqIs (xs ys : List Value) : List (Nat × Bool) → Prop → Prop
  | [], Q => Q = True
  | [(o, false)], Q => ∃ k x y, nth xs o = some (.int k x) ∧ nth ys o = some (.int k y) ∧ Q = (x = y)
  | [(o, true)], Q => ∃ x y, nth xs o = some (.bool x) ∧ nth ys o = some (.bool y) ∧ Q = (x = y)
  | (o, false) :: r, Q => ∃ k x y Q', nth xs o = some (.int k x) ∧ nth ys o = some (.int k y) ∧ EqIs xs ys r Q' ∧ Q = (x = y ∧ Q')
  | (o, true) :: r, Q => ∃ x y Q', nth xs o = some (.bool x) ∧ nth ys o = some (.bool y) ∧ EqIs xs ys r Q' ∧ Q = (x = y ∧ Q')
def StEq (P : Program) (T : TypeId) (pl : List (Nat × Bool)) : Prop :=
  ∃ fs : List Field, P.underlying T = some (.struct fs.toArray) ∧ Al2 (FE P) fs pl ∧ P.stoodInHeld T = false ∧ P.eqGuardType P.depth T = false
section
variable {P : Program}
theorem eqIs_go {xs ys : List Value} {o : Nat} {b : Bool} : ∀ {r : List (Nat × Bool)} {Q : Prop}, EqIs xs ys ((o, b) :: r) Q → ∃ Q1 Q2, (match b with | false => ∃ k x y, nth xs o = some (.int k x) ∧ nth ys o = some (.int k y) ∧ Q1 = (x = y) | true => ∃ x y, nth xs o = some (.bool x) ∧ nth ys o = some (.bool y) ∧ Q1 = (x = y)) ∧ EqIs xs ys r Q2 ∧ (Q ↔ Q1 ∧ Q2)
  | [], Q, h => by
    cases b with
    | false => obtain ⟨k, x, y, h1, h2, rfl⟩ := h; exact ⟨_, True, ⟨k, x, y, h1, h2, rfl⟩, rfl, by simp⟩
    | true => obtain ⟨x, y, h1, h2, rfl⟩ := h; exact ⟨_, True, ⟨x, y, h1, h2, rfl⟩, rfl, by simp⟩
  | (_ :: _), Q, h => by
    cases b with
    | false => obtain ⟨k, x, y, Q', h1, h2, h3, rfl⟩ := h; exact ⟨_, Q', ⟨k, x, y, h1, h2, rfl⟩, h3, Iff.rfl⟩
    | true => obtain ⟨x, y, Q', h1, h2, h3, rfl⟩ := h; exact ⟨_, Q', ⟨x, y, h1, h2, rfl⟩, h3, Iff.rfl⟩
theorem part1 {T : TypeId} {dd : TypeDesc} {cs : List Value} {o : Nat} {v : Value} {w : World} (hu : P.underlying T = some dd) (hd : flatD dd = true) (hv : nth cs o = some v) : (part T cs.toArray o).run P w = .ok v w := by
  rw [U1v] at hv
  simp only [part, Sem.run_bind, U44 hu, hd, Result.andThen_ok, Bool.not_true, Bool.false_eq_true, if_false, List.getElem?_toArray, hv, Sem.run_pure]
theorem run_eqFields {xs ys : List Value} {w : World} : ∀ {fs : List Field} {pl : List (Nat × Bool)} {Q : Prop}, Al2 (FE P) fs pl → EqIs xs ys pl Q → ∃ r : Bool, (Op.eqFields 9999 xs.toArray ys.toArray fs).run P w = .ok r w ∧ (r = true ↔ Q)
  | [], [], Q, _, h => ⟨true, rfl, by rw [show Q = True from h]; simp⟩
  | f :: fs, (o, b) :: pl, Q, ha, h => by
    obtain ⟨⟨hn, ho, hu⟩, ha⟩ := ha
    obtain ⟨Q1, Q2, h1, h2, hiff⟩ := eqIs_go h
    obtain ⟨r2, hr2, hi2⟩ := run_eqFields (w := w) ha h2
    have hne : f.name ≠ "_" := by simpa using hn
    simp only at ho
    have key : ∃ r1 : Bool, ∃ u v, (part f.type xs.toArray f.offset).run P w = .ok u w ∧ (part f.type ys.toArray f.offset).run P w = .ok v w ∧ (Op.equalIn 9999 f.type u v).run P w = .ok r1 w ∧ (r1 = true ↔ Q1) := by
      cases b with
      | false =>
        obtain ⟨k, x, y, g1, g2, rfl⟩ := h1
        obtain ⟨k', hu⟩ := hu
        exact ⟨_, _, _, part1 hu rfl (by rw [ho]; exact g1), part1 hu rfl (by rw [ho]; exact g2), run_equalIn_int w 9998 _ _ _ _ _ hu, by simp⟩
      | true =>
        obtain ⟨x, y, g1, g2, rfl⟩ := h1
        exact ⟨_, _, _, part1 hu rfl (by rw [ho]; exact g1), part1 hu rfl (by rw [ho]; exact g2), run_equalIn_bool' w 9998 _ _ _ hu, by simp⟩
    obtain ⟨r1, u, v, k1, k2, k3, k4⟩ := key
    refine ⟨r1 && r2, ?_, by rw [hiff, ← k4, ← hi2]; simp⟩
    rw [Op.eqFields, if_pos hne]
    simp only [Sem.run_bind, k1, k2, k3, Result.andThen_ok]
    cases r1 <;> simp [hr2]
  | [], _ :: _, _, ha, _ => False.elim ha
  | _ :: _, [], _, ha, _ => False.elim ha
variable {o : Oper} {L : List (Nat × Value)} {w : World} {x y : Operand} {t t' : TypeId}
theorem run_equalSt {xs ys : List Value} {pl : List (Nat × Bool)} {Q : Prop} [Decidable Q] (hT : StEq P t pl) (he : EqIs xs ys pl Q) : (Op.equalIn 10000 t (.agg xs.toArray) (.agg ys.toArray)).run P w = .ok (decide Q) w := by
  obtain ⟨fs, hu, ha, hs, _⟩ := hT
  have hfs : P.fieldsOf t = fs.toArray := by simp [Program.fieldsOf, hu]
  obtain ⟨r, hr, hi⟩ := run_eqFields (w := w) ha he
  rw [run_equalIn_struct w 9999 t _ _ (by rw [hfs]; exact hu) hs, hfs]
  have : r = decide Q := by
    by_cases h : Q
    · rw [decide_eq_true h]; exact hi.2 h
    · rw [decide_eq_false h]
      cases r with
      | false => rfl
      | true => exact absurd (hi.1 rfl) h
  rw [← this]
  exact hr
theorem run_eqSt {xs ys : List Value} {pl : List (Nat × Bool)} {Q : Prop} [Decidable Q] (hop : o.op = .binOp .eql t x y t') (hx : oev L x = some (.agg xs.toArray)) (hy : oev L y = some (.agg ys.toArray)) (hT : StEq P t pl) (he : EqIs xs ys pl Q) : Run P o L w (.bool (decide Q)) w := by
  intro n c' he'
  have hg := run_eqGuard_agg (P := P) w .eql t x y xs.toArray ys.toArray hT.choose_spec.2.2.2
  unfold execOp
  simp only [hop, he'.eval hx, he'.eval hy, hg, Sem.run_bind, Sem.run_pure, Result.andThen_ok, run_eql_struct, run_equalSt hT he]
end
end Go.Proofs.YthppkofceancjaaGreat
namespace Go.Proofs.YthppkofceancjaaGreat
open Go.ChangeShapes Go.WideShapes Go.ChangeAt Go.RowKit
theorem nth_bv (xs : List Bool) (e : Nat) (h : e < xs.length) : nth (xs.map Value.bool) e = some (.bool (ga xs e)) := by
  rw [U1v, List.getElem?_map, ga_get? h]; rfl
def wr (x : Int) : Int := IntKind.i64.wrap x
theorem wr_id {x : Int} (h : -9223372036854775808 ≤ x ∧ x ≤ 9223372036854775807) : wr x = x := by unfold wr; rw [IntKind.wrap_i64]; omega
theorem wr_wr (x y : Int) : wr (wr x + y) = wr (x + y) := by unfold wr; rw [IntKind.wrap_i64, IntKind.wrap_i64, IntKind.wrap_i64]; omega
section
variable {P : Program} {o : Oper} {L : List (Nat × Value)} {w : World} {x y : Operand} {t t' E : TypeId} {a b : Int}
end
end Go.Proofs.YthppkofceancjaaGreat
namespace Go.Proofs.YthppkofceancjaaGreat
open Go.ChangeShapes Go.WideShapes Go.ChangeAt Go.RowKit
section
variable {κ ε : Type} [DecidableEq κ]
def mg (k : κ) : List (κ × ε) → Option ε
  | [] => none
  | p :: r => if k = p.1 then some p.2 else mg k r
def mp (k : κ) (v : ε) : List (κ × ε) → List (κ × ε)
  | [] => [(k, v)]
  | p :: r => if k = p.1 then (k, v) :: r else p :: mp k v r
def fk (k : κ) : List (κ × ε) → Nat → Option (Nat × ε)
  | [], _ => none
  | p :: r, i => if k = p.1 then some (i, p.2) else fk k r (i + 1)
theorem mg_mp (k k' : κ) (v : ε) : ∀ es : List (κ × ε), mg k (mp k' v es) = if k = k' then some v else mg k es
  | [] => by simp [mp, mg]
  | p :: r => by
    unfold mp
    by_cases h : k' = p.1
    · rw [if_pos h]
      by_cases h2 : k = k'
      · simp [mg, h2]
      · have h3 : k ≠ p.1 := fun e => h2 (e.trans h.symm)
        simp [mg, h2, h3]
    · rw [if_neg h]
      have ih := mg_mp k k' v r
      by_cases h2 : k = p.1
      · have h3 : k ≠ k' := fun e => h (e.symm.trans h2)
        rw [if_neg h3]
        simp [mg, h2]
      · simp only [mg, if_neg h2, ih]
theorem fk_none {k : κ} : ∀ {es : List (κ × ε)} {i : Nat}, fk k es i = none → mg k es = none ∧ ∀ v, mp k v es = es ++ [(k, v)]
  | [], _, _ => ⟨rfl, fun _ => rfl⟩
  | p :: r, i, h => by
    unfold fk at h
    split at h
    · cases h
    · rename_i hne
      obtain ⟨h1, h2⟩ := fk_none h
      exact ⟨by simp [mg, hne, h1], fun v => by simp [mp, hne, h2 v]⟩
theorem fk_some {k : κ} : ∀ {es : List (κ × ε)} {i j : Nat} {v : ε}, fk k es i = some (j, v) → mg k es = some v ∧ ∃ m, j = i + m ∧ ∃ p, es[m]? = some p ∧ p.1 = k ∧ ∀ v', mp k v' es = es.set m (k, v')
  | p :: r, i, j, v, h => by
    unfold fk at h
    split at h
    · rename_i he
      injection h with h
      injection h with h1 h2
      exact ⟨by simp [mg, he, h2], 0, by omega, p, rfl, he.symm, fun v' => by simp [mp, he]⟩
    · rename_i hne
      obtain ⟨h1, m, h2, q, h3, h4, h5⟩ := fk_some h
      exact ⟨by simp [mg, hne, h1], m + 1, by omega, q, by simpa using h3, h4, fun v' => by simp [mp, hne, h5 v']⟩
end
structure MapK (P : Program) (K : TypeId) {κ : Type} [DecidableEq κ] (kc : κ → Value) : Prop where
  check : ∀ k w b, (Instr.checkKey b 10000 K (kc k)).run P w = .ok () w
  find : ∀ (k : κ) (es : List (κ × Value)) (l : List MapEntry) (w : World), l.map (fun e => (e.key, e.val)) = es.map (fun p => (kc p.1, p.2)) → (Instr.findKey K (kc k) l).run P w = .ok (fk k es 0) w
  bits : ∀ k, Instr.sameBits 10000 (kc k) (kc k) = true
theorem mapK_int {P : Program} {K : TypeId} (hu : P.underlying K = some (.int .i64)) : MapK P K (Value.int .i64) := by
  have hfind : ∀ (k : Int) (es : List (Int × Value)) (l : List MapEntry) (i : Nat), l.map (fun e => (e.key, e.val)) = es.map (fun p => (Value.int .i64 p.1, p.2)) → Instr.findNow (.int .i64) (.int .i64 k) l i = some (fk k es i) := by
    intro k es
    induction es with
    | nil => intro l i h; rw [List.map_nil, List.map_eq_nil_iff] at h; subst h; rfl
    | cons p es ih =>
      intro l i h
      cases l with
      | nil => cases h
      | cons e l =>
        simp only [List.map_cons, List.cons.injEq, Prod.mk.injEq] at h
        unfold Instr.findNow fk
        rw [h.1.1]
        simp only [Instr.sameNow, if_true]
        by_cases hk : k = p.1
        · simp [hk, h.1.2]
        · have e1 : (k == p.1) = false := by simpa using hk
          rw [e1, if_neg hk]
          exact ih l (i + 1) h.2
  refine ⟨fun k w b => ?_, fun k es l w h => MapKept.run_findKey hu (hfind k es l 0 h), fun k => by simp [Instr.sameBits]⟩
  rw [show (10000 : Nat) = 9999 + 1 from rfl]
  unfold Instr.checkKey
  simp only [Sem.run_bind, run_underlying hu, Result.andThen]
  rfl
theorem mapK_st {P : Program} {K : TypeId} {κ : Type} [DecidableEq κ] {f : κ → List Value} {pl : List (Nat × Bool)} (hT : StEq P K pl) (he : ∀ x y, ∃ Q, EqIs (f x) (f y) pl Q ∧ (Q ↔ x = y)) (hb : ∀ k, Instr.sameBits 10000 (.agg (f k).toArray) (.agg (f k).toArray) = true) : MapK P K (fun k => .agg (f k).toArray) := by
  have heq : ∀ (x y : κ) (w : World), (Op.equal K (.agg (f x).toArray) (.agg (f y).toArray)).run P w = .ok (decide (x = y)) w := by
    intro x y w
    obtain ⟨Q, h1, h2⟩ := he x y
    haveI : Decidable Q := decidable_of_iff _ h2.symm
    have := run_equalSt (P := P) (w := w) hT h1
    rw [show decide (x = y) = decide Q from decide_eq_decide.2 h2.symm]
    exact this
  have hask : ∀ (k : κ) (es : List (κ × Value)) (l : List MapEntry) (i : Nat) (w : World), l.map (fun e => (e.key, e.val)) = es.map (fun p => (Value.agg (f p.1).toArray, p.2)) → (Instr.findAsking K (.agg (f k).toArray) l i).run P w = .ok (fk k es i) w := by
    intro k es
    induction es with
    | nil => intro l i w h; rw [List.map_nil, List.map_eq_nil_iff] at h; subst h; rfl
    | cons p es ih =>
      intro l i w h
      cases l with
      | nil => cases h
      | cons e l =>
        simp only [List.map_cons, List.cons.injEq, Prod.mk.injEq] at h
        unfold Instr.findAsking fk
        rw [h.1.1]
        simp only [Sem.run_bind, heq, Result.andThen]
        by_cases hk : k = p.1
        · simp [hk, h.1.2]
        · simp only [hk, decide_false, Bool.false_eq_true, if_false]
          exact ih l (i + 1) w h.2
  obtain ⟨fs, hu, ha, hs, _⟩ := hT
  refine ⟨fun k w b => ?_, fun k es l w h => ?_, hb⟩
  · have hfs : ∀ (fs : List Field) (pl : List (Nat × Bool)) (Q : Prop), Al2 (FE P) fs pl → EqIs (f k) (f k) pl Q → ((forIn fs PUnit.unit fun (fld : Field) (_ : PUnit) => if fld.name ≠ "_" then (do
        let x ← part fld.type (f k).toArray fld.offset
        Instr.checkKey b 9999 fld.type x
        pure (ForInStep.yield PUnit.unit) : Sem (ForInStep PUnit)) else pure (ForInStep.yield PUnit.unit)) : Sem PUnit).run P w = .ok () w := by
      intro fs
      induction fs with
      | nil => intro pl Q _ _; rfl
      | cons fld fs ih =>
        intro pl Q ha h
        cases pl with
        | nil => exact False.elim ha
        | cons p pl =>
          obtain ⟨o, bb⟩ := p
          obtain ⟨⟨hn, ho, hu'⟩, ha⟩ := ha
          obtain ⟨Q1, Q2, h1, h2, _⟩ := eqIs_go h
          have hne : fld.name ≠ "_" := by simpa using hn
          simp only at ho
          have key : ∃ u, (part fld.type (f k).toArray fld.offset).run P w = .ok u w ∧ (Instr.checkKey b 9999 fld.type u).run P w = .ok () w := by
            cases bb with
            | false =>
              obtain ⟨q, x, y, g1, _, _⟩ := h1
              obtain ⟨k', hu'⟩ := hu'
              refine ⟨_, part1 hu' rfl (by rw [ho]; exact g1), ?_⟩
              rw [show (9999 : Nat) = 9998 + 1 from rfl]
              unfold Instr.checkKey
              simp only [Sem.run_bind, run_underlying hu', Result.andThen]
              rfl
            | true =>
              obtain ⟨x, y, g1, _, _⟩ := h1
              refine ⟨_, part1 hu' rfl (by rw [ho]; exact g1), ?_⟩
              rw [show (9999 : Nat) = 9998 + 1 from rfl]
              unfold Instr.checkKey
              simp only [Sem.run_bind, run_underlying hu', Result.andThen]
              rfl
          obtain ⟨u, k1, k2⟩ := key
          have := ih pl Q2 ha h2
          rw [List.forIn_cons]
          simp only [if_pos hne, Sem.run_bind, k1, k2, Result.andThen, Sem.run_pure]
          exact this
    obtain ⟨Q, h1, _⟩ := he k k
    have := hfs fs pl Q ha h1
    rw [show (10000 : Nat) = 9999 + 1 from rfl]
    unfold Instr.checkKey
    simp only [Sem.run_bind, run_underlying hu, Result.andThen]
    rw [← Array.forIn_toList, List.toList_toArray]
    rw [this]
    rfl
  · unfold Instr.findKey
    simp only [Sem.run_bind, run_underlying hu, Result.andThen]
    cases l with
    | nil =>
      cases es with
      | nil => simp [Instr.findNow, fk]
      | cons p es => cases h
    | cons e l =>
      have hn : Instr.findNow (.struct fs.toArray) (.agg (f k).toArray) (e :: l) 0 = none := by
        unfold Instr.findNow
        simp [Instr.sameNow]
      rw [hn]
      exact hask k es (e :: l) 0 w h
def Stm (arr : Array MapEntry) (clock : Nat) : Prop := (arr.toList.map (·.born)).Nodup ∧ ∀ e ∈ arr.toList, e.born < clock
def MpOk {κ ε : Type} (kc : κ → Value) (vc : ε → Value) (g : Nat) (es : List (κ × ε)) (h : Hp) : Prop :=
  ∃ arr clock, h g = some (.map arr clock) ∧ arr.toList.map (fun e => (e.key, e.val)) = es.map (fun p => (kc p.1, vc p.2)) ∧ Stm arr clock
def Rs.mp {κ ε : Type} (kc : κ → Value) (vc : ε → Value) (g : Nat) (es : List (κ × ε)) : Rs :=
  ⟨[g], MpOk kc vc g es, fun h h' hb hk => by
    obtain ⟨arr, clock, h1, h2⟩ := hk
    exact ⟨arr, clock, by rw [hb g (by simp)]; exact h1, h2⟩⟩
section
variable {P : Program} {o : Oper} {L : List (Nat × Value)} {w w' : World} {x y z : Operand} {t T K E : TypeId} {v u : Value} {n d g i : Nat} {Kt : List (Nat × Value) → World → Prop} {M M' : Hp} {X : Fr} {H H' : List Rs}
variable {κ ε : Type} [DecidableEq κ] {kc : κ → Value} {vc : ε → Value} {es : List (κ × ε)}
theorem U3g (κ ε : Type) (kc : κ → Value) (vc : ε → Value) (hop : o.op = .makeMap T none) (hd : o.dst = some d) (hn : Nat.blt d n = true) (S : SH w M X H)
    (h : ∀ g w', SH w' M X (Rs.mp kc vc g ([] : List (κ × ε)) :: H) → Kt ((d, .map (some g)) :: L) w') : WO P n o L w Kt := by
  refine Ub (v := .map (some w.heap.size)) (w' := w.alloc (.map #[] 0)) hd hn ?_ (h _ _ ?_)
  · intro n c he
    unfold execOp
    simp only [hop, Option.map_none, run_makeMap, Sem.run_bind, Result.andThen_ok, Sem.run_pure]
  · exact S.cons (U3k w _) (U3l w _) ⟨#[], 0, heap_alloc_new w _, rfl, by simp [Stm]⟩ (fun b hb => by simp [Rs.mp] at hb; subst hb; rw [size_al]; omega)
omit [DecidableEq κ] in
theorem map_pairs {arr : Array MapEntry} (h : arr.toList.map (fun e => (e.key, e.val)) = es.map (fun p => (kc p.1, vc p.2))) : arr.toList.map (fun e => (e.key, e.val)) = (es.map (fun p => (p.1, vc p.2))).map (fun p => (kc p.1, p.2)) := by
  rw [h, List.map_map]; rfl
theorem fk_map (k : κ) : ∀ (es : List (κ × ε)) (i : Nat), fk k (es.map (fun p => (p.1, vc p.2))) i = (fk k es i).map (fun q => (q.1, vc q.2))
  | [], _ => rfl
  | p :: r, i => by
    simp only [List.map_cons, fk]
    split
    · rfl
    · exact fk_map k r (i + 1)
theorem SH.look {k : κ} {zv : ε} (S : SH w M X H) (hi : nth H i = some (Rs.mp kc vc g es)) (hu : P.underlying T = some (.map K E)) (hK : MapK P K kc) (hz : (P.info? E).map (·.zero) = some (some (vc zv))) : (Instr.lookup T (.map (some g)) (kc k) false).run P w = .ok (vc ((mg k es).getD zv)) w ∧ (Instr.lookup T (.map (some g)) (kc k) true).run P w = .ok (.tuple #[vc ((mg k es).getD zv), .bool (mg k es).isSome]) w := by
  obtain ⟨arr, clock, hg, ha, hstm⟩ := (S.get hi : MpOk kc vc g es (hp w))
  have hf := hK.find k _ arr.toList w (map_pairs ha)
  rw [fk_map] at hf
  have hg' : w.heap[g]? = some (.map arr clock) := hg
  have hgo := MapKept.run_getObj_map (P := P) hg'
  have hc := fun b => hK.check k w b
  cases hfk : fk k es 0 with
  | none =>
    rw [hfk] at hf
    have hm := (fk_none hfk).1
    constructor
    · simp only [Instr.lookup, Sem.run_bind, run_underlying hu, hgo, hc, hf, Result.andThen_ok, Sem.run_pure, run_zero hz, Option.map_none, hm, Option.getD_none]
      rfl
    · simp only [Instr.lookup, Sem.run_bind, run_underlying hu, hgo, hc, hf, Result.andThen_ok, Sem.run_pure, run_zero hz, Option.map_none, hm, Option.getD_none]
      rfl
  | some q =>
    obtain ⟨j, v⟩ := q
    rw [hfk] at hf
    have hm := (fk_some hfk).1
    constructor
    · simp only [Instr.lookup, Sem.run_bind, run_underlying hu, hgo, hc, hf, Result.andThen_ok, Sem.run_pure, Option.map_some, hm, Option.getD_some]
      rfl
    · simp only [Instr.lookup, Sem.run_bind, run_underlying hu, hgo, hc, hf, Result.andThen_ok, Sem.run_pure, Option.map_some, hm, Option.getD_some]
      rfl
theorem U3h {k : κ} {zv : ε} (hop : o.op = .lookup T x y false) (hx : oev L x = some (.map (some g))) (hy : oev L y = some (kc k)) (hu : P.underlying T = some (.map K E)) (hK : MapK P K kc) (hz : (P.info? E).map (·.zero) = some (some (vc zv))) (S : SH w M X H) (hi : nth H i = some (Rs.mp kc vc g es)) : Run P o L w (vc ((mg k es).getD zv)) w := by
  intro n c he
  unfold execOp
  simp only [hop, he.eval hx, he.eval hy, (S.look hi hu hK hz).1, Sem.run_bind, Result.andThen_ok, Sem.run_pure]
theorem like_setB (w : World) (g : Nat) (ob : Obj) : Like w { w with heap := w.heap.setIfInBounds g ob } := ⟨rfl, rfl, rfl, by simp⟩
theorem U1s {k : κ} {e : ε} (hop : o.op = .mapUpdate T x y z ∨ o.op = .insert T x y z) (hd : o.dst = none) (S : SH w M X H) (hi : nth H i = some (Rs.mp kc vc g es)) (hx : oev L x = some (.map (some g))) (hy : oev L y = some (kc k)) (hz : oev L z = some (vc e)) (hu : P.underlying T = some (.map K E)) (hK : MapK P K kc)
    (hH : H.set i (Rs.mp kc vc g (Go.Proofs.YthppkofceancjaaGreat.mp k e es)) = H') (h : ∀ w', SH w' M X H' → Kt L w') : WO P n o L w Kt := by
  obtain ⟨arr, clock, hg, ha, hstm⟩ := (S.get hi : MpOk kc vc g es (hp w))
  have hf := hK.find k _ arr.toList w (map_pairs ha)
  rw [fk_map] at hf
  have hg' : w.heap[g]? = some (.map arr clock) := hg
  have hgo := MapKept.run_getObj_map (P := P) hg'
  have hc := fun b => hK.check k w b
  have key : ∃ arr' clock', (Instr.mapUpdate T (.map (some g)) (kc k) (vc e)).run P w = .ok () { w with heap := w.heap.setIfInBounds g (.map arr' clock') } ∧ arr'.toList.map (fun e => (e.key, e.val)) = (Go.Proofs.YthppkofceancjaaGreat.mp k e es).map (fun p => (kc p.1, vc p.2)) ∧ Stm arr' clock' := by
    cases hfk : fk k es 0 with
    | none =>
      rw [hfk] at hf
      refine ⟨arr.push { key := kc k, val := vc e, born := clock }, clock + 1, ?_, ?_, ?_⟩
      · simp only [Instr.mapUpdate, Sem.run_bind, run_underlying hu, hgo, hc, hf, Result.andThen_ok, Option.map_none, MapKept.run_setObj_map _ hg']
      · rw [(fk_none hfk).2 e, Array.toList_push, List.map_append, List.map_append, ha]; rfl
      · refine ⟨?_, fun x hx => ?_⟩
        · rw [Array.toList_push, List.map_append]
          refine List.nodup_append.2 ⟨hstm.1, by simp, fun a ha' b hb' => ?_⟩
          obtain ⟨x, hx, rfl⟩ := List.mem_map.1 ha'
          simp at hb'
          have := hstm.2 x hx
          omega
        · rw [Array.toList_push] at hx
          rcases List.mem_append.1 hx with h1 | h1
          · have := hstm.2 x h1; omega
          · simp at h1; subst h1; exact Nat.lt_succ_self _
    | some q =>
      obtain ⟨j, v⟩ := q
      rw [hfk] at hf
      obtain ⟨_, m, hj, p, hp1, hp2, hset⟩ := fk_some hfk
      obtain rfl : j = m := by omega
      have hlen : arr.toList.length = es.length := by have := congrArg List.length ha; simpa using this
      have hjl : j < es.length := (List.getElem?_eq_some_iff.1 hp1).1
      have hja : j < arr.size := by rw [← Array.length_toList, hlen]; exact hjl
      have hkey : (arr[j]?).map (·.key) = some (kc k) := by
        have h1 := congrArg (fun l => l[j]?) ha
        simp only [List.getElem?_map, hp1, Option.map_some] at h1
        rw [Array.getElem?_toList, Array.getElem?_eq_getElem hja] at h1
        rw [Array.getElem?_eq_getElem hja]
        simp only [Option.map_some, Option.some.injEq, Prod.mk.injEq] at h1 ⊢
        rw [h1.1, hp2]
      refine ⟨arr.modify j fun e' => { e' with key := kc k, val := vc e }, clock, ?_, ?_, ?_⟩
      · have hst : (Instr.keyThatStays (kc k) (kc k)).run P w = .ok (kc k) w := by
          unfold Instr.keyThatStays
          rw [if_pos (hK.bits k)]; rfl
        simp only [Instr.mapUpdate, Sem.run_bind, run_underlying hu, hgo, hc, hf, Result.andThen_ok, Option.map_some, hkey, Option.getD_some, hst, MapKept.run_setObj_map _ hg']
      · rw [hset e]
        apply List.ext_getElem?
        intro q
        have h1 := congrArg (fun l => l[q]?) ha
        simp only [List.getElem?_map] at h1 ⊢
        rw [Array.getElem?_toList, Array.getElem?_modify, List.getElem?_set]
        rw [Array.getElem?_toList] at h1
        by_cases hq : j = q
        · subst hq
          rw [if_pos rfl, if_pos rfl, if_pos hjl, Array.getElem?_eq_getElem hja]
          rfl
        · rw [if_neg hq, if_neg hq]
          exact h1
      · have hb : (arr.modify j fun e' => { e' with key := kc k, val := vc e }).toList.map (·.born) = arr.toList.map (·.born) := by
          apply List.ext_getElem?
          intro q
          simp only [List.getElem?_map]
          rw [Array.getElem?_toList, Array.getElem?_modify, Array.getElem?_toList]
          by_cases hq : j = q
          · subst hq; rw [if_pos rfl, Array.getElem?_eq_getElem hja]; rfl
          · rw [if_neg hq]
        refine ⟨by rw [hb]; exact hstm.1, fun x hx => ?_⟩
        have h2 : x.born ∈ arr.toList.map (·.born) := by rw [← hb]; exact List.mem_map.2 ⟨x, hx, rfl⟩
        obtain ⟨y, hy, e2⟩ := List.mem_map.1 h2
        rw [← e2]; exact hstm.2 y hy
  obtain ⟨arr', clock', hrun, hpairs, hstm'⟩ := key
  have hlt := U3f hg
  refine wo_runS hd (w' := { w with heap := w.heap.setIfInBounds g (.map arr' clock') }) ?_ (h _ ?_)
  · intro n c he
    unfold execOp
    rcases hop with hop | hop <;> simp only [hop, he.eval hx, he.eval hy, he.eval hz, hrun, Sem.run_bind, Result.andThen_ok, Sem.run_pure]
  · refine S.step hi hH (like_setB w g _) (fun b _ hb => ?_) ⟨arr', clock', ?_, hpairs, hstm'⟩ (fun b hb => ⟨.inl hb, ?_⟩)
    · have hne : b ≠ g := by simpa [Rs.mp] using hb
      show (w.heap.setIfInBounds g _)[b]? = w.heap[b]?
      rw [Array.getElem?_setIfInBounds_ne (Ne.symm hne)]
    · show (w.heap.setIfInBounds g _)[g]? = _
      simp [hlt]
    · simp [Rs.mp] at hb
      subst hb
      show _ < (w.heap.setIfInBounds _ _).size
      simpa using hlt
end
end Go.Proofs.YthppkofceancjaaGreat
namespace Go.Proofs.YthppkofceancjaaGreat
open Go.ChangeShapes Go.WideShapes Go.ChangeAt Go.RowKit
def Rs.bun (H : List Rs) : Rs :=
  ⟨H.flatMap (·.bl), fun h => (∀ r ∈ H, r.ok h) ∧ ∀ (i j : Nat) r s, i ≠ j → H[i]? = some r → H[j]? = some s → ∀ b ∈ r.bl, b ∉ s.bl, fun h h' hb hk =>
    ⟨fun r hr => r.loc h h' (fun b hbr => hb b (List.mem_flatMap.2 ⟨r, hr, hbr⟩)) (hk.1 r hr), hk.2⟩⟩
section
variable {w w' : World} {M M' : Hp} {X : Fr} {H H' : List Rs} {r r' : Rs} {i : Nat}
theorem SH.bun (S : SH w M X H) : SH w M X [Rs.bun H] := by
  refine ⟨S.m, S.x, S.mx, fun s hs => ?_, fun s hs b hb => ?_, fun i j r s hij hi hj b hb => ?_, S.like⟩
  · rw [List.mem_singleton] at hs; subst hs; exact ⟨S.ok, S.ap⟩
  · rw [List.mem_singleton] at hs; subst hs
    obtain ⟨r, hr, hbr⟩ := List.mem_flatMap.1 hb
    exact S.bl r hr b hbr
  · have h1 := (List.getElem?_eq_some_iff.1 hi).1
    have h2 := (List.getElem?_eq_some_iff.1 hj).1
    simp at h1 h2; omega
theorem SH.unbun (S : SH w M X [Rs.bun H]) : SH w M X H := by
  obtain ⟨h1, h2⟩ := S.ok (Rs.bun H) (by simp)
  exact ⟨S.m, S.x, S.mx, h1, fun r hr b hb => S.bl (Rs.bun H) (by simp) b (List.mem_flatMap.2 ⟨r, hr, hb⟩), h2, S.like⟩
end
def Rs.lr (l D : Nat) (rc : Loop) : Rs :=
  ⟨[l, D], fun h => h l = some (.loop rc) ∧ h D = some (.deferred (some [])), fun h h' hb hk => ⟨by rw [hb l (by simp)]; exact hk.1, by rw [hb D (by simp)]; exact hk.2⟩⟩
namespace InF
structure Ctx where
  Q : Exit → Act → World → Prop
  r : Option Nat
def Ctx.F (C : Ctx) : Fence := match C.r with
  | none => Fence.wide
  | some l => Fence.wide.inRound l
theorem Ctx.F_fn (C : Ctx) (f : FuncId) : C.F.fn f := by
  unfold Ctx.F; split <;> trivial
theorem Ctx.F_depth (C : Ctx) : C.F.depth = none := by
  unfold Ctx.F; split <;> rfl
theorem Ctx.U40 (C : Ctx) {p : Prop} : C.F.depth.isSome = true → p := by rw [C.F_depth]; intro h; cases h
theorem callsF (C : Ctx) {m : Nat} {P : Program} {f : FuncId} {args : Array Value} {w : World} {R : Ending → World → Prop} (h : Calls P f args w R) : CallsIn C.F m P f args w R := by
  unfold Ctx.F
  split
  · exact callsIn_wide.2 h
  · exact (callsIn_wide.2 h).inRound _
theorem rowsF (C : Ctx) {m : Nat} {P : Program} {row : String} {args : Array Value} {w : World} {R : Value → World → Prop} (h : Rows P row args w R) : RowsIn C.F m P row args w R := by
  unfold Ctx.F
  split
  · exact fun c cs _ => let ⟨v, w', r, s⟩ := h c cs; ⟨v, w', r, stepsIn_wide.2 s⟩
  · exact fun c cs _ => let ⟨v, w', r, s⟩ := h c cs; ⟨v, w', r, stepsIn_wide.2 s⟩
theorem oper_in (C : Ctx) {P : Program} {o : Oper} {a : Act} {w : World} {next : Act → World → Prop} {Q : Exit → Act → World → Prop} (hnd : ∀ c, o.op ≠ .defer c) (h : o.wp P a w next Q) : o.wpIn C.F 0 P a w next Q := by
  refine ⟨fun f _ => C.F_fn f, ?_⟩
  rw [Oper.semAt_eq _ _ _ hnd]
  unfold Oper.wp at h
  generalize (execOp a.eval o).run P w = r at h
  cases r with
  | ok nx w' =>
    cases nx with
    | value v => exact h
    | skip => exact h
    | defer d => exact h
    | enter f args => exact ⟨C.U40, callsF C h⟩
    | row row args => exact ⟨C.U40, rowsF C h⟩
    | _ => exact h.elim
  | halt x w' =>
    cases x with
    | panic v => exact h
    | _ => exact h.elim
def post (P : Program) (C : Ctx) : List K → Exit → Act → World → Prop
  | [] => C.Q
  | .thn c :: s => Exit.then (c.wpIn C.F 0 P (post P C s)) (post P C s)
  | .blk id :: s => Exit.inBlock id (post P C s)
  | .lp I :: s => Exit.then I (post P C s)
def WS (P : Program) (n : Nat) (C : Ctx) (c : Code) (s : List K) (L : List (Nat × Value)) (w : World) : Prop := ∀ a, Env n L a → c.wpIn C.F 0 P (post P C s) a w
def NM (P : Program) (n : Nat) (C : Ctx) (s : List K) (L : List (Nat × Value)) (w : World) : Prop := ∀ a, Env n L a → post P C s .normal a w
def WL (P : Program) (n : Nat) (C : Ctx) (c : Code) (k : Nat) (s : List K) (L : List (Nat × Value)) (w : World) : Prop := ∀ a, Env n L a → wpListIn C.F 0 P (rg c) (post P C s) ((rg c).toList.drop k) a w
section
variable {P : Program} {n : Nat} {C : Ctx} {c : Code} {s : List K} {L : List (Nat × Value)} {w : World}
theorem U14 (L2 : List (Nat × Value)) (hs : Sub L L2) (h : WS P n C c s L2 w) : WS P n C c s L w := fun a ha => h a (ha.sub hs)
theorem U1a (L2 : List (Nat × Value)) (hs : Sub L L2) (h : NM P n C s L2 w) : NM P n C s L w := fun a ha => h a (ha.sub hs)
theorem U2 (a b : Code) (hk : kind c = 1) (ha : cL c = a) (hb : cR c = b) (h : WS P n C a (.thn b :: s) L w) : WS P n C c s L w := by
  subst ha; subst hb
  intro a ha
  rw [kind_seq hk]
  exact wpIn_seq (h a ha)
theorem Uc (a : Code) (i : Nat) (hk : kind c = 3) (ha : cL c = a) (hi : cId c = i) (h : WS P n C a (.blk i :: s) L w) : WS P n C c s L w := by
  subst ha; subst hi
  intro a ha
  rw [kind_block hk]
  exact wpIn_block (h a ha)
theorem Uf (hk : kind c = 9) (h : NM P n C s L w) : WS P n C c s L w := by
  intro a ha
  rw [kind_skip hk]
  exact wpIn_skip (h a ha)
theorem U4 (h : WS P n C c s L w) : NM P n C (.thn c :: s) L w := fun a ha => h a ha
theorem U12 {id : Nat} (h : NM P n C s L w) : NM P n C (.blk id :: s) L w := fun a ha => h a ha
theorem U15 {I : Act → World → Prop} (h : ∀ a, Env n L a → I a w) : NM P n C (.lp I :: s) L w := fun a ha => h a ha
theorem U30 {id : Nat} : ∀ {s s' : List K}, popTo id s = some s' → ∀ a w, post P C s' .normal a w → post P C s (.exit id) a w
  | [], s', h, a, w, hq => by cases h
  | .thn c :: s, s', h, a, w, hq => U30 (s := s) h a w hq
  | .lp I :: s, s', h, a, w, hq => U30 (s := s) h a w hq
  | .blk i :: s, s', h, a, w, hq => by
    simp only [popTo] at h
    simp only [post, Exit.inBlock]
    by_cases hi : i = id
    · subst hi
      simp only [Nat.beq_refl, Option.some.injEq] at h
      subst h
      rw [if_pos rfl]
      exact hq
    · have h2 : Nat.beq i id = false := by
        cases hb : Nat.beq i id with
        | false => rfl
        | true => exact absurd (Nat.eq_of_beq_eq_true hb) hi
      simp only [h2] at h
      rw [if_neg (fun e => hi e.symm)]
      exact U30 (s := s) h a w hq
theorem U16 {s' : List K} (hk : kind c = 5) (hp : popTo (cId c) s = some s') (h : NM P n C s' L w) : WS P n C c s L w := by
  intro a ha
  rw [kind_exit hk]
  exact wpIn_exit (U30 hp a w (h a ha))
theorem U19 (x y : Code) {b : Bool} (hk : kind c = 2) (hb : oev L (cX c) = some (.bool b)) (hx : cL c = x) (hy : cR c = y) (ht : b = true → WS P n C x s L w) (hf : b = false → WS P n C y s L w) : WS P n C c s L w := by
  subst hx; subst hy
  intro a ha
  rw [kind_cond hk]
  exact wpIn_cond_split (ha.eval hb) (fun h => ht h a ha) (fun h => hf h a ha)
theorem U1h (x : Code) (hk : kind c = 2) (hb : oev L (cX c) = some (.bool true)) (hx : cL c = x) (ht : WS P n C x s L w) : WS P n C c s L w := U19 x (cR c) hk hb hx rfl (fun _ => ht) (fun e => by cases e)
theorem U2c (y : Code) (hk : kind c = 2) (hb : oev L (cX c) = some (.bool false)) (hy : cR c = y) (hf : WS P n C y s L w) : WS P n C c s L w := U19 (cL c) y hk hb rfl hy (fun e => by cases e) (fun _ => hf)
theorem U1u {a : Act} {c' : Code} (ha : Env n L a) (hc : c' = c) (h : WS P n C c s L w) : c'.wpIn C.F 0 P (post P C s) a w := by subst hc; exact h a ha
theorem U11 (I : Nat → Act → World → Prop) (hk : kind c = 4) (h0 : ∀ a, Env n L a → ∃ k, I k a w)
    (round : ∀ k a w, I k a w → (cL c).wpIn C.F 0 P (post P C (.lp (fun a' w' => ∃ k', k' < k ∧ I k' a' w') :: s)) a w) : WS P n C c s L w := by
  intro a ha
  rw [kind_loop hk]
  have key : ∀ m k, k < m → ∀ a w, I k a w → Code.roundsIn C.F 0 P (cL c) (post P C s) m a w := by
    intro m
    induction m with
    | zero => intro k hk; omega
    | succ m ih =>
      intro k hk a w hi
      rw [roundsIn_succ]
      refine wpIn_mono (round k a w hi) (fun e a w q => ?_)
      cases e with
      | normal =>
        obtain ⟨k', hlt, hi'⟩ := q
        exact ih k' (by omega) a w hi'
      | _ => exact q
  obtain ⟨k0, h1⟩ := h0 a ha
  exact wpIn_loop_rounds (k0 + 1) (key (k0 + 1) k0 (by omega) a w h1)
theorem ws_eq (t : Nat) {v : Value} (v' : Value) (hl : lk L t = some v) (e : v = v') (h : WS P n C c s ((t, v') :: L) w) : WS P n C c s L w := by
  subst e
  exact fun a ha => h a ⟨ha.sz, ha.df, fun u x hx => by
    rw [lk_cons] at hx
    split at hx
    · rename_i e; subst e; injection hx with hx; subst hx; exact ha.at_ _ _ hl
    · exact ha.at_ _ _ hx⟩
theorem U1 (hk : kind c = 7) (h : WL P n C c 0 s L w) : WS P n C c s L w := by
  intro a ha
  rw [kind_region hk]
  exact wpIn_region_list (h a ha)
theorem U5 {k : Nat} (hk : op c k = none) (h : NM P n C s L w) : WL P n C c k s L w := by
  intro a ha
  have : ((rg c).toList.drop k) = [] := by
    unfold op at hk
    rw [U1v] at hk
    exact List.drop_eq_nil_of_le (by simpa using hk)
  rw [this]
  exact wpListIn_nil (h a ha)
def ndOp (o : Oper) : Bool := match o.op with
  | .defer _ => false
  | _ => true
theorem ndOp_spec {o : Oper} (h : ndOp o = true) : ∀ c, o.op ≠ .defer c := fun c e => by unfold ndOp at h; rw [e] at h; cases h
theorem Us {k k' : Nat} {o : Oper} (ho : op c k = some o) (hk : k' = k.succ) (hg : o.guard = none) (h : WO P n o L w (fun L' w' => WL P n C c k' s L' w')) (hnd : ndOp o = true := by rfl) : WL P n C c k s L w := by
  intro a ha
  rw [U43 ho]
  subst hk
  refine wpListIn_plain hg fun K hK => ?_
  exact oper_in C (ndOp_spec hnd) (h a ha K _ fun L' a' w' he hw => hK _ _ (hw a' he))
theorem wl_yield {k k' d l : Nat} {o : Oper} {vs : List Value} {ca : Call} {fo : Operand} {xs : List Operand} (ho : op c k = some o) (hk : k' = k.succ) (hg : o.guard = none) (hd : o.dst = some d) (hop : o.op = .call ca) (hca : ca.callee = .value fo) (hfo : oev L fo = some (.func (.yield l) #[] #[]))
    (hxs : ca.args = xs.toArray) (hvs : oevs L xs = some vs) (hn : Nat.blt d n = true) {R : Value → World → Prop} (hy : YieldAt C.F 0 P l vs.toArray w fun e w' => ∃ v, e = .returned v ∧ R v w') (h : ∀ v w', R v w' → WL P n C c k' s ((d, v) :: L) w') : WL P n C c k s L w := by
  intro a ha
  rw [U43 ho]
  subst hk
  refine wpListIn_plain hg fun K hK => ?_
  obtain ⟨fn, tmps, assign, body, hy1, hy2⟩ := hy
  have hr : (execOp a.eval o).run P w = .ok (.round l fn tmps assign body) w := by
    unfold execOp
    simp only [hop, resolve, hca, ha.eval hfo, hxs, List.map_toArray, ha.evals hvs, Deferred.ofValue, Sem.run_bind, Sem.run_pure, Result.andThen_ok, invoke, Array.empty_append]
    exact hy1
  refine ⟨fun f _ => C.F_fn f, ?_⟩
  rw [Oper.semAt_eq _ _ _ (fun c e => by rw [e] at hop; cases hop), hr, Oper.uponIn_round, hd]
  refine ⟨C.U40, hy2.mono ?_⟩
  rintro e w' ⟨v, rfl, hR⟩
  exact hK _ _ (h v w' hR _ (ha.put (by simpa using hn) v))
theorem U2j {fn : Func} {R : Ending → World → Prop} (hC : C.Q = bodyPost P fn R) {rs : List ResultVar} (vs : List Value) (hr : fn.results = rs.toArray) (h : ResIs P L w rs vs) (hR : R (.returned (tup vs)) w) : NM P n C [] L w := by
  intro a ha
  show C.Q .normal a w
  rw [hC]
  exact ⟨ha.df, tup vs, U2v ha hr h, hR⟩
theorem Uo {f : FuncId} {fn : Func} {b : Code} {args : List Value} {w : World} {R : Ending → World → Prop} (hf : P.funcs[f]? = some fn) (hb : fn.body = some b) {n : Nat} (hn : fn.ntmps = n) (hsz : Nat.ble args.length n = true)
    (h : ∀ C : Ctx, C.r = none → C.Q = bodyPost P fn R → WS P n C b [] (argL 0 args) w) : CallsIn Fence.wide 0 P f args.toArray w R := by
  have h1 := h ⟨bodyPost P fn R, none⟩ rfl rfl
  refine callsIn_of_wp hf hb trivial (h1 _ ⟨?_, rfl, fun t v hv => ?_⟩)
  · simp [hn]; have : args.length ≤ n := by simpa using hsz
    omega
  · have := (lk_argL args 0 t v hv).2
    rw [Nat.sub_zero] at this
    have hlt := (List.getElem?_eq_some_iff.1 this).1
    simp only [Array.getD_eq_getD_getElem?]
    rw [Array.getElem?_append_left (by simpa using hlt)]
    simp [this]
theorem calls_marks {f : FuncId} {fn : Func} {b : Code} {args : List Value} {w : World} {R : Ending → World → Prop} (hf : P.funcs[f]? = some fn) (hb : fn.body = some b) {n : Nat} (hn : fn.ntmps = n) (hsz : Nat.ble args.length n = true)
    (h : ∀ C : Ctx, C.r = none → C.Q = bodyPostM Fence.wide 0 P fn R → WS P n C b [] (argL 0 args) w) : Calls P f args.toArray w R := by
  have h1 := h ⟨bodyPostM Fence.wide 0 P fn R, none⟩ rfl rfl
  refine callsIn_wide.1 (callsIn_of_wp_marks hf hb trivial (h1 _ ⟨?_, rfl, fun t v hv => ?_⟩))
  · simp [hn]; have : args.length ≤ n := by simpa using hsz
    omega
  · have := (lk_argL args 0 t v hv).2
    rw [Nat.sub_zero] at this
    have hlt := (List.getElem?_eq_some_iff.1 this).1
    simp only [Array.getD_eq_getD_getElem?]
    rw [Array.getElem?_append_left (by simpa using hlt)]
    simp [this]
end
section
variable {P : Program} {n : Nat} {C : Ctx} {c : Code} {s : List K} {L : List (Nat × Value)} {w : World} {M : Hp} {X : Fr} {H : List Rs}
def Iter (P : Program) (f : FuncId) (lb : List Value) (enc : Nat → Value) (N : Nat) (M : Hp) (X : Fr) : Prop :=
  ∀ (l : Nat) (J : Nat → Hp → Rs → Prop) (w : World) (M1 : Hp) (B : Rs), M.le M1 →
    (∀ k M' B' w', k < N → M1.le M' → SH w' M' X [B'] → J k M' B' → YieldAt Fence.wide 0 P l #[enc k] w' fun e w'' => ∃ v, e = .returned v ∧ v = .bool true ∧ ∃ M'' B'', M'.le M'' ∧ SH w'' M'' X [B''] ∧ J (k + 1) M'' B'') →
    SH w M1 X [B] → J 0 M1 B → CallsIn Fence.wide 0 P f ((Value.func (.yield l) #[] #[]) :: lb).toArray w fun e w' => (∃ v, e = .returned v) ∧ ∃ M' B', M1.le M' ∧ SH w' M' X [B'] ∧ J N M' B'
theorem lr_put {w : World} {l D : Nat} {rc rc' : Loop} {Hs : List Rs} (S : SH w M X (Rs.lr l D rc :: Hs)) : SH (w.putObj l (.loop rc')) M X (Rs.lr l D rc' :: Hs) := by
  obtain ⟨h1, h2⟩ := S.ok (Rs.lr l D rc) (by simp)
  have hne : D ≠ l := fun e => by subst e; rw [h1] at h2; cases h2
  have hlt := U3f h1
  have hlt2 := U3f h2
  refine S.step (i := 0) (r := Rs.lr l D rc) rfl rfl ⟨rfl, rfl, rfl, by simp [World.putObj]⟩ (fun b _ hb => ?_) ⟨World.putObj_heap_same hlt, (World.putObj_heap_other hne).trans h2⟩ (fun b hb => ⟨.inl hb, ?_⟩)
  · exact World.putObj_heap_other (fun e => hb (by rw [e]; simp [Rs.lr]))
  · simp only [Rs.lr, List.mem_cons, List.not_mem_nil, or_false] at hb
    rcases hb with rfl | rfl <;> simp [World.putObj, hlt, hlt2]
theorem env_start {a : Act} {p : Nat} {v : Value} (ha : Env n L a) (hp : p < n) : Env n ((p, v) :: L) { tmps := a.tmps.setIfInBounds p v, defers := [] } := by
  have := (ha.put hp v)
  exact ⟨by simpa [Act.put] using this.sz, rfl, fun t u hu => by have := this.at_ t u hu; simpa [Act.put] using this⟩
theorem ws_rangeFunc {p : Nat} {g : Operand} {asg bd : Code} {f : FuncId} {lb : List Value} {enc : Nat → Value} {N : Nat} (hr : C.r = none) (hc : c = .rangeFunc g #[p] asg bd) (hp' : Nat.blt p n = true) (hg : oev L g = some (.func (.func f) #[] lb.toArray)) (hen : ∀ args w, (callFunc f args).run P w = .ok (.enter f args) w)
    (S : SH w M X H) (I : Nat → Hp → List Rs → Prop) (I1 : Nat → Act → Hp → List Rs → Prop) (h0 : I 0 M H) (hit : Iter P f lb enc N M X)
    (hassign : ∀ (k : Nat) (M' : Hp) (H' : List Rs) (w' : World) (C' : Ctx) (R0 : Rs), k < N → M.le M' → SH w' M' X (R0 :: H') → I k M' H' → WS P n C' asg [.lp (fun a w'' => ∃ M'' H'', M'.le M'' ∧ SH w'' M'' X (R0 :: H'') ∧ I1 k a M'' H'')] ((p, enc k) :: L) w')
    (hbody : ∀ (k : Nat) (M' : Hp) (H' : List Rs) (w' : World) (C' : Ctx) (R0 : Rs) (a : Act), k < N → M.le M' → SH w' M' X (R0 :: H') → I1 k a M' H' → bd.wpIn C'.F 0 P (post P C' [.lp (fun _ w'' => ∃ M'' H'', M'.le M'' ∧ SH w'' M'' X (R0 :: H'') ∧ I (k + 1) M'' H'')]) a w')
    (hdone : ∀ (a : Act) (M' : Hp) (H' : List Rs) (w' : World) (D l : Nat) (rc : Loop), Env n L a → M.le M' → SH w' M' X (Rs.lr l D rc :: H') → I N M' H' → post P C s .normal { a with defers := [{ target := .collected D, args := #[] }] } w') : WS P n C c s L w := by
  have hF : C.F = Fence.wide := by unfold Ctx.F; rw [hr]
  intro a ha
  subst hc
  rw [hF]
  refine wpIn_rangeFunc ?_
  intro fn _
  rw [show Fence.wide.round = none from rfl]
  obtain ⟨rec, hrec⟩ : ∃ rec : LoopState → Loop, rec = fun st => { state := st, pending := none, fn, tmps := a.tmps, params := #[p], assign := asg, body := bd, defers := w.heap.size } := ⟨_, rfl⟩
  obtain ⟨W1, hW1⟩ : ∃ W1, (w.alloc (.deferred (some []))).alloc (.loop (rec .ready)) = W1 := ⟨_, rfl⟩
  have hL1 : W1.heap[w.heap.size + 1]? = some (.loop (rec .ready)) := by
    rw [← hW1]; have := World.alloc_heap_new (w.alloc (.deferred (some []))) (.loop (rec .ready)); rwa [World.size_alloc] at this
  have hK1 : W1.heap[w.heap.size]? = some (.deferred (some [])) := by
    rw [← hW1]; exact (Below.heap_alloc _ _ _ (by simp)).trans (World.alloc_heap_new w _)
  have hkeep : ∀ b, b < w.heap.size → hp W1 b = hp w b := fun b hb => by
    rw [← hW1]
    exact (U3l (w.alloc (.deferred (some []))) _ b (by rw [size_al]; omega)).trans (U3l w _ b hb)
  have S1 : SH W1 M X (Rs.lr (w.heap.size + 1) w.heap.size (rec .ready) :: H) := by
    have hl : Like w W1 := by rw [← hW1]; exact (U3k w _).trans (U3k _ _)
    refine S.cons hl hkeep ⟨hL1, hK1⟩ (fun b hb => ?_)
    have hsz : W1.heap.size = w.heap.size + 2 := by rw [← hW1, size_al, size_al]
    simp only [Rs.lr, List.mem_cons, List.not_mem_nil, or_false] at hb
    omega
  have hdf : a.defers = [] := ha.df
  refine ⟨w.heap.size + 1, [{ target := .collected w.heap.size, args := #[] }], W1, { target := .fn (.func f) lb.toArray, args := #[.func (.yield (w.heap.size + 1)) #[] #[]] }, W1, f,
    #[.func (.yield (w.heap.size + 1)) #[] #[]] ++ lb.toArray, W1, ?_, ?_, fun _ _ => trivial, ?_, fun h => (by cases h), ?_⟩
  · rw [← hW1, hrec]; exact run_enterLoop_outer _ _ _ _ _
  · simp only [resolve, ha.eval hg]
    simp [go_sem]
  · simp [invoke, go_sem, hen]
  · rw [show (#[.func (.yield (w.heap.size + 1)) #[] #[]] ++ lb.toArray : Array Value) = ((Value.func (.yield (w.heap.size + 1)) #[] #[]) :: lb).toArray from by simp]
    refine (hit (w.heap.size + 1) (fun k M' B => ∃ H', B = Rs.bun (Rs.lr (w.heap.size + 1) w.heap.size (rec .ready) :: H') ∧ I k M' H') W1 M _ (Hp.le_refl _) ?_ S1.bun ⟨H, rfl, h0⟩).mono ?_
    · rintro k M' B' w' hk hle SB ⟨H', rfl, hI⟩
      have S' := SB.unbun
      obtain ⟨hl, hD⟩ := S'.ok (Rs.lr (w.heap.size + 1) w.heap.size (rec .ready)) (by simp)
      have hy := run_yield (P := P) (args := #[enc k]) hl (by rw [hrec]; rfl)
      rw [hrec] at hy
      refine ⟨fn, _, asg, bd, hy, roundIn_of_wpIn trivial ?_⟩
      have hC' : (Ctx.mk (fun _ _ _ => False) (some (w.heap.size + 1))).F = Fence.wide.inRound (w.heap.size + 1) := rfl
      have e1 : ((#[p] : Array Tmp).zip #[enc k]).foldl (fun tmps (t, a) => tmps.setIfInBounds t a) a.tmps = a.tmps.setIfInBounds p (enc k) := by simp
      rw [← hC']
      have hA := hassign k M' H' w' (Ctx.mk (fun _ _ _ => False) (some (w.heap.size + 1))) (Rs.lr (w.heap.size + 1) w.heap.size (rec .ready)) hk hle S' hI _ (env_start ha (by simpa using hp'))
      rw [e1]
      refine wpIn_mono hA ?_
      rintro e a2 w2 hq
      cases e with
      | normal =>
        obtain ⟨M2, H2, hle2, S2, hI1⟩ := hq
        obtain ⟨hl2, _⟩ := S2.ok (Rs.lr (w.heap.size + 1) w.heap.size (rec .ready)) (by simp)
        refine ⟨_, run_beginRound hl2 (by rw [hrec]), ?_⟩
        have S3 := lr_put (rc' := { rec .ready with state := .busy }) S2
        refine wpIn_mono (hbody k M2 H2 _ (Ctx.mk (fun _ _ _ => False) (some (w.heap.size + 1))) _ a2 hk (hle.trans hle2) S3 hI1) ?_
        rintro e a3 w3 hq3
        cases e with
        | normal =>
          obtain ⟨M4, H4, hle4, S4, hI4⟩ := hq3
          obtain ⟨hl4, _⟩ := S4.ok (Rs.lr (w.heap.size + 1) w.heap.size { rec .ready with state := .busy }) (by simp)
          have he := run_endRound (P := P) none hl4
          have S5 := lr_put (rc' := rec .ready) S4
          refine ⟨_, _, he, _, rfl, rfl, M4, Rs.bun (Rs.lr (w.heap.size + 1) w.heap.size (rec .ready) :: H4), hle2.trans hle4, ?_, H4, rfl, hI4⟩
          have e2 : ({ ({ rec .ready with state := .busy } : Loop) with state := (if (none : Option Code).isNone = true then LoopState.ready else LoopState.done), pending := none } : Loop) = rec .ready := by rw [hrec]; rfl
          rw [e2]
          exact S5.bun
        | _ => exact hq3.elim
      | _ => exact hq.elim
    · rintro e w2 ⟨⟨v, rfl⟩, M', B', hle, SB, H', rfl, hI⟩
      have S' := SB.unbun
      obtain ⟨hl, hD⟩ := S'.ok (Rs.lr (w.heap.size + 1) w.heap.size (rec .ready)) (by simp)
      have he := run_endLoop (P := P) hl (by rw [hrec]; simp)
      refine ⟨none, w2.putObj (w.heap.size + 1) (.loop { rec .ready with state := .exhausted }), by rw [he, hrec], ?_⟩
      have := hdone a M' H' _ w.heap.size (w.heap.size + 1) _ ha hle (lr_put (rc' := { rec .ready with state := .exhausted }) S') hI
      rw [hdf]
      exact this
theorem lr_take {l D : Nat} {rc : Loop} {Hs : List Rs} (S : SH w M X (Rs.lr l D rc :: Hs)) : SH (w.putObj D (.deferred none)) M X Hs := by
  obtain ⟨h1, h2⟩ := S.ok (Rs.lr l D rc) (by simp)
  have S2 : SH (w.putObj D (.deferred none)) M X (Rs.emp :: Hs) := S.step (i := 0) (r := Rs.lr l D rc) rfl rfl ⟨rfl, rfl, rfl, by simp [World.putObj]⟩ (fun b _ hb => World.putObj_heap_other (fun e => hb (by rw [e]; simp [Rs.lr]))) trivial (fun b hb => by cases hb)
  exact S2.suf (N := [Rs.emp])
theorem tail_la {fn : Func} {R : Ending → World → Prop} (hC : C.Q = bodyPostM Fence.wide 0 P fn R) {i : Nat} {o1 o2 : Oper} (hc : c = .seq (.region i #[o1, o2] false) .ret) {x : Operand} {T d1 d2 l D : Nat} {p : Addr} {v : Value} {dd : TypeDesc} {rc : Loop} {Hs : List Rs} {a : Act}
    (h1 : o1.op = .load T x) (g1 : o1.guard = none) (e1 : o1.dst = some d1) (h2 : o2.op = .assign (.tmp d1)) (g2 : o2.guard = none) (e2 : o2.dst = some d2) (ha : Env n L a) (hx : oev L x = some (.pointer (some p))) (hu : P.underlying T = some dd) (hd : flatD dd = true) (hn1 : Nat.blt d1 n = true) (hn2 : Nat.blt d2 n = true)
    (hres : fn.results = #[.tmp d2]) (S : SH w M X (Rs.lr l D rc :: Hs)) (hcell : w.cell? p = some v) (hR : ∀ w', SH w' M X Hs → R (.returned v) w') : c.wpIn C.F 0 P C.Q { a with defers := [{ target := .collected D, args := #[] }] } w := by
  subst hc
  obtain ⟨_, hD⟩ := S.ok (Rs.lr l D rc) (by simp)
  have r1 : (execOp a.eval o1).run P w = .ok (.value v) w := U3 h1 hx hu hd hcell n a ha
  have ha1 := ha.put (d := d1) (by simpa using hn1) v
  have r2 : (execOp (a.put (some d1) v).eval o2).run P w = .ok (.value v) w := run_assign h2 (by simp [oev, lk]) n _ ha1
  have ha2 := ha1.put (d := d2) (by simpa using hn2) v
  refine wpIn_seq ?_
  refine wpIn_region_list ?_
  show wpListIn C.F 0 P #[o1, o2] _ [o1, o2] _ w
  refine wpListIn_plain g1 fun K hK => ?_
  refine ⟨fun f _ => C.F_fn f, ?_⟩
  rw [Oper.semAt_eq _ _ _ (fun c e => by rw [e] at h1; cases h1), show (execOp ({ a with defers := [{ target := .collected D, args := #[] }] } : Act).eval o1).run P w = .ok (.value v) w from r1, Oper.uponIn_value, e1]
  refine hK _ _ ?_
  refine wpListIn_plain g2 fun K2 hK2 => ?_
  refine ⟨fun f _ => C.F_fn f, ?_⟩
  rw [Oper.semAt_eq _ _ _ (fun c e => by rw [e] at h2; cases h2), show (execOp (({ a with defers := [{ target := .collected D, args := #[] }] } : Act).put (some d1) v).eval o2).run P w = .ok (.value v) w from r2, Oper.uponIn_value, e2]
  refine hK2 _ _ ?_
  refine wpListIn_nil ?_
  refine wpIn_ret ?_
  rw [hC]
  refine ⟨by simp, .inl ⟨D, _, rfl, run_takeDeferred hD, ?_⟩⟩
  refine ⟨v, ?_, hR _ (lr_take S)⟩
  have hz := ha.sz
  have hd2 : d2 < n := by simpa using hn2
  simp only [Act.put]
  simp [results, hres]
  intro h
  omega
end
end InF
end Go.Proofs.YthppkofceancjaaGreat
namespace Go.Proofs.YthppkofceancjaaGreat
open Go.ChangeShapes Go.WideShapes Go.ChangeAt Go.RowKit
theorem sz3 : (Tryz.prog.info? 3).map (·.size) = some 1 := by kernel_rfl
theorem ce3 : Nat.blt 0 (Tryz.prog.cellsOf 3) = true := by kernel_rfl
theorem nf3 : ∃ i, Tryz.prog.info? 3 = some i := Option.isSome_iff_exists.1 (by kernel_rfl)
theorem zr3 : (Tryz.prog.info? 3).map (·.zero) = some (some (.int .i64 0)) := by kernel_rfl
theorem sz4 : (Tryz.prog.info? 4).map (·.size) = some 1 := by kernel_rfl
theorem ce4 : Nat.blt 0 (Tryz.prog.cellsOf 4) = true := by kernel_rfl
theorem nf4 : ∃ i, Tryz.prog.info? 4 = some i := Option.isSome_iff_exists.1 (by kernel_rfl)
theorem zr4 : (Tryz.prog.info? 4).map (·.zero) = some (some (.bool false)) := by kernel_rfl
theorem sz22 : (Tryz.prog.info? 22).map (·.size) = some 1 := by kernel_rfl
theorem ce22 : Nat.blt 0 (Tryz.prog.cellsOf 22) = true := by kernel_rfl
theorem nf22 : ∃ i, Tryz.prog.info? 22 = some i := Option.isSome_iff_exists.1 (by kernel_rfl)
theorem sz24 : (Tryz.prog.info? 24).map (·.size) = some 2 := by kernel_rfl
theorem ce24 : Nat.blt 0 (Tryz.prog.cellsOf 24) = true := by kernel_rfl
theorem nf24 : ∃ i, Tryz.prog.info? 24 = some i := Option.isSome_iff_exists.1 (by kernel_rfl)
theorem zr24 : (Tryz.prog.info? 24).map (·.zero) = some (some (.agg [.slice none 0 0, .int .i64 0].toArray)) := by kernel_rfl
theorem st24 : StOf Tryz.prog 24 [(0, 1), (1, 1)] [.slice none 0 0, .int .i64 0] := ⟨_, uT24, by kernel_rfl, ⟨⟨rfl, by kernel_rfl⟩, ⟨rfl, by kernel_rfl⟩, trivial⟩⟩
theorem sz26 : (Tryz.prog.info? 26).map (·.size) = some 2 := by kernel_rfl
theorem ce26 : Nat.blt 0 (Tryz.prog.cellsOf 26) = true := by kernel_rfl
theorem nf26 : ∃ i, Tryz.prog.info? 26 = some i := Option.isSome_iff_exists.1 (by kernel_rfl)
theorem zr26 : (Tryz.prog.info? 26).map (·.zero) = some (some (.agg [.int .i64 0, .bool false].toArray)) := by kernel_rfl
theorem st26 : StOf Tryz.prog 26 [(0, 1), (1, 1)] [.int .i64 0, .bool false] := ⟨_, uT26, by kernel_rfl, ⟨⟨rfl, by kernel_rfl⟩, ⟨rfl, by kernel_rfl⟩, trivial⟩⟩
theorem sz28 : (Tryz.prog.info? 28).map (·.size) = some 8 := by kernel_rfl
theorem sz29 : (Tryz.prog.info? 29).map (·.size) = some 1 := by kernel_rfl
theorem ce29 : Nat.blt 0 (Tryz.prog.cellsOf 29) = true := by kernel_rfl
theorem nf29 : ∃ i, Tryz.prog.info? 29 = some i := Option.isSome_iff_exists.1 (by kernel_rfl)
theorem zr29 : (Tryz.prog.info? 29).map (·.zero) = some (some (.int .i64 0)) := by kernel_rfl
theorem sz53 : (Tryz.prog.info? 53).map (·.size) = some 1 := by kernel_rfl
theorem zr53 : (Tryz.prog.info? 53).map (·.zero) = some (some (.slice none 0 0)) := by kernel_rfl
theorem sz62 : (Tryz.prog.info? 62).map (·.size) = some 1 := by kernel_rfl
theorem zr62 : (Tryz.prog.info? 62).map (·.zero) = some (some (.agg [.int .i64 0].toArray)) := by kernel_rfl
theorem st62 : StOf Tryz.prog 62 [(0, 1)] [.int .i64 0] := ⟨_, uT62, by kernel_rfl, ⟨⟨rfl, by kernel_rfl⟩, trivial⟩⟩
theorem ce64 : Nat.blt 0 (Tryz.prog.cellsOf 64) = true := by kernel_rfl
theorem nf64 : ∃ i, Tryz.prog.info? 64 = some i := Option.isSome_iff_exists.1 (by kernel_rfl)
theorem sz65 : (Tryz.prog.info? 65).map (·.size) = some 1 := by kernel_rfl
theorem ce65 : Nat.blt 0 (Tryz.prog.cellsOf 65) = true := by kernel_rfl
theorem nf65 : ∃ i, Tryz.prog.info? 65 = some i := Option.isSome_iff_exists.1 (by kernel_rfl)
theorem zr65 : (Tryz.prog.info? 65).map (·.zero) = some (some (.slice none 0 0)) := by kernel_rfl
theorem st67 : StOf Tryz.prog 67 [(0, 1), (1, 1)] [.pointer none, .slice none 0 0] := ⟨_, uT67, by kernel_rfl, ⟨⟨rfl, by kernel_rfl⟩, ⟨rfl, by kernel_rfl⟩, trivial⟩⟩
theorem ce68 : Nat.blt 0 (Tryz.prog.cellsOf 68) = true := by kernel_rfl
theorem nf68 : ∃ i, Tryz.prog.info? 68 = some i := Option.isSome_iff_exists.1 (by kernel_rfl)
theorem sz77 : (Tryz.prog.info? 77).map (·.size) = some 5 := by kernel_rfl
theorem zr77 : (Tryz.prog.info? 77).map (·.zero) = some (some (.agg [.int .i64 0, .int .i64 0, .int .i64 0, .int .i64 0, .bool false].toArray)) := by kernel_rfl
theorem st77 : StOf Tryz.prog 77 [(0, 1), (1, 1), (2, 1), (3, 1), (4, 1)] [.int .i64 0, .int .i64 0, .int .i64 0, .int .i64 0, .bool false] := ⟨_, uT77, by kernel_rfl, ⟨⟨rfl, by kernel_rfl⟩, ⟨rfl, by kernel_rfl⟩, ⟨rfl, by kernel_rfl⟩, ⟨rfl, by kernel_rfl⟩, ⟨rfl, by kernel_rfl⟩, trivial⟩⟩
theorem sz120 : (Tryz.prog.info? 120).map (·.size) = some 2 := by kernel_rfl
theorem zr120 : (Tryz.prog.info? 120).map (·.zero) = some (some (.agg [.int .i64 0, .int .i64 0].toArray)) := by kernel_rfl
theorem st120 : StOf Tryz.prog 120 [(0, 1), (1, 1)] [.int .i64 0, .int .i64 0] := ⟨_, uT120, by kernel_rfl, ⟨⟨rfl, by kernel_rfl⟩, ⟨rfl, by kernel_rfl⟩, trivial⟩⟩
theorem sz128 : (Tryz.prog.info? 128).map (·.size) = some 2 := by kernel_rfl
theorem zr128 : (Tryz.prog.info? 128).map (·.zero) = some (some (.agg [.int .i64 0, .int .i64 0].toArray)) := by kernel_rfl
theorem sz150 : (Tryz.prog.info? 150).map (·.size) = some 3 := by kernel_rfl
theorem zr150 : (Tryz.prog.info? 150).map (·.zero) = some (some (.agg [.int .i64 0, .int .i64 0, .int .i64 0].toArray)) := by kernel_rfl
theorem sz190 : (Tryz.prog.info? 190).map (·.size) = some 2 := by kernel_rfl
theorem zr190 : (Tryz.prog.info? 190).map (·.zero) = some (some (.agg [.int .i64 0, .int .i64 0].toArray)) := by kernel_rfl
theorem st190 : StOf Tryz.prog 190 [(0, 1), (1, 1)] [.int .i64 0, .int .i64 0] := ⟨_, uT190, by kernel_rfl, ⟨⟨rfl, by kernel_rfl⟩, ⟨rfl, by kernel_rfl⟩, trivial⟩⟩
theorem sz192 : (Tryz.prog.info? 192).map (·.size) = some 1 := by kernel_rfl
theorem zr192 : (Tryz.prog.info? 192).map (·.zero) = some (some (.map none)) := by kernel_rfl
theorem sz208 : (Tryz.prog.info? 208).map (·.size) = some 4 := by kernel_rfl
theorem zr208 : (Tryz.prog.info? 208).map (·.zero) = some (some (.agg [.int .i64 0, .int .i64 0, .int .i64 0, .int .i64 0].toArray)) := by kernel_rfl
theorem sz222 : (Tryz.prog.info? 222).map (·.size) = some 4 := by kernel_rfl
theorem zr222 : (Tryz.prog.info? 222).map (·.zero) = some (some (.agg [.int .i64 0, .int .i64 0, .int .i64 0, .int .i64 0].toArray)) := by kernel_rfl
theorem zr249 : (Tryz.prog.info? 249).map (·.zero) = some (some (.agg [.bool false, .bool false].toArray)) := by kernel_rfl
theorem sz251 : (Tryz.prog.info? 251).map (·.size) = some 1 := by kernel_rfl
theorem zr252 : (Tryz.prog.info? 252).map (·.zero) = some (some (.agg [.pointer none, .pointer none, .pointer none, .pointer none].toArray)) := by kernel_rfl
theorem cf8 : ∀ args w, (callFunc 8 args).run Tryz.prog w = .ok (.enter 8 args) w := Un (c := Tryz.f8.body.getD .skip) Tryz.func8 (by decide) rfl
theorem cf9 : ∀ args w, (callFunc 9 args).run Tryz.prog w = .ok (.enter 9 args) w := Un (c := Tryz.f9.body.getD .skip) Tryz.func9 (by decide) rfl
theorem cf10 : ∀ args w, (callFunc 10 args).run Tryz.prog w = .ok (.enter 10 args) w := Un (c := Tryz.f10.body.getD .skip) Tryz.func10 (by decide) rfl
theorem cf11 : ∀ args w, (callFunc 11 args).run Tryz.prog w = .ok (.enter 11 args) w := Un (c := Tryz.f11.body.getD .skip) Tryz.func11 (by decide) rfl
theorem cf25 : ∀ args w, (callFunc 25 args).run Tryz.prog w = .ok (.enter 25 args) w := Un (c := Tryz.f25.body.getD .skip) Tryz.func25 (by decide) rfl
theorem cf28 : ∀ args w, (callFunc 28 args).run Tryz.prog w = .ok (.enter 28 args) w := Un (c := Tryz.f28.body.getD .skip) Tryz.func28 (by decide) rfl
theorem cf29 : ∀ args w, (callFunc 29 args).run Tryz.prog w = .ok (.enter 29 args) w := Un (c := Tryz.f29.body.getD .skip) Tryz.func29 (by decide) rfl
theorem cf30 : ∀ args w, (callFunc 30 args).run Tryz.prog w = .ok (.enter 30 args) w := Un (c := Tryz.f30.body.getD .skip) Tryz.func30 (by decide) rfl
theorem cf31 : ∀ args w, (callFunc 31 args).run Tryz.prog w = .ok (.enter 31 args) w := Un (c := Tryz.f31.body.getD .skip) Tryz.func31 (by decide) rfl
theorem cf32 : ∀ args w, (callFunc 32 args).run Tryz.prog w = .ok (.enter 32 args) w := Un (c := Tryz.f32.body.getD .skip) Tryz.func32 (by decide) rfl
theorem cf33 : ∀ args w, (callFunc 33 args).run Tryz.prog w = .ok (.enter 33 args) w := Un (c := Tryz.f33.body.getD .skip) Tryz.func33 (by decide) rfl
theorem cf34 : ∀ args w, (callFunc 34 args).run Tryz.prog w = .ok (.enter 34 args) w := Un (c := Tryz.f34.body.getD .skip) Tryz.func34 (by decide) rfl
theorem cf35 : ∀ args w, (callFunc 35 args).run Tryz.prog w = .ok (.enter 35 args) w := Un (c := Tryz.f35.body.getD .skip) Tryz.func35 (by decide) rfl
theorem cf36 : ∀ args w, (callFunc 36 args).run Tryz.prog w = .ok (.enter 36 args) w := Un (c := Tryz.f36.body.getD .skip) Tryz.func36 (by decide) rfl
theorem cf37 : ∀ args w, (callFunc 37 args).run Tryz.prog w = .ok (.enter 37 args) w := Un (c := Tryz.f37.body.getD .skip) Tryz.func37 (by decide) rfl
theorem cf38 : ∀ args w, (callFunc 38 args).run Tryz.prog w = .ok (.enter 38 args) w := Un (c := Tryz.f38.body.getD .skip) Tryz.func38 (by decide) rfl
theorem cf39 : ∀ args w, (callFunc 39 args).run Tryz.prog w = .ok (.enter 39 args) w := Un (c := Tryz.f39.body.getD .skip) Tryz.func39 (by decide) rfl
theorem cf60 : ∀ args w, (callFunc 60 args).run Tryz.prog w = .ok (.enter 60 args) w := Un (c := Tryz.f60.body.getD .skip) Tryz.func60 (by decide) rfl
theorem cf64 : ∀ args w, (callFunc 64 args).run Tryz.prog w = .ok (.enter 64 args) w := Un (c := Tryz.f64.body.getD .skip) Tryz.func64 (by decide) rfl
theorem cf65 : ∀ args w, (callFunc 65 args).run Tryz.prog w = .ok (.enter 65 args) w := Un (c := Tryz.f65.body.getD .skip) Tryz.func65 (by decide) rfl
theorem cf66 : ∀ args w, (callFunc 66 args).run Tryz.prog w = .ok (.enter 66 args) w := Un (c := Tryz.f66.body.getD .skip) Tryz.func66 (by decide) rfl
theorem cf67 : ∀ args w, (callFunc 67 args).run Tryz.prog w = .ok (.enter 67 args) w := Un (c := Tryz.f67.body.getD .skip) Tryz.func67 (by decide) rfl
theorem cf68 : ∀ args w, (callFunc 68 args).run Tryz.prog w = .ok (.enter 68 args) w := Un (c := Tryz.f68.body.getD .skip) Tryz.func68 (by decide) rfl
theorem cf69 : ∀ args w, (callFunc 69 args).run Tryz.prog w = .ok (.enter 69 args) w := Un (c := Tryz.f69.body.getD .skip) Tryz.func69 (by decide) rfl
theorem cf70 : ∀ args w, (callFunc 70 args).run Tryz.prog w = .ok (.enter 70 args) w := Un (c := Tryz.f70.body.getD .skip) Tryz.func70 (by decide) rfl
theorem cf71 : ∀ args w, (callFunc 71 args).run Tryz.prog w = .ok (.enter 71 args) w := Un (c := Tryz.f71.body.getD .skip) Tryz.func71 (by decide) rfl
theorem cf72 : ∀ args w, (callFunc 72 args).run Tryz.prog w = .ok (.enter 72 args) w := Un (c := Tryz.f72.body.getD .skip) Tryz.func72 (by decide) rfl
theorem cf73 : ∀ args w, (callFunc 73 args).run Tryz.prog w = .ok (.enter 73 args) w := Un (c := Tryz.f73.body.getD .skip) Tryz.func73 (by decide) rfl
theorem cf74 : ∀ args w, (callFunc 74 args).run Tryz.prog w = .ok (.enter 74 args) w := Un (c := Tryz.f74.body.getD .skip) Tryz.func74 (by decide) rfl
theorem cf75 : ∀ args w, (callFunc 75 args).run Tryz.prog w = .ok (.enter 75 args) w := Un (c := Tryz.f75.body.getD .skip) Tryz.func75 (by decide) rfl
theorem cf76 : ∀ args w, (callFunc 76 args).run Tryz.prog w = .ok (.enter 76 args) w := Un (c := Tryz.f76.body.getD .skip) Tryz.func76 (by decide) rfl
theorem cf77 : ∀ args w, (callFunc 77 args).run Tryz.prog w = .ok (.enter 77 args) w := Un (c := Tryz.f77.body.getD .skip) Tryz.func77 (by decide) rfl
theorem cf78 : ∀ args w, (callFunc 78 args).run Tryz.prog w = .ok (.enter 78 args) w := Un (c := Tryz.f78.body.getD .skip) Tryz.func78 (by decide) rfl
theorem cf79 : ∀ args w, (callFunc 79 args).run Tryz.prog w = .ok (.enter 79 args) w := Un (c := Tryz.f79.body.getD .skip) Tryz.func79 (by decide) rfl
theorem cf80 : ∀ args w, (callFunc 80 args).run Tryz.prog w = .ok (.enter 80 args) w := Un (c := Tryz.f80.body.getD .skip) Tryz.func80 (by decide) rfl
theorem cf81 : ∀ args w, (callFunc 81 args).run Tryz.prog w = .ok (.enter 81 args) w := Un (c := Tryz.f81.body.getD .skip) Tryz.func81 (by decide) rfl
theorem cf87 : ∀ args w, (callFunc 87 args).run Tryz.prog w = .ok (.enter 87 args) w := Un (c := Tryz.f87.body.getD .skip) Tryz.func87 (by decide) rfl
theorem cf105 : ∀ args w, (callFunc 105 args).run Tryz.prog w = .ok (.enter 105 args) w := Un (c := Tryz.f105.body.getD .skip) Tryz.func105 (by decide) rfl
theorem cf106 : ∀ args w, (callFunc 106 args).run Tryz.prog w = .ok (.enter 106 args) w := Un (c := Tryz.f106.body.getD .skip) Tryz.func106 (by decide) rfl
theorem cf107 : ∀ args w, (callFunc 107 args).run Tryz.prog w = .ok (.enter 107 args) w := Un (c := Tryz.f107.body.getD .skip) Tryz.func107 (by decide) rfl
theorem cf108 : ∀ args w, (callFunc 108 args).run Tryz.prog w = .ok (.enter 108 args) w := Un (c := Tryz.f108.body.getD .skip) Tryz.func108 (by decide) rfl
theorem cf109 : ∀ args w, (callFunc 109 args).run Tryz.prog w = .ok (.enter 109 args) w := Un (c := Tryz.f109.body.getD .skip) Tryz.func109 (by decide) rfl
theorem cf110 : ∀ args w, (callFunc 110 args).run Tryz.prog w = .ok (.enter 110 args) w := Un (c := Tryz.f110.body.getD .skip) Tryz.func110 (by decide) rfl
theorem cf111 : ∀ args w, (callFunc 111 args).run Tryz.prog w = .ok (.enter 111 args) w := Un (c := Tryz.f111.body.getD .skip) Tryz.func111 (by decide) rfl
theorem cf112 : ∀ args w, (callFunc 112 args).run Tryz.prog w = .ok (.enter 112 args) w := Un (c := Tryz.f112.body.getD .skip) Tryz.func112 (by decide) rfl
theorem cf113 : ∀ args w, (callFunc 113 args).run Tryz.prog w = .ok (.enter 113 args) w := Un (c := Tryz.f113.body.getD .skip) Tryz.func113 (by decide) rfl
theorem cf114 : ∀ args w, (callFunc 114 args).run Tryz.prog w = .ok (.enter 114 args) w := Un (c := Tryz.f114.body.getD .skip) Tryz.func114 (by decide) rfl
theorem cf115 : ∀ args w, (callFunc 115 args).run Tryz.prog w = .ok (.enter 115 args) w := Un (c := Tryz.f115.body.getD .skip) Tryz.func115 (by decide) rfl
theorem cf116 : ∀ args w, (callFunc 116 args).run Tryz.prog w = .ok (.enter 116 args) w := Un (c := Tryz.f116.body.getD .skip) Tryz.func116 (by decide) rfl
theorem cf117 : ∀ args w, (callFunc 117 args).run Tryz.prog w = .ok (.enter 117 args) w := Un (c := Tryz.f117.body.getD .skip) Tryz.func117 (by decide) rfl
theorem cf118 : ∀ args w, (callFunc 118 args).run Tryz.prog w = .ok (.enter 118 args) w := Un (c := Tryz.f118.body.getD .skip) Tryz.func118 (by decide) rfl
theorem cf119 : ∀ args w, (callFunc 119 args).run Tryz.prog w = .ok (.enter 119 args) w := Un (c := Tryz.f119.body.getD .skip) Tryz.func119 (by decide) rfl
theorem cf120 : ∀ args w, (callFunc 120 args).run Tryz.prog w = .ok (.enter 120 args) w := Un (c := Tryz.f120.body.getD .skip) Tryz.func120 (by decide) rfl
theorem cf121 : ∀ args w, (callFunc 121 args).run Tryz.prog w = .ok (.enter 121 args) w := Un (c := Tryz.f121.body.getD .skip) Tryz.func121 (by decide) rfl
theorem cf122 : ∀ args w, (callFunc 122 args).run Tryz.prog w = .ok (.enter 122 args) w := Un (c := Tryz.f122.body.getD .skip) Tryz.func122 (by decide) rfl
theorem cf123 : ∀ args w, (callFunc 123 args).run Tryz.prog w = .ok (.enter 123 args) w := Un (c := Tryz.f123.body.getD .skip) Tryz.func123 (by decide) rfl
theorem cf124 : ∀ args w, (callFunc 124 args).run Tryz.prog w = .ok (.enter 124 args) w := Un (c := Tryz.f124.body.getD .skip) Tryz.func124 (by decide) rfl
theorem cf125 : ∀ args w, (callFunc 125 args).run Tryz.prog w = .ok (.enter 125 args) w := Un (c := Tryz.f125.body.getD .skip) Tryz.func125 (by decide) rfl
theorem cf126 : ∀ args w, (callFunc 126 args).run Tryz.prog w = .ok (.enter 126 args) w := Un (c := Tryz.f126.body.getD .skip) Tryz.func126 (by decide) rfl
theorem cf127 : ∀ args w, (callFunc 127 args).run Tryz.prog w = .ok (.enter 127 args) w := Un (c := Tryz.f127.body.getD .skip) Tryz.func127 (by decide) rfl
theorem cf128 : ∀ args w, (callFunc 128 args).run Tryz.prog w = .ok (.enter 128 args) w := Un (c := Tryz.f128.body.getD .skip) Tryz.func128 (by decide) rfl
theorem cf129 : ∀ args w, (callFunc 129 args).run Tryz.prog w = .ok (.enter 129 args) w := Un (c := Tryz.f129.body.getD .skip) Tryz.func129 (by decide) rfl
theorem cf130 : ∀ args w, (callFunc 130 args).run Tryz.prog w = .ok (.enter 130 args) w := Un (c := Tryz.f130.body.getD .skip) Tryz.func130 (by decide) rfl
theorem cf131 : ∀ args w, (callFunc 131 args).run Tryz.prog w = .ok (.enter 131 args) w := Un (c := Tryz.f131.body.getD .skip) Tryz.func131 (by decide) rfl
theorem cf133 : ∀ args w, (callFunc 133 args).run Tryz.prog w = .ok (.enter 133 args) w := Un (c := Tryz.f133.body.getD .skip) Tryz.func133 (by decide) rfl
theorem cf136 : ∀ args w, (callFunc 136 args).run Tryz.prog w = .ok (.enter 136 args) w := Un (c := Tryz.f136.body.getD .skip) Tryz.func136 (by decide) rfl
theorem cf137 : ∀ args w, (callFunc 137 args).run Tryz.prog w = .ok (.enter 137 args) w := Un (c := Tryz.f137.body.getD .skip) Tryz.func137 (by decide) rfl
theorem cf138 : ∀ args w, (callFunc 138 args).run Tryz.prog w = .ok (.enter 138 args) w := Un (c := Tryz.f138.body.getD .skip) Tryz.func138 (by decide) rfl
theorem cf139 : ∀ args w, (callFunc 139 args).run Tryz.prog w = .ok (.enter 139 args) w := Un (c := Tryz.f139.body.getD .skip) Tryz.func139 (by decide) rfl
theorem cf143 : ∀ args w, (callFunc 143 args).run Tryz.prog w = .ok (.enter 143 args) w := Un (c := Tryz.f143.body.getD .skip) Tryz.func143 (by decide) rfl
theorem cf149 : ∀ args w, (callFunc 149 args).run Tryz.prog w = .ok (.enter 149 args) w := Un (c := Tryz.f149.body.getD .skip) Tryz.func149 (by decide) rfl
theorem cf163 : ∀ args w, (callFunc 163 args).run Tryz.prog w = .ok (.enter 163 args) w := Un (c := Tryz.f163.body.getD .skip) Tryz.func163 (by decide) rfl
theorem cf164 : ∀ args w, (callFunc 164 args).run Tryz.prog w = .ok (.enter 164 args) w := Un (c := Tryz.f164.body.getD .skip) Tryz.func164 (by decide) rfl
theorem cf165 : ∀ args w, (callFunc 165 args).run Tryz.prog w = .ok (.enter 165 args) w := Un (c := Tryz.f165.body.getD .skip) Tryz.func165 (by decide) rfl
theorem cf166 : ∀ args w, (callFunc 166 args).run Tryz.prog w = .ok (.enter 166 args) w := Un (c := Tryz.f166.body.getD .skip) Tryz.func166 (by decide) rfl
theorem cf167 : ∀ args w, (callFunc 167 args).run Tryz.prog w = .ok (.enter 167 args) w := Un (c := Tryz.f167.body.getD .skip) Tryz.func167 (by decide) rfl
theorem cf168 : ∀ args w, (callFunc 168 args).run Tryz.prog w = .ok (.enter 168 args) w := Un (c := Tryz.f168.body.getD .skip) Tryz.func168 (by decide) rfl
theorem cf169 : ∀ args w, (callFunc 169 args).run Tryz.prog w = .ok (.enter 169 args) w := Un (c := Tryz.f169.body.getD .skip) Tryz.func169 (by decide) rfl
theorem cf170 : ∀ args w, (callFunc 170 args).run Tryz.prog w = .ok (.enter 170 args) w := Un (c := Tryz.f170.body.getD .skip) Tryz.func170 (by decide) rfl
end Go.Proofs.YthppkofceancjaaGreat
namespace Go.Proofs.YthppkofceancjaaGreat
open Go.ChangeShapes Go.WideShapes Go.ChangeAt Go.RowKit
theorem mk3 : MapK Tryz.prog 3 (Value.int .i64) := mapK_int uT3
theorem se26 : StEq Tryz.prog 26 [(0, false), (1, true)] := ⟨[_, _], uT26, ⟨⟨by kernel_rfl, rfl, ⟨_, uT3⟩⟩, ⟨by kernel_rfl, rfl, uT4⟩, trivial⟩, by kernel_rfl, by kernel_rfl⟩
theorem se190 : StEq Tryz.prog 190 [(0, false), (1, false)] := ⟨[_, _], uT190, ⟨⟨by kernel_rfl, rfl, ⟨_, uT3⟩⟩, ⟨by kernel_rfl, rfl, ⟨_, uT3⟩⟩, trivial⟩, by kernel_rfl, by kernel_rfl⟩
theorem sl53 : SlOf Tryz.prog 53 Uv := ⟨.int .i64 0, uT53, by kernel_rfl, rfl, by decide, by decide⟩
theorem sl65 : SlOf Tryz.prog 65 (cdV 141) := ⟨.slice none 0 0, uT65, by kernel_rfl, rfl, by decide, by decide⟩
theorem sl103 : SlOf Tryz.prog 103 (cdV 53) := ⟨.slice none 0 0, uT103, by kernel_rfl, rfl, by decide, by decide⟩
theorem sl130 : SlOf Tryz.prog 130 U2f := ⟨.bool false, uT130, by kernel_rfl, rfl, by decide, by decide⟩
end Go.Proofs.YthppkofceancjaaGreat
namespace Go.Proofs.YthppkofceancjaaGreat
open Go.ChangeShapes Go.WideShapes Go.ChangeAt Go.RowKit
def md (x : Int) : Int := x % 18446744073709551616
theorem wr_md {x y : Int} : wr x = wr y ↔ md x = md y := by unfold wr md; rw [IntKind.wrap_i64, IntKind.wrap_i64]; omega
theorem md_wr (x : Int) : md (wr x) = md x := by unfold wr md; rw [IntKind.wrap_i64]; omega
theorem wr_idem (x : Int) : wr (wr x) = wr x := wr_md.2 (md_wr x)
theorem md_add {a b c d : Int} (h : md a = md b) (k : md c = md d) : md (a + c) = md (b + d) := by
  unfold md at *; omega
theorem md_neg {a b : Int} (h : md a = md b) : md (-a) = md (-b) := by
  unfold md at *; omega
theorem md_mul {a b c d : Int} (h : md a = md b) (k : md c = md d) : md (a * c) = md (b * d) := by
  unfold md at *
  rw [Int.mul_emod, h, k, ← Int.mul_emod]
theorem wr_add2 (x y : Int) : wr (x + wr y) = wr (x + y) := wr_md.2 (md_add rfl (md_wr y))
abbrev Tms := List (Int × Int)
def ev : Tms → (Int → Int) → Int
  | [], _ => 0
  | p :: r, φ => p.2 * φ (wr p.1) + ev r φ
theorem U3p (P Q : Tms) (φ : Int → Int) : ev (P ++ Q) φ = ev P φ + ev Q φ := by
  induction P with
  | nil => simp [ev]
  | cons p P ih => simp only [List.cons_append, ev, ih]; omega
theorem ev_add (P : Tms) (φ ψ : Int → Int) : ev P (fun x => φ x + ψ x) = ev P φ + ev P ψ := by
  induction P with
  | nil => rfl
  | cons p P ih => simp only [ev, ih, Int.mul_add]; omega
theorem ev_zero (P : Tms) : ev P (fun _ => 0) = 0 := by
  induction P with
  | nil => rfl
  | cons p P ih => simp only [ev, ih]; omega
theorem ev_mul (P : Tms) (c : Int) (φ : Int → Int) : ev P (fun x => c * φ x) = c * ev P φ := by
  induction P with
  | nil => simp [ev]
  | cons p P ih => simp only [ev, ih, Int.mul_add, Int.mul_left_comm]
theorem ev_swap (P Q : Tms) (ψ : Int → Int → Int) : ev P (fun x => ev Q (ψ x)) = ev Q (fun y => ev P (fun x => ψ x y)) := by
  induction P with
  | nil => simp only [ev]; rw [ev_zero]
  | cons p P ih => simp only [ev]; rw [ih, ev_add, ev_mul]
theorem ev_cong (P : Tms) {φ ψ : Int → Int} (h : ∀ x, md (φ x) = md (ψ x)) : md (ev P φ) = md (ev P ψ) := by
  induction P with
  | nil => rfl
  | cons p P ih => exact md_add (md_mul rfl (h _)) ih
theorem ev_map (P : Tms) (f : Int × Int → Int × Int) (c : Int) (g : Int → Int) (hf : ∀ p, (f p).2 = p.2 * c) (hg : ∀ p : Int × Int, wr (f p).1 = g (wr p.1)) (φ : Int → Int) : ev (P.map f) φ = c * ev P (fun x => φ (g x)) := by
  induction P with
  | nil => simp [ev]
  | cons p P ih => simp only [List.map_cons, ev, ih, hf, hg, Int.mul_add]; rw [Int.mul_comm p.2 c, Int.mul_assoc]
def eqv (P Q : Tms) : Prop := ∀ φ, md (ev P φ) = md (ev Q φ)
theorem eqv.refl (P : Tms) : eqv P P := fun _ => rfl
theorem eqv.symm {P Q : Tms} (h : eqv P Q) : eqv Q P := fun φ => (h φ).symm
theorem eqv.trans {P Q R : Tms} (h : eqv P Q) (k : eqv Q R) : eqv P R := fun φ => (h φ).trans (k φ)
def negT (P : Tms) : Tms := P.map fun p => (p.1, -p.2)
theorem ev_negT (P : Tms) (φ : Int → Int) : ev (negT P) φ = - ev P φ := by
  have := ev_map P (fun p => (p.1, -p.2)) (-1) id (fun p => by simp only; omega) (fun p => rfl) φ
  unfold negT
  rw [this]
  show -1 * ev P φ = _
  omega
def prodT (P Q : Tms) : Tms := P.flatMap fun p => Q.map fun q => (p.1 + q.1, p.2 * q.2)
theorem U3w (P Q : Tms) (φ : Int → Int) : ev (prodT P Q) φ = ev P (fun x => ev Q (fun y => φ (wr (x + y)))) := by
  induction P with
  | nil => rfl
  | cons p P ih =>
    have e : ∀ Q : Tms, ev (Q.map fun q => (p.1 + q.1, p.2 * q.2)) φ = p.2 * ev Q (fun y => φ (wr (wr p.1 + y))) := fun Q => by
      have := ev_map Q (fun q => (p.1 + q.1, p.2 * q.2)) p.2 (fun y => wr (wr p.1 + y)) (fun q => Int.mul_comm _ _) (fun q => by simp only; rw [wr_add2, wr_wr]) φ
      exact this
    show ev ((Q.map fun q => (p.1 + q.1, p.2 * q.2)) ++ prodT P Q) φ = _
    rw [U3p, ih, e]
    rfl
theorem eqv_append {P P' Q Q' : Tms} (h : eqv P P') (k : eqv Q Q') : eqv (P ++ Q) (P' ++ Q') := fun φ => by
  rw [U3p, U3p]; exact md_add (h φ) (k φ)
theorem eqv_prod {P P' Q Q' : Tms} (h : eqv P P') (k : eqv Q Q') : eqv (prodT P Q) (prodT P' Q') := fun φ => by
  rw [U3w, U3w]
  exact (h _).trans (ev_cong _ fun x => k _)
theorem eqv_neg {P P' : Tms} (h : eqv P P') : eqv (negT P) (negT P') := fun φ => by
  rw [ev_negT, ev_negT]; exact md_neg (h φ)
def polS : Setoid Tms := ⟨eqv, eqv.refl, eqv.symm, eqv.trans⟩
def Pol := Quotient polS
def mk (P : Tms) : Pol := Quotient.mk polS P
theorem mk_eq {P Q : Tms} (h : eqv P Q) : mk P = mk Q := Quotient.sound (s := polS) h
theorem Pol.ind {p : Pol → Prop} (h : ∀ P, p (mk P)) (x : Pol) : p x := Quotient.ind (s := polS) h x
def Pol.add (x y : Pol) : Pol := Quotient.liftOn₂ (s₁ := polS) (s₂ := polS) x y (fun P Q => mk (P ++ Q)) fun _ _ _ _ h k => mk_eq (eqv_append h k)
def Pol.mul (x y : Pol) : Pol := Quotient.liftOn₂ (s₁ := polS) (s₂ := polS) x y (fun P Q => mk (prodT P Q)) fun _ _ _ _ h k => mk_eq (eqv_prod h k)
def Pol.neg (x : Pol) : Pol := Quotient.liftOn (s := polS) x (fun P => mk (negT P)) fun _ _ h => mk_eq (eqv_neg h)
instance : Add Pol := ⟨Pol.add⟩
instance : Mul Pol := ⟨Pol.mul⟩
instance : Neg Pol := ⟨Pol.neg⟩
def Pol.o : Pol := mk []
def Pol.i : Pol := mk [(0, 1)]
theorem Pol.add_comm (x y : Pol) : x + y = y + x := by
  induction x using Pol.ind with | _ P =>
  induction y using Pol.ind with | _ Q =>
  exact mk_eq fun φ => by rw [U3p, U3p, Int.add_comm]
theorem Pol.add_assoc (x y z : Pol) : x + y + z = x + (y + z) := by
  induction x using Pol.ind with | _ P =>
  induction y using Pol.ind with | _ Q =>
  induction z using Pol.ind with | _ R =>
  exact mk_eq fun φ => by simp only [U3p, Int.add_assoc]
theorem Pol.add_zero (x : Pol) : x + Pol.o = x := by
  induction x using Pol.ind with | _ P =>
  exact mk_eq fun φ => by rw [List.append_nil]
theorem Pol.mul_comm (x y : Pol) : x * y = y * x := by
  induction x using Pol.ind with | _ P =>
  induction y using Pol.ind with | _ Q =>
  exact mk_eq fun φ => by rw [U3w, U3w, ev_swap]; simp only [Int.add_comm]
theorem Pol.mul_assoc (x y z : Pol) : x * y * z = x * (y * z) := by
  induction x using Pol.ind with | _ P =>
  induction y using Pol.ind with | _ Q =>
  induction z using Pol.ind with | _ R =>
  exact mk_eq fun φ => by simp only [U3w, wr_wr, wr_add2, Int.add_assoc]
theorem Pol.mul_add (x y z : Pol) : x * (y + z) = x * y + x * z := by
  induction x using Pol.ind with | _ P =>
  induction y using Pol.ind with | _ Q =>
  induction z using Pol.ind with | _ R =>
  exact mk_eq fun φ => by simp only [U3w, U3p, ev_add]
theorem Pol.mul_zero (x : Pol) : x * Pol.o = Pol.o := by
  induction x using Pol.ind with | _ P =>
  exact mk_eq fun φ => by rw [U3w]; simp only [ev]; rw [ev_zero]
theorem Pol.zero_mul (x : Pol) : Pol.o * x = Pol.o := by rw [Pol.mul_comm, Pol.mul_zero]
theorem Pol.mul_one (x : Pol) : x * Pol.i = x := by
  induction x using Pol.ind with | _ P =>
  refine mk_eq fun φ => ?_
  rw [U3w]
  have e : ∀ Q : Tms, ev Q (fun x => ev [(0, 1)] (fun y => φ (wr (x + y)))) = ev Q φ := by
    intro Q
    induction Q with
    | nil => rfl
    | cons q Q ih =>
      have h0 : wr 0 = 0 := wr_id (by omega)
      show q.2 * (1 * φ (wr (wr q.1 + wr 0)) + 0) + _ = q.2 * φ (wr q.1) + _
      rw [h0, show wr (wr q.1 + 0) = wr q.1 from by rw [Int.add_zero, wr_idem], ih, Int.one_mul, Int.add_zero]
  rw [e]
theorem Pol.one_mul (x : Pol) : Pol.i * x = x := by rw [Pol.mul_comm, Pol.mul_one]
instance : Std.Associative (α := Pol) (· + ·) := ⟨Pol.add_assoc⟩
instance : Std.Commutative (α := Pol) (· + ·) := ⟨Pol.add_comm⟩
instance : Std.Associative (α := Pol) (· * ·) := ⟨Pol.mul_assoc⟩
instance : Std.Commutative (α := Pol) (· * ·) := ⟨Pol.mul_comm⟩
structure Tm where
  e : Int
  c : Int
instance : Inhabited Tm := ⟨⟨0, 0⟩⟩
def Can (l : List Tm) : Prop := l.Pairwise (fun s t => s.e < t.e) ∧ ∀ t ∈ l, t.c ≠ 0 ∧ wr t.c = t.c ∧ wr t.e = t.e
theorem Can.nil_ : Can [] := ⟨List.Pairwise.nil, by simp⟩
def put : List Tm → Int → Int → List Tm
  | [], e, c => if c = 0 then [] else [⟨e, c⟩]
  | t :: l, e, c => if c = 0 then t :: l else if t.e < e then t :: put l e c else if t.e = e then (if wr (t.c + c) = 0 then l else ⟨e, wr (t.c + c)⟩ :: l) else ⟨e, c⟩ :: t :: l
end Go.Proofs.YthppkofceancjaaGreat
namespace Go.Proofs.YthppkofceancjaaGreat
section
variable (m : Nat → Nat → Pol) (N : Nat)
variable {m N}
end
instance : Inhabited Pol := ⟨Pol.o⟩
end Go.Proofs.YthppkofceancjaaGreat
namespace Go.Proofs.YthppkofceancjaaGreat
open Go.ChangeShapes Go.WideShapes Go.ChangeAt Go.RowKit Go.Sort
def srt (xs : List Int) : List Int := xs.mergeSort fun x y => decide (x ≤ y)
theorem srt_perm (xs : List Int) : (srt xs).Perm xs := List.mergeSort_perm _ _
theorem srt_len (xs : List Int) : (srt xs).length = xs.length := (srt_perm xs).length_eq
theorem srt_mem {xs : List Int} {x : Int} : x ∈ srt xs ↔ x ∈ xs := (srt_perm xs).mem_iff
theorem flat_int (xs : List Int) : xs.flatMap Uv.f = xs.map (Value.int .i64) := by
  induction xs with
  | nil => rfl
  | cons x xs ih => simp only [List.flatMap_cons, ih, List.map_cons]; rfl
theorem SH.sorted {w : World} {M : Hp} {X : Fr} {g cap n : Nat} {xs ys : List Int} {os : Array Obj} (S : SH w M X [Rs.row Uv (.slice (some ⟨g, 0, none⟩) xs.length cap) xs]) (hl : ys.length = xs.length) :
    SH (Go.Sort.grow (putRow (Value.int .i64) (Go.Sort.ahead w n) g 0 ys.toArray) os) M X [Rs.row Uv (.slice (some ⟨g, 0, none⟩) xs.length cap) ys] := by
  have hok : U3s Uv (.slice (some ⟨g, 0, none⟩) xs.length cap) xs (hp w) := S.get (i := 0) rfl
  rcases hok with ⟨h1, _⟩ | ⟨g', cap', cur, h1, h2, h3, h4, h5, h6⟩
  · cases h1
  cases h1
  have gb := grownBy_sortedI (w := w) (g := g) (n := n) (os := os) ys.toArray
  have h5' : cur.size = cap := h5.trans (Nat.mul_one _)
  refine S.step (i := 0) (H' := [Rs.row Uv (.slice (some ⟨g, 0, none⟩) xs.length cap) ys]) rfl rfl ⟨gb.os, gb.tape, gb.output, gb.size⟩ (fun b hb hn => ?_) ?_ (fun b hb => ⟨.inl hb, ?_⟩)
  · exact gb.block b hb (fun e => hn (by injection e with e; subst e; simp [Rs.row, Value.ownBlock]))
  · refine .inr ⟨g, cap, _, by rw [hl], heap_sortedI _ h2, by rw [hl]; exact h3, h4, by simp [putCells, h5'] ; exact (Nat.mul_one _).symm, ?_⟩
    rw [flat_int, show ys.length * Uv.k = ys.length from Nat.mul_one _]
    exact take_putCellsI cur ys (by omega)
  · have hg : g < w.heap.size := U3f h2
    have e : b = g := by simpa [Rs.row, Value.ownBlock] using hb
    subst e
    exact Nat.lt_of_lt_of_le hg gb.size
theorem SH.holdsI {w : World} {M : Hp} {X : Fr} {g cap : Nat} {xs : List Int} (S : SH w M X [Rs.row Uv (.slice (some ⟨g, 0, none⟩) xs.length cap) xs]) : Holds (Value.int .i64) w g 0 xs.toArray ∧ g < w.heap.size := by
  have hok : U3s Uv (.slice (some ⟨g, 0, none⟩) xs.length cap) xs (hp w) := S.get (i := 0) rfl
  rcases hok with ⟨h1, _⟩ | ⟨g', cap', cur, h1, h2, h3, h4, h5, h6⟩
  · cases h1
  cases h1
  refine ⟨holds_of_blockI h2 ?_, U3f h2⟩
  rw [flat_int, show xs.length * Uv.k = xs.length from Nat.mul_one _] at h6
  exact h6
theorem c1_sort {P : Program} {ρ : Go.Shelf.Ren} (L : Lays.n189 P ρ) {w : World} {M : Hp} {X : Fr} {v : Value} {xs : List Int} (hsz : xs.length < 4611686018427387904) (S : SH w M X [Rs.row Uv v xs]) :
    C1 P (ρ.f 189) [v] w M X fun u M' r' => u = .tuple #[] ∧ M' = M ∧ r' = Rs.row Uv v (srt xs) := by
  have hok : U3s Uv v xs (hp w) := S.get (i := 0) rfl
  rcases hok with ⟨h1, h2⟩ | ⟨g, cap, cur, h1, _⟩
  · subst h1; subst h2
    refine (Any.slices_Sort_int_none L none 0 w).mono ?_
    rintro e w' ⟨rfl, rfl⟩
    exact ⟨_, rfl, M, _, Hp.le_refl _, S, rfl, rfl, by simp [srt]⟩
  · subst h1
    obtain ⟨hH, hb⟩ := S.holdsI
    refine (Any.slices_Sort_int L g 0 cap xs w hH hb hsz).mono ?_
    rintro e w' ⟨rfl, n, os, rfl⟩
    exact ⟨_, rfl, M, _, Hp.le_refl _, S.sorted (srt_len xs), rfl, rfl, rfl⟩
end Go.Proofs.YthppkofceancjaaGreat
namespace Go.Proofs.YthppkofceancjaaGreat
open Go.ChangeShapes Go.WideShapes Go.ChangeAt Go.RowKit
open Go.ChangeMaps (setBlock)
theorem MpOk.mono {κ ε : Type} {kc : κ → Value} {vc : ε → Value} {g : Nat} {es : List (κ × ε)} {N N' : Hp} (h : MpOk kc vc g es N) (k : N.le N') : MpOk kc vc g es N' := by
  obtain ⟨arr, clock, h1, h2, h3⟩ := h
  exact ⟨arr, clock, k _ _ h1, h2, h3⟩
def Rs.itr (g clock r : Nat) (seen : Array Nat) : Rs := ⟨[r], fun h => h r = some (.mapIter (some g) clock seen clock), fun h h' hb hk => by rw [hb r (by simp)]; exact hk⟩
section
variable {κ ε : Type}
def MpEs (kc : κ → Value) (vc : ε → Value) (N : Hp) (g : Nat) (arr : Array MapEntry) (clock : Nat) (es : List (κ × ε)) : Prop := N g = some (.map arr clock) ∧ arr.toList.map (fun e => (e.key, e.val)) = es.map (fun p => (kc p.1, vc p.2)) ∧ Stm arr clock
def Lft (kc : κ → Value) (vc : ε → Value) (arr : Array MapEntry) (seen : Array Nat) (lf : List (κ × ε)) : Prop := (leftOf arr seen).toList.map (fun e => (e.key, e.val)) = lf.map (fun p => (kc p.1, vc p.2))
def Lst (kc : κ → Value) (vc : ε → Value) (arr : Array MapEntry) (seen : Array Nat) (k : κ) (v : ε) : Prop := ∃ (e : MapEntry) (s0 : Array Nat), seen = s0.push e.born ∧ e ∈ arr.toList ∧ e.key = kc k ∧ e.val = vc v
variable {kc : κ → Value} {vc : ε → Value} {N : Hp} {arr : Array MapEntry} {clock g : Nat} {es lf : List (κ × ε)} {seen : Array Nat}
theorem MpEs.mono {N' : Hp} (h : MpEs kc vc N g arr clock es) (k : N.le N') : MpEs kc vc N' g arr clock es := ⟨k _ _ h.1, h.2⟩
theorem MpOk.ents (h : MpOk kc vc g es N) : ∃ arr clock, MpEs kc vc N g arr clock es := by
  obtain ⟨arr, clock, h⟩ := h
  exact ⟨arr, clock, h⟩
theorem left_empty (arr : Array MapEntry) : leftOf arr #[] = arr := by unfold leftOf; simp
theorem MpEs.lft (h : MpEs kc vc N g arr clock es) : Lft kc vc arr #[] es := by unfold Lft; rw [left_empty]; exact h.2.1
theorem left_push (arr : Array MapEntry) (seen : Array Nat) (b : Nat) : (leftOf arr (seen.push b)).toList = (leftOf arr seen).toList.filter fun e => !decide (e.born = b) := by
  unfold leftOf
  rw [Array.toList_filter, Array.toList_filter, List.filter_filter]
  refine List.filter_congr fun x _ => ?_
  have e : (seen.push b).contains x.born = (seen.contains x.born || decide (x.born = b)) := by
    rw [Bool.eq_iff_iff]
    simp [Array.mem_push]
  rw [e, Bool.not_or, Bool.and_comm]
theorem filter_one {l : List MapEntry} (hn : (l.map (·.born)).Nodup) {e : MapEntry} (he : e ∈ l) : ∃ a b, l = a ++ e :: b ∧ (l.filter fun x => !decide (x.born = e.born)) = a ++ b := by
  obtain ⟨a, b, rfl⟩ := List.append_of_mem he
  refine ⟨a, b, rfl, ?_⟩
  rw [List.map_append, List.map_cons] at hn
  obtain ⟨n1, n2, n3⟩ := List.nodup_append.1 hn
  rw [List.filter_append, List.filter_cons_of_neg (by simp)]
  have h1 : (a.filter fun x => !decide (x.born = e.born)) = a := List.filter_eq_self.2 fun x hx => by
    have := n3 x.born (List.mem_map.2 ⟨x, hx, rfl⟩) e.born (by simp)
    simp [this]
  have h2 : (b.filter fun x => !decide (x.born = e.born)) = b := List.filter_eq_self.2 fun x hx => by
    have := (List.nodup_cons.1 n2).1
    have hne : x.born ≠ e.born := fun e' => this (by rw [← e']; exact List.mem_map.2 ⟨x, hx, rfl⟩)
    simp [hne]
  rw [h1, h2]
theorem split_map : ∀ {a : List MapEntry} {e : MapEntry} {b : List MapEntry} {lf : List (κ × ε)}, (a ++ e :: b).map (fun e => (e.key, e.val)) = lf.map (fun p => (kc p.1, vc p.2)) → ∃ l1 p l2, lf = l1 ++ p :: l2 ∧ e.key = kc p.1 ∧ e.val = vc p.2 ∧ (a ++ b).map (fun e => (e.key, e.val)) = (l1 ++ l2).map (fun p => (kc p.1, vc p.2))
  | [], e, b, [], h => by simp at h
  | [], e, b, p :: lf, h => by
    simp only [List.nil_append, List.map_cons, List.cons.injEq, Prod.mk.injEq] at h
    exact ⟨[], p, lf, rfl, h.1.1, h.1.2, h.2⟩
  | x :: a, e, b, [], h => by simp at h
  | x :: a, e, b, q :: lf, h => by
    simp only [List.cons_append, List.map_cons, List.cons.injEq] at h
    obtain ⟨l1, p, l2, rfl, h1, h2, h3⟩ := split_map h.2
    exact ⟨q :: l1, p, l2, rfl, h1, h2, by simp only [List.cons_append, List.map_cons, h.1, h3]⟩
section
variable {P : Program} {o : Oper} {L : List (Nat × Value)} {w : World} {x : Operand} {T K E : TypeId} {n d r i : Nat} {Kt : List (Nat × Value) → World → Prop} {M : Hp} {X : Fr} {H : List Rs}
theorem wo_range (hop : o.op = .range T x) (hd : o.dst = some d) (hn : Nat.blt d n = true) (hx : oev L x = some (.map (some g))) (hu : P.underlying T = some (.map K E)) (S : SH w M X H) (hg : MpEs kc vc N g arr clock es) (hN : N.le (hp w))
    (h : ∀ r w', SH w' M X (Rs.itr g clock r #[] :: H) → Kt ((d, .pointer (some ⟨r, 0, none⟩)) :: L) w') : WO P n o L w Kt := by
  have hg' : w.heap[g]? = some (.map arr clock) := hN _ _ hg.1
  refine Ub (v := .pointer (some ⟨w.heap.size, 0, none⟩)) (w' := w.alloc (.mapIter (some g) clock #[] clock)) hd hn ?_ (h _ _ ?_)
  · intro n c he
    unfold execOp
    simp only [hop, he.eval hx, run_range_map w T K E g arr clock hu hg', Sem.run_bind, Result.andThen_ok, Sem.run_pure]
  · exact S.cons (U3k w _) (U3l w _) (heap_alloc_new w _) (fun b hb => by simp [Rs.itr] at hb; subst hb; rw [size_al]; omega)
theorem wo_next (hop : o.op = .next x false) (hd : o.dst = some d) (hn : Nat.blt d n = true) (hx : oev L x = some (.pointer (some ⟨r, 0, none⟩))) (S : SH w M X H) (hi : nth H i = some (Rs.itr g clock r seen)) (hg : MpEs kc vc N g arr clock es) (hN : N.le (hp w)) (hl : Lft kc vc arr seen lf)
    (h0 : lf = [] → Kt ((d, .tuple [.bool false].toArray) :: L) w)
    (h1 : ∀ k v l1 l2 seen' w', lf = l1 ++ (k, v) :: l2 → Lft kc vc arr seen' (l1 ++ l2) → Lst kc vc arr seen' k v → SH w' M X (H.set i (Rs.itr g clock r seen')) → Kt ((d, .tuple [.bool true, kc k, vc v].toArray) :: L) w') : WO P n o L w Kt := by
  have hg' : w.heap[g]? = some (.map arr clock) := hN _ _ hg.1
  have hr : w.heap[r]? = some (.mapIter (some g) clock seen clock) := S.get hi
  rcases run_next_at (P := P) w o.type r g clock clock seen arr clock hr hg' hg.2.2.2 (Nat.le_refl _) with ⟨e0, hrun⟩ | ⟨e, he, w1, hal, hrun⟩
  · refine Ub (v := .tuple #[.bool false]) (w' := w) hd hn ?_ (h0 ?_)
    · intro n c he
      unfold execOp
      simp only [hop, he.eval hx, hrun, Sem.run_bind, Result.andThen_ok, Sem.run_pure]
    · have : leftOf arr seen = #[] := Array.eq_empty_of_size_eq_zero e0
      unfold Lft at hl
      rw [this] at hl
      cases lf with
      | nil => rfl
      | cons p l => simp at hl
  · obtain ⟨hem, _⟩ := mem_left he
    have hsub : ((leftOf arr seen).toList.map (·.born)).Nodup := by
      unfold leftOf; rw [Array.toList_filter]
      exact List.Nodup.sublist (List.Sublist.map _ List.filter_sublist) hg.2.2.1
    obtain ⟨a, b, hab, hf⟩ := filter_one hsub he
    unfold Lft at hl
    rw [hab] at hl
    obtain ⟨l1, p, l2, hlf, hk, hv, hl'⟩ := split_map hl
    have hrun' : (Instr.next (.pointer (some ⟨r, 0, none⟩)) false o.type).run P w = .ok (.tuple [.bool true, kc p.1, vc p.2].toArray) (setBlock w1 r (.mapIter (some g) clock (seen.push e.born) clock)) := by rw [hrun, hk, hv]
    have hr1 : w1.heap[r]? = some (.mapIter (some g) clock seen clock) := by rcases hal with rfl | rfl <;> exact hr
    have hset := Go.MapKept.heap_set (o' := .mapIter (some g) clock (seen.push e.born) clock) hr1
    have hlike : Like w w1 := by rcases hal with rfl | rfl <;> exact ⟨rfl, rfl, rfl, Nat.le_refl _⟩
    have hheap : w1.heap = w.heap := by rcases hal with rfl | rfl <;> rfl
    have hsz : (setBlock w1 r (.mapIter (some g) clock (seen.push e.born) clock)).heap.size = w1.heap.size := by simp [setBlock]
    refine Ub (v := .tuple [.bool true, kc p.1, vc p.2].toArray) (w' := setBlock w1 r (.mapIter (some g) clock (seen.push e.born) clock)) hd hn ?_ (h1 p.1 p.2 l1 l2 (seen.push e.born) _ hlf ?_ ⟨e, seen, rfl, hem, hk, hv⟩ ?_)
    · intro n c he
      unfold execOp
      simp only [hop, he.eval hx, hrun', Sem.run_bind, Result.andThen_ok, Sem.run_pure]
    · unfold Lft
      rw [left_push, hf]
      exact hl'
    · refine S.step hi rfl (hlike.trans ⟨rfl, rfl, rfl, by rw [hsz]; exact Nat.le_refl _⟩) (fun b _ hb => ?_) hset.1 (fun b hb => ⟨.inl hb, ?_⟩)
      · have hne : b ≠ r := by simpa [Rs.itr] using hb
        show (setBlock w1 r _).heap[b]? = w.heap[b]?
        exact (hset.2 b hne).trans (by rw [hheap])
      · simp [Rs.itr] at hb
        subst hb
        rw [hsz, hheap]
        exact U3f hr
theorem run_entry (hop : o.op = .entry x) (hx : oev L x = some (.pointer (some ⟨r, 0, none⟩))) (S : SH w M X H) (hi : nth H i = some (Rs.itr g clock r seen)) (hg : MpEs kc vc N g arr clock es) (hN : N.le (hp w)) {k : κ} {v : ε} (hl : Lst kc vc arr seen k v) : Run P o L w (.tuple [kc k, vc v].toArray) w := by
  have hg' : w.heap[g]? = some (.map arr clock) := hN _ _ hg.1
  obtain ⟨e, s0, rfl, he, hk, hv⟩ := hl
  have hr : w.heap[r]? = some (.mapIter (some g) clock (s0.push e.born) clock) := S.get hi
  have hrun := run_entry_at (P := P) w r g clock s0 arr clock e hr hg' he hg.2.2.1
  rw [hk, hv] at hrun
  intro n c he
  unfold execOp
  simp only [hop, he.eval hx, hrun, Sem.run_bind, Result.andThen_ok, Sem.run_pure]
theorem SH.pubmap {H' : List Rs} (S : SH w M X H) (hi : nth H i = some (Rs.mp kc vc g es)) (hH : H.set i Rs.emp = H') : ∃ M', M.le M' ∧ SH w M' X H' ∧ MpOk kc vc g es M' := by
  obtain ⟨h1, h2, h3⟩ := S.pub hi hH
  have h4 : MpOk kc vc g es (hp w) := S.get hi
  obtain ⟨arr, clock, e, h5⟩ := h4
  exact ⟨_, h1, h2, arr, clock, (h3 g (by simp [Rs.mp])).trans e, h5⟩
end
end
section
variable {P : Program} {o : Oper} {L : List (Nat × Value)} {w : World} {x y : Operand} {t t' : TypeId} {a b : Int}
end
end Go.Proofs.YthppkofceancjaaGreat
namespace Go.Proofs.YthppkofceancjaaGreat
open Go.ChangeShapes Go.WideShapes Go.ChangeAt Go.RowKit
def Ents (es : List (Int × Int)) (B : Nat) : Prop := (es.map Prod.fst).Nodup ∧ ∀ q ∈ es, (-(B : Int) ≤ q.1 ∧ q.1 ≤ B) ∧ wr q.2 = q.2
theorem Ents.nil_ (B : Nat) : Ents [] B := ⟨by simp, by simp⟩
def Wk (N : Hp) (g : Nat) (B : Nat) (p : Pol) : Prop := ∃ es, MpOk (Value.int .i64) (Value.int .i64) g es N ∧ Ents es B ∧ mk es = p
def Wks (bf : Nat → Nat) (N : Hp) (gs : List (Option Nat)) (ps : List (Option Pol)) : Prop := gs.length = ps.length ∧ ∀ i, i < gs.length → match ga ps i with
  | some p => ∃ g, ga gs i = some g ∧ Wk N g (bf i) p
  | none => ga gs i = none
section
variable {bf : Nat → Nat} {N N' : Hp} {gs : List (Option Nat)} {ps : List (Option Pol)}
theorem Wks.nil_ (bf : Nat → Nat) (N : Hp) : Wks bf N [] [] := ⟨rfl, fun i hi => by simp at hi⟩
end
def WksA (bf : Nat → Nat) (N : Hp) (gss : List (List (Option Nat))) (pss : List (List (Option Pol))) : Prop := gss.length = pss.length ∧ ∀ i, i < gss.length → Wks bf N (ga gss i) (ga pss i)
section
variable {bf : Nat → Nat} {N N' : Hp} {gss : List (List (Option Nat))} {pss : List (List (Option Pol))}
theorem WksA.nil_ (bf : Nat → Nat) (N : Hp) : WksA bf N [] [] := ⟨rfl, fun i hi => by simp at hi⟩
end
end Go.Proofs.YthppkofceancjaaGreat
namespace Go.Proofs.YthppkofceancjaaGreat
open Go.ChangeShapes Go.WideShapes Go.ChangeAt Go.RowKit
structure Da where
 a : Int
 b : Bool
instance : Inhabited Da := ⟨⟨0, false⟩⟩
instance : DecidableEq Da := fun x y => decidable_of_iff (x.a = y.a ∧ x.b = y.b) ⟨fun h => by cases x; cases y; simp at h; simp [h], fun h => by rw [h]; exact ⟨rfl, rfl⟩⟩
def daF (x : Da) : List Value := [.int .i64 x.a, .bool x.b]
def cdDa : Cd Da := ⟨daF, 2, 16, 26, ⟨0, false⟩, fun _ => rfl, by
 intro x u hu
 simp [daF] at hu
 rcases hu with rfl | rfl <;> rfl⟩
def okD (d : Dg) (x : Da) : Prop := 1 ≤ x.a ∧ x.a ≤ 2 * (d.crs.length : Int)
def leftD (d : Dg) (x : Da) : Da := ⟨U1g d (Ud d x.a x.b).1 (((Ud d x.a x.b).2 + 3) % 4), U1k d (Ud d x.a x.b).1 (((Ud d x.a x.b).2 + 3) % 4)⟩
theorem U2b {d : Dg} (h : U1b d = true) {i k : Nat} (hi : i < d.crs.length) (hk : k < 4) : 1 ≤ U1g d i k ∧ U1g d i k ≤ 2 * (d.crs.length : Int) := by
 have := arcs_rng h (j := 4 * i + k) (by omega)
 unfold arcJ at this
 rwa [show (4 * i + k) / 4 = i by omega, show (4 * i + k) % 4 = k by omega] at this
theorem endD {d : Dg} (h : U1b d = true) {a : Int} (ha : 1 ≤ a ∧ a ≤ 2 * (d.crs.length : Int)) (b : Bool) : (Ud d a b).1 < d.crs.length ∧ (Ud d a b).2 < 4 ∧ ga (tabL d b (4 * d.crs.length)) a.toNat = Ud d a b ∧ a.toNat < 2 * d.crs.length + 1 ∧ a = (a.toNat : Int) := by
 have e : a = (a.toNat : Int) := by omega
 obtain ⟨h1, h2, h3, _⟩ := endOf_lt h (a := a.toNat) (by omega) (by omega) b
 rw [← e] at h1 h2 h3
 refine ⟨h1, h2, ?_, by omega, e⟩
 rw [U3e (by omega), ← e]
 exact h3
theorem leftD_ok {d : Dg} (h : U1b d = true) {x : Da} (hx : okD d x) : okD d (leftD d x) := by
 obtain ⟨h1, h2, _⟩ := endD h hx x.b
 exact U2b h h1 (Nat.mod_lt _ (by decide))
theorem sl22 : SlOf Tryz.prog 22 cdCr := ⟨.agg [.int .i64 0, .int .i64 0, .int .i64 0, .int .i64 0, .bool false].toArray, uT22, by kernel_rfl, rfl, by decide, by decide⟩
theorem sl68 : SlOf Tryz.prog 68 cdPl := ⟨.agg [.int .i64 0, .int .i64 0].toArray, uT68, by kernel_rfl, rfl, by decide, by decide⟩
theorem sl141 : SlOf Tryz.prog 141 cdDa := ⟨.agg [.int .i64 0, .bool false].toArray, uT141, by kernel_rfl, rfl, by decide, by decide⟩
noncomputable def Z0:=Tryz.f115.body.getD .skip
def Z1 := cL Z0
def Z2 := cR Z0
def Z3 := cL Z2
def Z4 := cR Z2
set_option maxRecDepth 10000 in
theorem Arc_q {w : World} {M : Hp} {X : Fr} (x : Cr) (k : Nat) (hk : k < 4) (S : SH w M X []) : Cq Tryz.prog 115 [.agg [.int .i64 x.a, .int .i64 x.b, .int .i64 x.c, .int .i64 x.d, .bool x.plus].toArray, .int .i64 (k : Int)] w M X (fun u => u = .int .i64 (U24 x k)) := by
 unfold Cq
 refine Uo (b := Z0) Tryz.func115 rfl Tryz.ntmps115 rfl (fun C hC => (U14 [(0, _), (1, _)] ⟨rfl, rfl, trivial⟩ (U2 Z1 Z2 rfl rfl rfl (U1 rfl (wlo 0 1 rfl rfl rfl (U18 (l := [_, _, _, _, _]) rfl rfl rfl rfl rfl S ?_))))))
 intro gb1 w1 S1; clear S
 refine mvs 1 1 rfl rfl (U5 rfl (nmk [1, 2] rfl (U4 (U2 Z3 Z4 rfl rfl rfl (U1 rfl (wlr 0 rfl (U0 rfl rfl uT77 rfl (ce3) (nf3)) (wlr 1 rfl (U3 rfl rfl uT3 rfl (S1.boxc (i := 0) rfl rfl)) (wlr 2 rfl (U0 rfl rfl uT77 rfl (ce3) (nf3)) ?_))))))))
 refine wlr 3 rfl (U3 rfl rfl uT3 rfl (S1.boxc (i := 0) rfl rfl)) (wlr 4 rfl (U0 rfl rfl uT77 rfl (ce3) (nf3)) (wlr 5 rfl (U3 rfl rfl uT3 rfl (S1.boxc (i := 0) rfl rfl)) (wlr 6 rfl (U0 rfl rfl uT77 rfl (ce3) (nf3)) (wlr 7 rfl (U3 rfl rfl uT3 rfl (S1.boxc (i := 0) rfl rfl)) (wlr 8 rfl (U1n (l := [_, _, _, _]) (pl := [(0, 1), (1, 1), (2, 1), (3, 1)]) rfl rfl uT208 zr208 sz3 rfl rfl rfl) (mvs 9 1 rfl rfl (wlr 10 rfl (U3i (e := k) rfl rfl rfl uT208 uT3 rfl sz3 (by first | rfl | omega) (by first | omega | (simp only [ls]; omega)) (nth_iv [x.a, x.b, x.c, x.d] k (by simp; first | omega | (simp only [ls]; omega)))) ?_)))))))
 refine mvs 11 1 rfl rfl (U5 rfl (nmk [4] rfl (U4 (Uk hC [_] rfl rfl ⟨rfl, trivial⟩ ?_))))
 exact ⟨_, rfl, (S1.pick [] [] (by decide) trivial), (by have e0 : k = 0 ∨ k = 1 ∨ k = 2 ∨ k = 3 := (by omega); rcases e0 with rfl | rfl | rfl | rfl <;> first | rfl | (exfalso; omega))⟩
noncomputable def Z5:=Tryz.f170.body.getD .skip
def Z6 := cL Z5
def Z7 := cR Z5
def Z8 := cL Z7
def Z9 := cR Z7
def Za := cL Z8
def Zb := cR Z8
def Zc := cL Zb
def Zd := cR Zb
def Ze := cL Zc
def Zf := cR Zc
def Zg := cL Z9
def Zh := cR Z9
set_option maxRecDepth 10000 in
theorem OverIn_q {w : World} {M : Hp} {X : Fr} (x : Cr) (S : SH w M X []) : Cq Tryz.prog 170 [.agg [.int .i64 x.a, .int .i64 x.b, .int .i64 x.c, .int .i64 x.d, .bool x.plus].toArray] w M X (fun u => u = .int .i64 (overIn x : Int)) := by
 unfold Cq
 refine Uo (b := Z5) Tryz.func170 rfl Tryz.ntmps170 rfl (fun C hC => (U14 [(0, _)] ⟨rfl, trivial⟩ (U2 Z6 Z7 rfl rfl rfl (U1 rfl (wlo 0 1 rfl rfl rfl (U18 (l := [_, _, _, _, _]) rfl rfl rfl rfl rfl S ?_))))))
 intro gb1 w1 S1; clear S
 refine mvs 1 1 rfl rfl (U5 rfl (nmk [1] rfl (U4 (U2 Z8 Z9 rfl rfl rfl (U2 Za Zb rfl rfl rfl (U1 rfl (wlr 0 rfl (U0 rfl rfl uT77 rfl (ce4) (nf4)) (wlr 1 rfl (U3 rfl rfl uT4 rfl (S1.boxc (i := 0) rfl rfl)) ?_))))))))
 refine U5 rfl (nmk [4] rfl (U4 ?_))
 refine U19 Zc Zd rfl rfl rfl rfl (fun hb4 => ?_) (fun hb4 => ?_)
 ·refine U2 Ze Zf rfl rfl rfl (U1 rfl (mvs 0 1 rfl rfl (U5 rfl (nmk [2] rfl (U4 (Uk hC [_] rfl rfl ⟨rfl, trivial⟩ ?_))))))
  exact ⟨_, rfl, (S1.pick [] [] (by decide) trivial), (by show Value.int _ _ = _; unfold overIn; rw [hb4]; rfl)⟩
 ·refine Uf rfl (U1a [] trivial (U4 (U2 Zg Zh rfl rfl rfl (U1 rfl (mvs 0 1 rfl rfl (U5 rfl (U4 (Uk hC [_] rfl rfl ⟨rfl, trivial⟩ ?_))))))))
  exact ⟨_, rfl, (S1.pick [] [] (by decide) trivial), (by show Value.int _ _ = _; unfold overIn; rw [hb4]; rfl)⟩
noncomputable def Zi:=Tryz.f133.body.getD .skip
def Zj := cL Zi
def Zk := cR Zi
def Zl := cL Zk
def Zm := cR Zk
set_option maxRecDepth 10000 in
theorem Comes_q {w : World} {M : Hp} {X : Fr} (x : Cr) (k : Nat) (hk : k < 4) (S : SH w M X []) : Cq Tryz.prog 133 [.agg [.int .i64 x.a, .int .i64 x.b, .int .i64 x.c, .int .i64 x.d, .bool x.plus].toArray, .int .i64 (k : Int)] w M X (fun u => u = .bool (crIn x k)) := by
 unfold Cq
 refine Uo (b := Zi) Tryz.func133 rfl Tryz.ntmps133 rfl (fun C hC => (U14 [(0, _), (1, _)] ⟨rfl, rfl, trivial⟩ (U2 Zj Zk rfl rfl rfl (U1 rfl (wlo 0 1 rfl rfl rfl (U18 (l := [_, _, _, _, _]) rfl rfl rfl rfl rfl S ?_))))))
 intro gb1 w1 S1; clear S
 refine mvs 1 1 rfl rfl (U5 rfl (nmk [1, 2] rfl (U4 (U2 Zl Zm rfl rfl rfl (U1 rfl (mvs 0 1 rfl rfl (wlr 1 rfl (Uz rfl rfl rfl) (mvs 2 1 rfl rfl ?_))))))))
 refine Ut (t := 7) rfl (fun hg7 => ?_) (fun hg7 => ?_)
 ·refine mvs 3 6 rfl rfl (U5 rfl (nmk [4] rfl (U4 (Uk hC [_] rfl rfl ⟨rfl, trivial⟩ ?_))))
  exact ⟨_, rfl, (S1.pick [] [] (by decide) trivial), (by show Value.bool _ = _; refine congrArg Value.bool ?_; unfold crIn; first | (symm; rw [decide_eq_true_iff]; left; omega) | (unfold overIn; refine decide_eq_decide.2 ?_; cases hp9 : x.plus <;> simp <;> omega))⟩
 ·refine mvs 3 1 rfl rfl (wlg 4 5 rfl rfl rfl rfl rfl rfl rfl rfl (Ub rfl rfl (U8 (us := [_, _, _, _, _]) rfl rfl uT77 rfl sz77 (S1.boxcs (i := 0) rfl ⟨rfl, rfl, rfl, rfl, rfl, trivial⟩)) (wlg 5 6 rfl rfl rfl rfl rfl rfl rfl rfl (U20 rfl rfl rfl rfl rfl rfl rfl cf170 S1 (OverIn_q x  S1.lend) ?_))))
  rintro _ w2 S2 rfl; clear S1
  refine wlg 6 7 rfl rfl rfl rfl rfl rfl rfl rfl (Ub rfl rfl (Uz rfl rfl rfl) (mvs 7 2 rfl rfl (U5 rfl (nmk [4] rfl (U4 (Uk hC [_] rfl rfl ⟨rfl, trivial⟩ ?_))))))
  exact ⟨_, rfl, (S2.pick [] [] (by decide) trivial), (by show Value.bool _ = _; refine congrArg Value.bool ?_; unfold crIn; first | (symm; rw [decide_eq_true_iff]; left; omega) | (unfold overIn; refine decide_eq_decide.2 ?_; cases hp9 : x.plus <;> simp <;> omega))⟩
noncomputable def Zn:=Tryz.f129.body.getD .skip
def Zo := cL Zn
def Zp := cR Zn
def Zq := cL Zp
def Zr := cR Zp
set_option maxRecDepth 10000 in
theorem At_q {w : World} {M : Hp} {X : Fr} (d : Dg) {gsh : Nat} {cA iA oA : Option Addr} {cc ic oc : Nat} (c k : Nat) (hsb : BxM (M.un X.h) gsh 70 [.slice cA d.crs.length cc, .int .i64 d.loops, .slice iA (tabL d false (4 * d.crs.length)).length ic, .slice oA (tabL d true (4 * d.crs.length)).length oc]) (hsc : RdA cdCr (M.un X.h) cA cc d.crs) (hsi : RdA cdPl (M.un X.h) iA ic (tabL d false (4 * d.crs.length))) (hso : RdA cdPl (M.un X.h) oA oc (tabL d true (4 * d.crs.length))) (hc : c < d.crs.length) (hk : k < 4) (S : SH w M X []) : Cq Tryz.prog 129 [.pointer (some ⟨gsh, 0, none⟩), .agg [.int .i64 (c : Int), .int .i64 (k : Int)].toArray] w M X (fun u => u = .int .i64 (U1g d c k)) := by
 unfold Cq
 refine Uo (b := Zn) Tryz.func129 rfl Tryz.ntmps129 rfl (fun C hC => (U14 [(0, _), (1, _)] ⟨rfl, rfl, trivial⟩ (U2 Zo Zp rfl rfl rfl (U1 rfl (wlo 0 1 rfl rfl rfl (U18 (l := [_, _]) rfl rfl rfl rfl rfl S ?_))))))
 intro gb1 w1 S1; clear S
 refine mvs 1 1 rfl rfl (U5 rfl (nmk [0, 3] rfl (U4 (U2 Zq Zr rfl rfl rfl (Ux rfl (by kernel_rfl) S1 13 rfl ?_)))))
 clear S1
 refine wap 0 12 rfl (by kernel_rfl) (fun _ => run_move rfl rfl) ?_
 refine wap 1 11 rfl (by kernel_rfl) (fun _ => U9 rfl rfl) ?_
 refine wap 2 10 rfl (by kernel_rfl) (fun _ => U0 rfl rfl uT70 rfl (ce24) (nf24)) ?_
 refine wap 3 9 rfl (by kernel_rfl) (fun _ => U0 rfl rfl uT24 rfl (ce22) (nf22)) ?_
 refine wat 4 8 rfl (by kernel_rfl) (fun _ _ _ hz Sz => .inl (U3 rfl rfl uT22 rfl ((hsb.mono (Hp.Ua hz Sz.mx)).cell Sz.um rfl))) ?_
 refine wap 5 7 rfl (by kernel_rfl) (fun _ => U0 rfl rfl uT190 rfl (ce3) (nf3)) ?_
 refine wat 6 6 rfl (by kernel_rfl) (fun _ _ _ hz Sz => .inl (U3 rfl rfl uT3 rfl (Sz.suf.boxc (i := 0) rfl rfl))) ?_
 refine wat 7 5 rfl (by kernel_rfl) (fun _ _ _ hz Sz => .inl (Uj (C := cdCr) c rfl rfl rfl sl22 (by first | rfl | omega) (hsc.mono (Hp.Ua hz Sz.mx)) (by first | omega | (simp only [ls]; omega)))) ?_
 refine wat 8 4 rfl (by kernel_rfl) (fun _ _ _ hz Sz => .inl (U8 (us := [_, _, _, _, _]) rfl rfl uT77 rfl sz77 ((hsc.mono (Hp.Ua hz Sz.mx)).U1x Sz.um (e := c) (by first | omega | (simp only [ls]; omega)) (j := 0) ⟨rfl, rfl, rfl, rfl, rfl, trivial⟩))) ?_
 refine wap 9 3 rfl (by kernel_rfl) (fun _ => U0 rfl rfl uT190 rfl (ce3) (nf3)) ?_
 refine wat 10 2 rfl (by kernel_rfl) (fun _ _ _ hz Sz => .inl (U3 rfl rfl uT3 rfl (Sz.suf.boxc (i := 0) rfl rfl))) ?_
 refine wat 11 1 rfl (by kernel_rfl) (fun _ _ _ hz Sz => Uq rfl rfl rfl rfl rfl cf115 Sz (Arc_q (ga d.crs c) k (by omega) Sz.lend)) ?_
 refine wap 12 0 rfl (by kernel_rfl) (fun _ => run_assign rfl rfl) ?_
 refine Uu (by kernel_rfl) (fun w15 S15 => ?_)
 refine nmk [4] rfl (U4 (Uk hC [_] rfl rfl ⟨rfl, trivial⟩ ?_))
 exact ⟨_, rfl, (S15.pick [] [] (by decide) trivial), rfl⟩
noncomputable def Zs:=Tryz.f111.body.getD .skip
def Zt := cL Zs
def Zu := cR Zs
def Zv := cL Zu
def Zw := cR Zu
set_option maxRecDepth 10000 in
theorem Arcs_q {w : World} {M : Hp} {X : Fr} (d : Dg) {gsh : Nat} {cA iA oA : Option Addr} {cc ic oc : Nat} (hsb : BxM (M.un X.h) gsh 70 [.slice cA d.crs.length cc, .int .i64 d.loops, .slice iA (tabL d false (4 * d.crs.length)).length ic, .slice oA (tabL d true (4 * d.crs.length)).length oc]) (hsc : RdA cdCr (M.un X.h) cA cc d.crs) (hsi : RdA cdPl (M.un X.h) iA ic (tabL d false (4 * d.crs.length))) (hso : RdA cdPl (M.un X.h) oA oc (tabL d true (4 * d.crs.length))) (hn : d.crs.length ≤ 16) (S : SH w M X []) : Cq Tryz.prog 111 [.pointer (some ⟨gsh, 0, none⟩)] w M X (fun u => u = .int .i64 (2 * (d.crs.length : Int))) := by
 unfold Cq
 refine Uo (b := Zs) Tryz.func111 rfl Tryz.ntmps111 rfl (fun C hC => (U14 [(0, _)] ⟨rfl, trivial⟩ (U2 Zt Zu rfl rfl rfl (U1 rfl (mvs 0 1 rfl rfl (U5 rfl (nmk [0] rfl (U4 (U2 Zv Zw rfl rfl rfl ?_)))))))))
 refine U1 rfl (mvs 0 1 rfl rfl (wlr 1 rfl (U9 rfl rfl) (wlr 2 rfl (U0 rfl rfl uT70 rfl (ce24) (nf24)) (wlr 3 rfl (U0 rfl rfl uT24 rfl (ce22) (nf22)) (wlr 4 rfl (U3 rfl rfl uT22 rfl (hsb.cell S.um rfl)) (wlr 5 rfl (U1f rfl rfl rfl rfl rfl rfl uT22) (wlr 6 rfl (U28 rfl rfl rfl (by first | omega | (simp only [ls]; omega))) ?_)))))))
 refine mvs 7 1 rfl rfl (U5 rfl (nmk [2] rfl (U4 (Uk hC [_] rfl rfl ⟨rfl, trivial⟩ ?_))))
 exact ⟨_, rfl, (S.pick [] [] (by decide) trivial), rfl⟩
end Go.Proofs.YthppkofceancjaaGreat
namespace Go.Proofs.YthppkofceancjaaGreat
open Go.ChangeShapes Go.WideShapes Go.ChangeAt Go.RowKit
noncomputable def Zx:=Tryz.f106.body.getD .skip
def Zy := cL Zx
def Zz := cR Zx
def Z10 := cL Zz
def Z11 := cR Zz
def Z12 := cL Z10
def Z13 := cR Z10
def Z14 := cL Z13
def Z15 := cR Z13
def Z16 := cL Z14
def Z17 := cR Z14
def Z18 := cL Z11
def Z19 := cR Z11
set_option maxRecDepth 10000 in
theorem Head_q {w : World} {M : Hp} {X : Fr} (d : Dg) {gsh : Nat} {cA iA oA : Option Addr} {cc ic oc : Nat} (x : Da) (hsb : BxM (M.un X.h) gsh 70 [.slice cA d.crs.length cc, .int .i64 d.loops, .slice iA (tabL d false (4 * d.crs.length)).length ic, .slice oA (tabL d true (4 * d.crs.length)).length oc]) (hsc : RdA cdCr (M.un X.h) cA cc d.crs) (hsi : RdA cdPl (M.un X.h) iA ic (tabL d false (4 * d.crs.length))) (hso : RdA cdPl (M.un X.h) oA oc (tabL d true (4 * d.crs.length))) (hn : d.crs.length ≤ 16) (hab : U1b d = true) (hx : okD d x) (S : SH w M X []) : Cq Tryz.prog 106 [.pointer (some ⟨gsh, 0, none⟩), .agg [.int .i64 x.a, .bool x.b].toArray] w M X (fun u => u = .agg (plF (Ud d x.a x.b)).toArray) := by
 unfold Cq
 obtain ⟨hE1, hE2, hE3, hE4, hE5⟩ := endD hab hx x.b
 have htl : ∀ b, (tabL d b (4 * d.crs.length)).length = 2 * d.crs.length + 1 := fun b => U1m d b _
 have htf := htl false
 have htt := htl true
 have hx1 := hx.1
 have hx2 := hx.2
 refine Uo (b := Zx) Tryz.func106 rfl Tryz.ntmps106 rfl (fun C hC => (U14 [(0, _), (1, _)] ⟨rfl, rfl, trivial⟩ (U2 Zy Zz rfl rfl rfl (U1 rfl (wlo 0 1 rfl rfl rfl (U18 (l := [_, _]) rfl rfl rfl rfl rfl S ?_))))))
 intro gb1 w1 S1; clear S
 refine wlo 1 2 rfl rfl rfl (Uh (l := [_, _]) rfl rfl rfl zr190 rfl S1 ?_)
 intro gb2 w2 S2; clear S1
 refine U5 rfl (nmk [0, 3, 4] rfl (U4 (U2 Z10 Z11 rfl rfl rfl (U2 Z12 Z13 rfl rfl rfl (U1 rfl (wlr 0 rfl (U0 rfl rfl uT26 rfl (ce4) (nf4)) (wlr 1 rfl (U3 rfl rfl uT4 rfl (S2.boxc (i := 1) rfl rfl)) (U5 rfl ?_))))))))
 refine nmk [0, 3, 4, 6] rfl (U4 ?_)
 refine U19 Z14 Z15 rfl rfl rfl rfl (fun hb6 => ?_) (fun hb6 => ?_)
 ·refine U2 Z16 Z17 rfl rfl rfl (Ux rfl (by kernel_rfl) S2 9 rfl ?_)
  clear S2
  refine wap 0 8 rfl (by kernel_rfl) (fun _ => run_move rfl rfl) ?_
  refine wap 1 7 rfl (by kernel_rfl) (fun _ => U9 rfl rfl) ?_
  refine wap 2 6 rfl (by kernel_rfl) (fun _ => U0 rfl rfl uT70 rfl (ce68) (nf68)) ?_
  refine wat 3 5 rfl (by kernel_rfl) (fun _ _ _ hz Sz => .inl (U3 rfl rfl uT68 rfl ((hsb.mono (Hp.Ua hz Sz.mx)).cell Sz.um rfl))) ?_
  refine wap 4 4 rfl (by kernel_rfl) (fun _ => U0 rfl rfl uT26 rfl (ce3) (nf3)) ?_
  refine wat 5 3 rfl (by kernel_rfl) (fun _ _ _ hz Sz => .inl (U3 rfl rfl uT3 rfl (Sz.suf.boxc (i := 1) rfl rfl))) ?_
  refine wat 6 2 rfl (by kernel_rfl) (fun _ _ _ hz Sz => .inl (Uj (C := cdPl) x.a.toNat rfl rfl rfl sl68 (by first | rfl | omega) (hso.mono (Hp.Ua hz Sz.mx)) (by first | omega | (simp only [ls]; omega)))) ?_
  refine wat 7 1 rfl (by kernel_rfl) (fun _ _ _ hz Sz => .inl (U8 (us := [_, _]) rfl rfl uT190 rfl sz190 ((hso.mono (Hp.Ua hz Sz.mx)).U1x Sz.um (e := x.a.toNat) (by first | omega | (simp only [ls]; omega)) (j := 0) ⟨rfl, rfl, trivial⟩))) ?_
  refine Um (i := 8) 0 rfl (by kernel_rfl) rfl rfl (fun w12 S12 => ?_)
  refine (U7 (i := 0) (us := [_, _]) (l' := [_, _]) (H' := [_, _]) rfl rfl S12 rfl rfl rfl rfl sz190 rfl rfl rfl rfl ?_)
  intro w13 S13; clear S12
  refine U10.turn (by kernel_rfl) S13 ?_; clear S13
  change WA _ _ _ _ _ _ _ _ _ _ _ _ [_, _]
  refine Uu (by kernel_rfl) (fun w14 S14 => ?_)
  refine nmk [4] rfl (U4 (Uk hC [_] rfl rfl ⟨⟨_, rfl, Up (us := [_, _]) uT190 rfl sz190 (S14.boxcs (i := 0) rfl ⟨rfl, rfl, trivial⟩)⟩, trivial⟩ ?_))
  exact ⟨_, rfl, (S14.pick [] [] (by decide) trivial), (by rw [hb6] at hE3; show Value.agg (plF (ga (tabL d _ (4 * d.crs.length)) x.a.toNat)).toArray = _; rw [hE3, hb6])⟩
 ·refine Uf rfl (nmk [0, 3, 4] rfl (U4 (U2 Z18 Z19 rfl rfl rfl (Ux rfl (by kernel_rfl) S2 9 rfl ?_))))
  clear S2
  refine wap 0 8 rfl (by kernel_rfl) (fun _ => run_move rfl rfl) ?_
  refine wap 1 7 rfl (by kernel_rfl) (fun _ => U9 rfl rfl) ?_
  refine wap 2 6 rfl (by kernel_rfl) (fun _ => U0 rfl rfl uT70 rfl (ce68) (nf68)) ?_
  refine wat 3 5 rfl (by kernel_rfl) (fun _ _ _ hz Sz => .inl (U3 rfl rfl uT68 rfl ((hsb.mono (Hp.Ua hz Sz.mx)).cell Sz.um rfl))) ?_
  refine wap 4 4 rfl (by kernel_rfl) (fun _ => U0 rfl rfl uT26 rfl (ce3) (nf3)) ?_
  refine wat 5 3 rfl (by kernel_rfl) (fun _ _ _ hz Sz => .inl (U3 rfl rfl uT3 rfl (Sz.suf.boxc (i := 1) rfl rfl))) ?_
  refine wat 6 2 rfl (by kernel_rfl) (fun _ _ _ hz Sz => .inl (Uj (C := cdPl) x.a.toNat rfl rfl rfl sl68 (by first | rfl | omega) (hsi.mono (Hp.Ua hz Sz.mx)) (by first | omega | (simp only [ls]; omega)))) ?_
  refine wat 7 1 rfl (by kernel_rfl) (fun _ _ _ hz Sz => .inl (U8 (us := [_, _]) rfl rfl uT190 rfl sz190 ((hsi.mono (Hp.Ua hz Sz.mx)).U1x Sz.um (e := x.a.toNat) (by first | omega | (simp only [ls]; omega)) (j := 0) ⟨rfl, rfl, trivial⟩))) ?_
  refine Um (i := 8) 0 rfl (by kernel_rfl) rfl rfl (fun w24 S24 => ?_)
  refine (U7 (i := 0) (us := [_, _]) (l' := [_, _]) (H' := [_, _]) rfl rfl S24 rfl rfl rfl rfl sz190 rfl rfl rfl rfl ?_)
  intro w25 S25; clear S24
  refine U10.turn (by kernel_rfl) S25 ?_; clear S25
  change WA _ _ _ _ _ _ _ _ _ _ _ _ [_, _]
  refine Uu (by kernel_rfl) (fun w26 S26 => ?_)
  refine nmk [4] rfl (U4 (Uk hC [_] rfl rfl ⟨⟨_, rfl, Up (us := [_, _]) uT190 rfl sz190 (S26.boxcs (i := 0) rfl ⟨rfl, rfl, trivial⟩)⟩, trivial⟩ ?_))
  exact ⟨_, rfl, (S26.pick [] [] (by decide) trivial), (by rw [hb6] at hE3; show Value.agg (plF (ga (tabL d _ (4 * d.crs.length)) x.a.toNat)).toArray = _; rw [hE3, hb6])⟩
noncomputable def Z1a:=Tryz.f108.body.getD .skip
def Z1b := cL Z1a
def Z1c := cR Z1a
def Z1d := cL Z1c
def Z1e := cR Z1c
def Z1f := cL Z1e
def Z1g := cR Z1e
def Z1h := cL Z1g
def Z1i := cR Z1g
set_option maxRecDepth 10000 in
theorem Left_q {w : World} {M : Hp} {X : Fr} (d : Dg) {gsh : Nat} {cA iA oA : Option Addr} {cc ic oc : Nat} (x : Da) (hsb : BxM (M.un X.h) gsh 70 [.slice cA d.crs.length cc, .int .i64 d.loops, .slice iA (tabL d false (4 * d.crs.length)).length ic, .slice oA (tabL d true (4 * d.crs.length)).length oc]) (hsc : RdA cdCr (M.un X.h) cA cc d.crs) (hsi : RdA cdPl (M.un X.h) iA ic (tabL d false (4 * d.crs.length))) (hso : RdA cdPl (M.un X.h) oA oc (tabL d true (4 * d.crs.length))) (hn : d.crs.length ≤ 16) (hab : U1b d = true) (hx : okD d x) (S : SH w M X []) : Cq Tryz.prog 108 [.pointer (some ⟨gsh, 0, none⟩), .agg [.int .i64 x.a, .bool x.b].toArray] w M X (fun u => u = .agg (daF (leftD d x)).toArray) := by
 unfold Cq
 obtain ⟨hE1, hE2, hE3, hE4, hE5⟩ := endD hab hx x.b
 have htl : ∀ b, (tabL d b (4 * d.crs.length)).length = 2 * d.crs.length + 1 := fun b => U1m d b _
 have htf := htl false
 have htt := htl true
 have hx1 := hx.1
 have hx2 := hx.2
 refine Uo (b := Z1a) Tryz.func108 rfl Tryz.ntmps108 rfl (fun C hC => (U14 [(0, _), (1, _)] ⟨rfl, rfl, trivial⟩ (U2 Z1b Z1c rfl rfl rfl (U1 rfl (wlo 0 1 rfl rfl rfl (U18 (l := [_, _]) rfl rfl rfl rfl rfl S ?_))))))
 intro gb1 w1 S1; clear S
 refine wlo 1 2 rfl rfl rfl (Uh (l := [_, _]) rfl rfl rfl zr26 rfl S1 ?_)
 intro gb2 w2 S2; clear S1
 refine U5 rfl (nmk [0, 3, 4] rfl (U4 (U2 Z1d Z1e rfl rfl rfl (U1 rfl (mvs 0 1 rfl rfl (wlr 1 rfl (U8 (us := [_, _]) rfl rfl uT26 rfl sz26 (S2.boxcs (i := 1) rfl ⟨rfl, rfl, trivial⟩)) (wlo 2 3 rfl rfl rfl (U20 rfl rfl rfl rfl rfl rfl rfl cf106 S2 (Head_q d x (hsb.mono S2.Uw) (hsc.mono S2.Uw) (hsi.mono S2.Uw) (hso.mono S2.Uw) (by first | assumption | omega) hab (by first | assumption | omega) S2.lend) ?_))))))))
 rintro _ w3 S3 rfl; clear S2
 refine wlo 3 4 rfl rfl rfl (Uh (l := [_, _]) rfl rfl rfl zr190 rfl S3 ?_)
 intro gb3 w4 S4; clear S3
 refine wlo 4 5 rfl rfl rfl (U7 (i := 0) (us := [_, _]) (l' := [_, _]) (H' := [_, _, _]) rfl rfl S4 rfl rfl rfl rfl sz190 rfl rfl rfl rfl ?_)
 intro w5 S5; clear S4
 refine U5 rfl (nmk [0, 4, 5] rfl (U4 (U2 Z1f Z1g rfl rfl rfl (U1 rfl (wlr 0 rfl (U0 rfl rfl uT190 rfl (ce3) (nf3)) (wlr 1 rfl (U3 rfl rfl uT3 rfl (S5.boxc (i := 0) rfl rfl)) (wlr 2 rfl (U0 rfl rfl uT190 rfl (ce3) (nf3)) (wlr 3 rfl (U3 rfl rfl uT3 rfl (S5.boxc (i := 0) rfl rfl)) ?_))))))))
 refine wlr 4 rfl (Ug rfl rfl rfl (by first | omega | (simp only [ls]; omega))) ?_
 refine wlr 5 rfl (run_sub rfl rfl rfl (by first | omega | (simp only [ls]; omega))) ?_
 refine wlr 6 rfl (U2i rfl rfl rfl (by first | omega | (simp only [ls]; omega))) ?_
 refine U1t 16 (.int .i64 ((((Ud d x.a x.b).2 + 3) % 4 : Nat) : Int)) rfl (int_eq (by omega)) ?_
 have hlt4 : ((Ud d x.a x.b).2 + 3) % 4 < 4 := Nat.mod_lt _ (by decide)
 refine wlr 7 rfl (run_build (l := [_, _]) rfl rfl st190 rfl rfl) (wlo 8 9 rfl rfl rfl (Uh (l := [_, _]) rfl rfl rfl zr190 rfl S5 ?_))
 intro gb4 w6 S6; clear S5
 refine wlo 9 10 rfl rfl rfl (U7 (i := 0) (us := [_, _]) (l' := [_, _]) (H' := [_, _, _, _]) rfl rfl S6 rfl rfl rfl rfl sz190 rfl rfl rfl rfl ?_)
 intro w7 S7; clear S6
 refine U5 rfl (nmk [0, 4, 6] rfl (U4 (U2 Z1h Z1i rfl rfl rfl (Ux rfl (by kernel_rfl) S7 17 rfl ?_))))
 clear S7
 refine wap 0 16 rfl (by kernel_rfl) (fun _ => run_move rfl rfl) ?_
 refine wat 1 15 rfl (by kernel_rfl) (fun _ _ _ hz Sz => .inl (U8 (us := [_, _]) rfl rfl uT190 rfl sz190 (Sz.suf.boxcs (i := 0) rfl ⟨rfl, rfl, trivial⟩))) ?_
 refine wat 2 14 rfl (by kernel_rfl) (fun _ _ _ hz Sz => Uq rfl rfl rfl rfl rfl cf129 Sz (At_q d ((Ud d x.a x.b).1) (((Ud d x.a x.b).2 + 3) % 4) ((hsb.mono (Hp.Ua hz Sz.mx)).mono Sz.Uw) ((hsc.mono (Hp.Ua hz Sz.mx)).mono Sz.Uw) ((hsi.mono (Hp.Ua hz Sz.mx)).mono Sz.Uw) ((hso.mono (Hp.Ua hz Sz.mx)).mono Sz.Uw) (by omega) (by omega) Sz.lend)) ?_
 refine wap 3 13 rfl (by kernel_rfl) (fun _ => run_move rfl rfl) ?_
 refine wap 4 12 rfl (by kernel_rfl) (fun _ => U9 rfl rfl) ?_
 refine wap 5 11 rfl (by kernel_rfl) (fun _ => U0 rfl rfl uT70 rfl (ce24) (nf24)) ?_
 refine wap 6 10 rfl (by kernel_rfl) (fun _ => U0 rfl rfl uT24 rfl (ce22) (nf22)) ?_
 refine wat 7 9 rfl (by kernel_rfl) (fun _ _ _ hz Sz => .inl (U3 rfl rfl uT22 rfl ((hsb.mono (Hp.Ua hz Sz.mx)).cell Sz.um rfl))) ?_
 refine wap 8 8 rfl (by kernel_rfl) (fun _ => U0 rfl rfl uT190 rfl (ce3) (nf3)) ?_
 refine wat 9 7 rfl (by kernel_rfl) (fun _ _ _ hz Sz => .inl (U3 rfl rfl uT3 rfl (Sz.suf.boxc (i := 0) rfl rfl))) ?_
 refine wat 10 6 rfl (by kernel_rfl) (fun _ _ _ hz Sz => .inl (Uj (C := cdCr) ((Ud d x.a x.b).1) rfl rfl rfl sl22 (by first | rfl | omega) (hsc.mono (Hp.Ua hz Sz.mx)) (by first | omega | (simp only [ls]; omega)))) ?_
 refine wat 11 5 rfl (by kernel_rfl) (fun _ _ _ hz Sz => .inl (U8 (us := [_, _, _, _, _]) rfl rfl uT77 rfl sz77 ((hsc.mono (Hp.Ua hz Sz.mx)).U1x Sz.um (e := (Ud d x.a x.b).1) (by first | omega | (simp only [ls]; omega)) (j := 0) ⟨rfl, rfl, rfl, rfl, rfl, trivial⟩))) ?_
 refine wap 12 4 rfl (by kernel_rfl) (fun _ => U0 rfl rfl uT190 rfl (ce3) (nf3)) ?_
 refine wat 13 3 rfl (by kernel_rfl) (fun _ _ _ hz Sz => .inl (U3 rfl rfl uT3 rfl (Sz.suf.boxc (i := 0) rfl rfl))) ?_
 refine wat 14 2 rfl (by kernel_rfl) (fun _ _ _ hz Sz => Uq rfl rfl rfl rfl rfl cf133 Sz (Comes_q (ga d.crs ((Ud d x.a x.b).1)) (((Ud d x.a x.b).2 + 3) % 4) (by omega) Sz.lend)) ?_
 refine wat 15 1 rfl (by kernel_rfl) (fun _ _ _ hz Sz => .inl (run_build (l := [_, _]) rfl rfl st26 rfl rfl)) ?_
 refine Um (i := 16) 0 rfl (by kernel_rfl) rfl rfl (fun w25 S25 => ?_)
 refine (U7 (i := 2) (us := [_, _]) (l' := [_, _]) (H' := [_, _, _, _]) rfl rfl S25 rfl rfl rfl rfl sz26 rfl rfl rfl rfl ?_)
 intro w26 S26; clear S25
 refine U10.turn (by kernel_rfl) S26 ?_; clear S26
 change WA _ _ _ _ _ _ _ _ _ _ _ _ [_, _, _, _]
 refine Uu (by kernel_rfl) (fun w27 S27 => ?_)
 refine nmk [4] rfl (U4 (Uk hC [_] rfl rfl ⟨⟨_, rfl, Up (us := [_, _]) uT26 rfl sz26 (S27.boxcs (i := 2) rfl ⟨rfl, rfl, trivial⟩)⟩, trivial⟩ ?_))
 exact ⟨_, rfl, (S27.pick [] [] (by decide) trivial), rfl⟩
noncomputable def Z1j:=Tryz.f163.body.getD .skip
def Z1k := cL Z1j
def Z1l := cR Z1j
def Z1m := cL Z1l
def Z1n := cR Z1l
def Z1o := cL Z1n
def Z1p := cR Z1n
def Z1q := cL Z1o
def Z1r := cR Z1o
def Z1s := cL Z1r
def Z1t := cR Z1r
def Z1u := cL Z1s
def Z1v := cR Z1s
def Z1w := cL Z1p
def Z1x := cR Z1p
set_option maxRecDepth 10000 in
theorem Other_q {w : World} {M : Hp} {X : Fr} (d : Dg) {gsh : Nat} {cA iA oA : Option Addr} {cc ic oc : Nat} (c k : Nat) (hsb : BxM (M.un X.h) gsh 70 [.slice cA d.crs.length cc, .int .i64 d.loops, .slice iA (tabL d false (4 * d.crs.length)).length ic, .slice oA (tabL d true (4 * d.crs.length)).length oc]) (hsc : RdA cdCr (M.un X.h) cA cc d.crs) (hsi : RdA cdPl (M.un X.h) iA ic (tabL d false (4 * d.crs.length))) (hso : RdA cdPl (M.un X.h) oA oc (tabL d true (4 * d.crs.length))) (hn : d.crs.length ≤ 16) (hab : U1b d = true) (hc : c < d.crs.length) (hk : k < 4) (S : SH w M X []) : Cq Tryz.prog 163 [.pointer (some ⟨gsh, 0, none⟩), .agg [.int .i64 (c : Int), .int .i64 (k : Int)].toArray] w M X (fun u => u = .agg (plF (Ud d (U1g d c k) (U1k d c k))).toArray) := by
 unfold Cq
 have hx := U2b hab hc hk
 have hx1 := hx.1
 have hx2 := hx.2
 obtain ⟨hE1, hE2, hE3, hE4, hE5⟩ := endD hab hx (U1k d c k)
 have htl : ∀ b, (tabL d b (4 * d.crs.length)).length = 2 * d.crs.length + 1 := fun b => U1m d b _
 have htf := htl false
 have htt := htl true
 refine Uo (b := Z1j) Tryz.func163 rfl Tryz.ntmps163 rfl (fun C hC => (U14 [(0, _), (1, _)] ⟨rfl, rfl, trivial⟩ (U2 Z1k Z1l rfl rfl rfl (U1 rfl (wlo 0 1 rfl rfl rfl (U18 (l := [_, _]) rfl rfl rfl rfl rfl S ?_))))))
 intro gb1 w1 S1; clear S
 refine wlo 1 2 rfl rfl rfl (Uh (l := [_, _]) rfl rfl rfl zr190 rfl S1 ?_)
 intro gb2 w2 S2; clear S1
 refine U5 rfl (nmk [0, 3, 4] rfl (U4 (U2 Z1m Z1n rfl rfl rfl (U1 rfl (mvs 0 1 rfl rfl (wlr 1 rfl (U8 (us := [_, _]) rfl rfl uT190 rfl sz190 (S2.boxcs (i := 1) rfl ⟨rfl, rfl, trivial⟩)) (wlo 2 3 rfl rfl rfl (U20 rfl rfl rfl rfl rfl rfl rfl cf129 S2 (At_q d c k (hsb.mono S2.Uw) (hsc.mono S2.Uw) (hsi.mono S2.Uw) (hso.mono S2.Uw) (by omega) (by omega) S2.lend) ?_))))))))
 rintro _ w3 S3 rfl; clear S2
 refine mvs 3 1 rfl rfl (U5 rfl (nmk [0, 3, 4, 5] rfl (U4 (U2 Z1o Z1p rfl rfl rfl (U2 Z1q Z1r rfl rfl rfl (Ux rfl (by kernel_rfl) S3 12 rfl ?_))))))
 clear S3
 refine wap 0 11 rfl (by kernel_rfl) (fun _ => run_move rfl rfl) ?_
 refine wap 1 10 rfl (by kernel_rfl) (fun _ => U9 rfl rfl) ?_
 refine wap 2 9 rfl (by kernel_rfl) (fun _ => U0 rfl rfl uT70 rfl (ce24) (nf24)) ?_
 refine wap 3 8 rfl (by kernel_rfl) (fun _ => U0 rfl rfl uT24 rfl (ce22) (nf22)) ?_
 refine wat 4 7 rfl (by kernel_rfl) (fun _ _ _ hz Sz => .inl (U3 rfl rfl uT22 rfl ((hsb.mono (Hp.Ua hz Sz.mx)).cell Sz.um rfl))) ?_
 refine wap 5 6 rfl (by kernel_rfl) (fun _ => U0 rfl rfl uT190 rfl (ce3) (nf3)) ?_
 refine wat 6 5 rfl (by kernel_rfl) (fun _ _ _ hz Sz => .inl (U3 rfl rfl uT3 rfl (Sz.suf.boxc (i := 1) rfl rfl))) ?_
 refine wat 7 4 rfl (by kernel_rfl) (fun _ _ _ hz Sz => .inl (Uj (C := cdCr) c rfl rfl rfl sl22 (by first | rfl | omega) (hsc.mono (Hp.Ua hz Sz.mx)) (by first | omega | (simp only [ls]; omega)))) ?_
 refine wat 8 3 rfl (by kernel_rfl) (fun _ _ _ hz Sz => .inl (U8 (us := [_, _, _, _, _]) rfl rfl uT77 rfl sz77 ((hsc.mono (Hp.Ua hz Sz.mx)).U1x Sz.um (e := c) (by first | omega | (simp only [ls]; omega)) (j := 0) ⟨rfl, rfl, rfl, rfl, rfl, trivial⟩))) ?_
 refine wap 9 2 rfl (by kernel_rfl) (fun _ => U0 rfl rfl uT190 rfl (ce3) (nf3)) ?_
 refine wat 10 1 rfl (by kernel_rfl) (fun _ _ _ hz Sz => .inl (U3 rfl rfl uT3 rfl (Sz.suf.boxc (i := 1) rfl rfl))) ?_
 refine wat 11 0 rfl (by kernel_rfl) (fun _ _ _ hz Sz => Uq rfl rfl rfl rfl rfl cf133 Sz (Comes_q (ga d.crs c) k (by omega) Sz.lend)) ?_
 refine Uu (by kernel_rfl) (fun w16 S16 => ?_)
 refine nmk [0, 4, 5, 20] rfl (U4 ?_)
 refine U19 Z1s Z1t rfl rfl rfl rfl (fun hb20 => ?_) (fun hb20 => ?_)
 ·refine U2 Z1u Z1v rfl rfl rfl (U1 rfl (mvs 0 1 rfl rfl (wlr 1 rfl (U9 rfl rfl) (wlr 2 rfl (U0 rfl rfl uT70 rfl (ce68) (nf68)) (wlr 3 rfl (U3 rfl rfl uT68 rfl (hsb.cell S16.um rfl)) (mvs 4 1 rfl rfl (wlr 5 rfl (Uj (C := cdPl) ((U1g d c k).toNat) rfl rfl rfl sl68 (by first | rfl | omega) hso (by first | omega | (simp only [ls]; omega))) ?_)))))))
  refine wlr 6 rfl (U8 (us := [_, _]) rfl rfl uT190 rfl sz190 (hso.U1x S16.um (e := (U1g d c k).toNat) (by first | omega | (simp only [ls]; omega)) (j := 0) ⟨rfl, rfl, trivial⟩)) ?_
  refine wlo 7 8 rfl rfl rfl (U7 (i := 0) (us := [_, _]) (l' := [_, _]) (H' := [_, _]) rfl rfl S16 rfl rfl rfl rfl sz190 rfl rfl rfl rfl ?_)
  intro w17 S17; clear S16
  refine U5 rfl (nmk [4] rfl (U4 (Uk hC [_] rfl rfl ⟨⟨_, rfl, Up (us := [_, _]) uT190 rfl sz190 (S17.boxcs (i := 0) rfl ⟨rfl, rfl, trivial⟩)⟩, trivial⟩ ?_)))
  exact ⟨_, rfl, (S17.pick [] [] (by decide) trivial), (by have hb9 : U1k d c k = _ := hb20; rw [hb9] at hE3 ⊢; show Value.agg (plF (ga (tabL d _ (4 * d.crs.length)) (U1g d c k).toNat)).toArray = _; rw [hE3])⟩
 ·refine Uf rfl (nmk [0, 4, 5] rfl (U4 (U2 Z1w Z1x rfl rfl rfl (U1 rfl (mvs 0 1 rfl rfl (wlr 1 rfl (U9 rfl rfl) (wlr 2 rfl (U0 rfl rfl uT70 rfl (ce68) (nf68)) (wlr 3 rfl (U3 rfl rfl uT68 rfl (hsb.cell S16.um rfl)) ?_))))))))
  refine mvs 4 1 rfl rfl (wlr 5 rfl (Uj (C := cdPl) ((U1g d c k).toNat) rfl rfl rfl sl68 (by first | rfl | omega) hsi (by first | omega | (simp only [ls]; omega))) ?_)
  refine wlr 6 rfl (U8 (us := [_, _]) rfl rfl uT190 rfl sz190 (hsi.U1x S16.um (e := (U1g d c k).toNat) (by first | omega | (simp only [ls]; omega)) (j := 0) ⟨rfl, rfl, trivial⟩)) ?_
  refine wlo 7 8 rfl rfl rfl (U7 (i := 0) (us := [_, _]) (l' := [_, _]) (H' := [_, _]) rfl rfl S16 rfl rfl rfl rfl sz190 rfl rfl rfl rfl ?_)
  intro w18 S18; clear S16
  refine U5 rfl (nmk [4] rfl (U4 (Uk hC [_] rfl rfl ⟨⟨_, rfl, Up (us := [_, _]) uT190 rfl sz190 (S18.boxcs (i := 0) rfl ⟨rfl, rfl, trivial⟩)⟩, trivial⟩ ?_)))
  exact ⟨_, rfl, (S18.pick [] [] (by decide) trivial), (by have hb9 : U1k d c k = _ := hb20; rw [hb9] at hE3 ⊢; show Value.agg (plF (ga (tabL d _ (4 * d.crs.length)) (U1g d c k).toNat)).toArray = _; rw [hE3])⟩
end Go.Proofs.YthppkofceancjaaGreat
