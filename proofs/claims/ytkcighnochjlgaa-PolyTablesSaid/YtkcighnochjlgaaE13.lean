/- Maps of the call's own. Nothing of one program stands here. -/
import Derived.Test.YtkcighnochjlgaaE11
import Derived.MapKept
import Derived.Carry
namespace Go.Proofs.Ytkcighnochjlgaa
open Go.ChangeShapes Go.WideShapes Go.ChangeAt Go.RowKit

/-! ### Entries as pairs -/
section
variable {κ ε : Type} [DecidableEq κ]
def mg (k : κ) : List (κ × ε) → Option ε
  | [] => none
  | p :: r => if k = p.1 then some p.2 else mg k r
def mp (k : κ) (v : ε) : List (κ × ε) → List (κ × ε)
  | [] => [(k, v)]
  | p :: r => if k = p.1 then (k, v) :: r else p :: mp k v r
def fk (k : κ) : List (κ × ε) → Nat → Option (Nat × ε)
  | [], _ => none
  | p :: r, i => if k = p.1 then some (i, p.2) else fk k r (i + 1)
theorem mg_mp (k k' : κ) (v : ε) : ∀ es : List (κ × ε), mg k (mp k' v es) = if k = k' then some v else mg k es
  | [] => by simp [mp, mg]
  | p :: r => by
    unfold mp
    by_cases h : k' = p.1
    · rw [if_pos h]
      by_cases h2 : k = k'
      · simp [mg, h2]
      · have h3 : k ≠ p.1 := fun e => h2 (e.trans h.symm)
        simp [mg, h2, h3]
    · rw [if_neg h]
      have ih := mg_mp k k' v r
      by_cases h2 : k = p.1
      · have h3 : k ≠ k' := fun e => h (e.symm.trans h2)
        rw [if_neg h3]
        simp [mg, h2]
      · simp only [mg, if_neg h2, ih]
theorem mp_len (k : κ) (v : ε) : ∀ es : List (κ × ε), (mp k v es).length ≤ es.length + 1
  | [] => by simp [mp]
  | p :: r => by
    unfold mp
    split
    · simp
    · have := mp_len k v r
      simp; omega
theorem fk_none {k : κ} : ∀ {es : List (κ × ε)} {i : Nat}, fk k es i = none → mg k es = none ∧ ∀ v, mp k v es = es ++ [(k, v)]
  | [], _, _ => ⟨rfl, fun _ => rfl⟩
  | p :: r, i, h => by
    unfold fk at h
    split at h
    · cases h
    · rename_i hne
      obtain ⟨h1, h2⟩ := fk_none h
      exact ⟨by simp [mg, hne, h1], fun v => by simp [mp, hne, h2 v]⟩
theorem fk_some {k : κ} : ∀ {es : List (κ × ε)} {i j : Nat} {v : ε}, fk k es i = some (j, v) → mg k es = some v ∧ ∃ m, j = i + m ∧ ∃ p, es[m]? = some p ∧ p.1 = k ∧ ∀ v', mp k v' es = es.set m (k, v')
  | p :: r, i, j, v, h => by
    unfold fk at h
    split at h
    · rename_i he
      injection h with h
      injection h with h1 h2
      exact ⟨by simp [mg, he, h2], 0, by omega, p, rfl, he.symm, fun v' => by simp [mp, he]⟩
    · rename_i hne
      obtain ⟨h1, m, h2, q, h3, h4, h5⟩ := fk_some h
      exact ⟨by simp [mg, hne, h1], m + 1, by omega, q, by simpa using h3, h4, fun v' => by simp [mp, hne, h5 v']⟩
end

/-- How a map's keys lie: each value's key. -/
structure MapK (P : Program) (K : TypeId) {κ : Type} [DecidableEq κ] (kc : κ → Value) : Prop where
  check : ∀ k w b, (Instr.checkKey b 10000 K (kc k)).run P w = .ok () w
  find : ∀ (k : κ) (es : List (κ × Value)) (l : List MapEntry) (w : World), l.map (fun e => (e.key, e.val)) = es.map (fun p => (kc p.1, p.2)) → (Instr.findKey K (kc k) l).run P w = .ok (fk k es 0) w
  bits : ∀ k, Instr.sameBits 10000 (kc k) (kc k) = true
theorem mapK_int {P : Program} {K : TypeId} (hu : P.underlying K = some (.int .i64)) : MapK P K (Value.int .i64) := by
  have hfind : ∀ (k : Int) (es : List (Int × Value)) (l : List MapEntry) (i : Nat), l.map (fun e => (e.key, e.val)) = es.map (fun p => (Value.int .i64 p.1, p.2)) → Instr.findNow (.int .i64) (.int .i64 k) l i = some (fk k es i) := by
    intro k es
    induction es with
    | nil => intro l i h; rw [List.map_nil, List.map_eq_nil_iff] at h; subst h; rfl
    | cons p es ih =>
      intro l i h
      cases l with
      | nil => cases h
      | cons e l =>
        simp only [List.map_cons, List.cons.injEq, Prod.mk.injEq] at h
        unfold Instr.findNow fk
        rw [h.1.1]
        simp only [Instr.sameNow, if_true]
        by_cases hk : k = p.1
        · simp [hk, h.1.2]
        · have e1 : (k == p.1) = false := by simpa using hk
          rw [e1, if_neg hk]
          exact ih l (i + 1) h.2
  refine ⟨fun k w b => ?_, fun k es l w h => MapKept.run_findKey hu (hfind k es l 0 h), fun k => by simp [Instr.sameBits]⟩
  rw [show (10000 : Nat) = 9999 + 1 from rfl]
  unfold Instr.checkKey
  simp only [Sem.run_bind, run_underlying hu, Result.andThen]
  rfl
/-- .. where the key is a struct of numbers and Bools. -/
theorem mapK_st {P : Program} {K : TypeId} {κ : Type} [DecidableEq κ] {f : κ → List Value} {pl : List (Nat × Bool)} (hT : StEq P K pl) (he : ∀ x y, ∃ Q, EqIs (f x) (f y) pl Q ∧ (Q ↔ x = y)) (hb : ∀ k, Instr.sameBits 10000 (.agg (f k).toArray) (.agg (f k).toArray) = true) : MapK P K (fun k => .agg (f k).toArray) := by
  have heq : ∀ (x y : κ) (w : World), (Op.equal K (.agg (f x).toArray) (.agg (f y).toArray)).run P w = .ok (decide (x = y)) w := by
    intro x y w
    obtain ⟨Q, h1, h2⟩ := he x y
    haveI : Decidable Q := decidable_of_iff _ h2.symm
    have := run_equalSt (P := P) (w := w) hT h1
    rw [show decide (x = y) = decide Q from decide_eq_decide.2 h2.symm]
    exact this
  have hask : ∀ (k : κ) (es : List (κ × Value)) (l : List MapEntry) (i : Nat) (w : World), l.map (fun e => (e.key, e.val)) = es.map (fun p => (Value.agg (f p.1).toArray, p.2)) → (Instr.findAsking K (.agg (f k).toArray) l i).run P w = .ok (fk k es i) w := by
    intro k es
    induction es with
    | nil => intro l i w h; rw [List.map_nil, List.map_eq_nil_iff] at h; subst h; rfl
    | cons p es ih =>
      intro l i w h
      cases l with
      | nil => cases h
      | cons e l =>
        simp only [List.map_cons, List.cons.injEq, Prod.mk.injEq] at h
        unfold Instr.findAsking fk
        rw [h.1.1]
        simp only [Sem.run_bind, heq, Result.andThen]
        by_cases hk : k = p.1
        · simp [hk, h.1.2]
        · simp only [hk, decide_false, Bool.false_eq_true, if_false]
          exact ih l (i + 1) w h.2
  obtain ⟨fs, hu, ha, hs, _⟩ := hT
  refine ⟨fun k w b => ?_, fun k es l w h => ?_, hb⟩
  · have hfs : ∀ (fs : List Field) (pl : List (Nat × Bool)) (Q : Prop), Al2 (FE P) fs pl → EqIs (f k) (f k) pl Q → ((forIn fs PUnit.unit fun (fld : Field) (_ : PUnit) => if fld.name ≠ "_" then (do
        let x ← part fld.type (f k).toArray fld.offset
        Instr.checkKey b 9999 fld.type x
        pure (ForInStep.yield PUnit.unit) : Sem (ForInStep PUnit)) else pure (ForInStep.yield PUnit.unit)) : Sem PUnit).run P w = .ok () w := by
      intro fs
      induction fs with
      | nil => intro pl Q _ _; rfl
      | cons fld fs ih =>
        intro pl Q ha h
        cases pl with
        | nil => exact False.elim ha
        | cons p pl =>
          obtain ⟨o, bb⟩ := p
          obtain ⟨⟨hn, ho, hu'⟩, ha⟩ := ha
          obtain ⟨Q1, Q2, h1, h2, _⟩ := eqIs_go h
          have hne : fld.name ≠ "_" := by simpa using hn
          simp only at ho
          have key : ∃ u, (part fld.type (f k).toArray fld.offset).run P w = .ok u w ∧ (Instr.checkKey b 9999 fld.type u).run P w = .ok () w := by
            cases bb with
            | false =>
              obtain ⟨q, x, y, g1, _, _⟩ := h1
              obtain ⟨k', hu'⟩ := hu'
              refine ⟨_, part1 hu' rfl (by rw [ho]; exact g1), ?_⟩
              rw [show (9999 : Nat) = 9998 + 1 from rfl]
              unfold Instr.checkKey
              simp only [Sem.run_bind, run_underlying hu', Result.andThen]
              rfl
            | true =>
              obtain ⟨x, y, g1, _, _⟩ := h1
              refine ⟨_, part1 hu' rfl (by rw [ho]; exact g1), ?_⟩
              rw [show (9999 : Nat) = 9998 + 1 from rfl]
              unfold Instr.checkKey
              simp only [Sem.run_bind, run_underlying hu', Result.andThen]
              rfl
          obtain ⟨u, k1, k2⟩ := key
          have := ih pl Q2 ha h2
          rw [List.forIn_cons]
          simp only [if_pos hne, Sem.run_bind, k1, k2, Result.andThen, Sem.run_pure]
          exact this
    obtain ⟨Q, h1, _⟩ := he k k
    have := hfs fs pl Q ha h1
    rw [show (10000 : Nat) = 9999 + 1 from rfl]
    unfold Instr.checkKey
    simp only [Sem.run_bind, run_underlying hu, Result.andThen]
    rw [← Array.forIn_toList, List.toList_toArray]
    rw [this]
    rfl
  · unfold Instr.findKey
    simp only [Sem.run_bind, run_underlying hu, Result.andThen]
    cases l with
    | nil =>
      cases es with
      | nil => simp [Instr.findNow, fk]
      | cons p es => cases h
    | cons e l =>
      have hn : Instr.findNow (.struct fs.toArray) (.agg (f k).toArray) (e :: l) 0 = none := by
        unfold Instr.findNow
        simp [Instr.sameNow]
      rw [hn]
      exact hask k es (e :: l) 0 w h

/-- No stamp stands twice; all are older than the clock. -/
def Stm (arr : Array MapEntry) (clock : Nat) : Prop := (arr.toList.map (·.born)).Nodup ∧ ∀ e ∈ arr.toList, e.born < clock
def MpOk {κ ε : Type} (kc : κ → Value) (vc : ε → Value) (g : Nat) (es : List (κ × ε)) (h : Hp) : Prop :=
  ∃ arr clock, h g = some (.map arr clock) ∧ arr.toList.map (fun e => (e.key, e.val)) = es.map (fun p => (kc p.1, vc p.2)) ∧ Stm arr clock
def Rs.mp {κ ε : Type} (kc : κ → Value) (vc : ε → Value) (g : Nat) (es : List (κ × ε)) : Rs :=
  ⟨[g], MpOk kc vc g es, fun h h' hb hk => by
    obtain ⟨arr, clock, h1, h2⟩ := hk
    exact ⟨arr, clock, by rw [hb g (by simp)]; exact h1, h2⟩⟩
section
variable {P : Program} {o : Oper} {L : List (Nat × Value)} {w w' : World} {x y z : Operand} {t T K E : TypeId} {v u : Value} {n d g i : Nat} {Kt : List (Nat × Value) → World → Prop} {M M' : Hp} {X : Fr} {H H' : List Rs}
variable {κ ε : Type} [DecidableEq κ] {kc : κ → Value} {vc : ε → Value} {es : List (κ × ε)}
theorem wo_makeMap (κ ε : Type) (kc : κ → Value) (vc : ε → Value) (hop : o.op = .makeMap T none) (hd : o.dst = some d) (hn : Nat.blt d n = true) (S : SH w M X H)
    (h : ∀ g w', SH w' M X (Rs.mp kc vc g ([] : List (κ × ε)) :: H) → Kt ((d, .map (some g)) :: L) w') : WO P n o L w Kt := by
  refine wo_run (v := .map (some w.heap.size)) (w' := w.alloc (.map #[] 0)) hd hn ?_ (h _ _ ?_)
  · intro n c he
    unfold execOp
    simp only [hop, Option.map_none, run_makeMap, Sem.run_bind, Result.andThen_ok, Sem.run_pure]
  · exact S.cons (like_alloc w _) (keep_alloc w _) ⟨#[], 0, heap_alloc_new w _, rfl, by simp [Stm]⟩ (fun b hb => by simp [Rs.mp] at hb; subst hb; rw [size_al]; omega)
omit [DecidableEq κ] in
theorem map_pairs {arr : Array MapEntry} (h : arr.toList.map (fun e => (e.key, e.val)) = es.map (fun p => (kc p.1, vc p.2))) : arr.toList.map (fun e => (e.key, e.val)) = (es.map (fun p => (p.1, vc p.2))).map (fun p => (kc p.1, p.2)) := by
  rw [h, List.map_map]; rfl
theorem fk_map (k : κ) : ∀ (es : List (κ × ε)) (i : Nat), fk k (es.map (fun p => (p.1, vc p.2))) i = (fk k es i).map (fun q => (q.1, vc q.2))
  | [], _ => rfl
  | p :: r, i => by
    simp only [List.map_cons, fk]
    split
    · rfl
    · exact fk_map k r (i + 1)
theorem SH.look {k : κ} {zv : ε} (S : SH w M X H) (hi : nth H i = some (Rs.mp kc vc g es)) (hu : P.underlying T = some (.map K E)) (hK : MapK P K kc) (hz : (P.info? E).map (·.zero) = some (some (vc zv))) : (Instr.lookup T (.map (some g)) (kc k) false).run P w = .ok (vc ((mg k es).getD zv)) w ∧ (Instr.lookup T (.map (some g)) (kc k) true).run P w = .ok (.tuple #[vc ((mg k es).getD zv), .bool (mg k es).isSome]) w := by
  obtain ⟨arr, clock, hg, ha, hstm⟩ := (S.get hi : MpOk kc vc g es (hp w))
  have hf := hK.find k _ arr.toList w (map_pairs ha)
  rw [fk_map] at hf
  have hg' : w.heap[g]? = some (.map arr clock) := hg
  have hgo := MapKept.run_getObj_map (P := P) hg'
  have hc := fun b => hK.check k w b
  cases hfk : fk k es 0 with
  | none =>
    rw [hfk] at hf
    have hm := (fk_none hfk).1
    constructor
    · simp only [Instr.lookup, Sem.run_bind, run_underlying hu, hgo, hc, hf, Result.andThen_ok, Sem.run_pure, run_zero hz, Option.map_none, hm, Option.getD_none]
      rfl
    · simp only [Instr.lookup, Sem.run_bind, run_underlying hu, hgo, hc, hf, Result.andThen_ok, Sem.run_pure, run_zero hz, Option.map_none, hm, Option.getD_none]
      rfl
  | some q =>
    obtain ⟨j, v⟩ := q
    rw [hfk] at hf
    have hm := (fk_some hfk).1
    constructor
    · simp only [Instr.lookup, Sem.run_bind, run_underlying hu, hgo, hc, hf, Result.andThen_ok, Sem.run_pure, Option.map_some, hm, Option.getD_some]
      rfl
    · simp only [Instr.lookup, Sem.run_bind, run_underlying hu, hgo, hc, hf, Result.andThen_ok, Sem.run_pure, Option.map_some, hm, Option.getD_some]
      rfl
theorem run_lookup {k : κ} {zv : ε} (hop : o.op = .lookup T x y false) (hx : oev L x = some (.map (some g))) (hy : oev L y = some (kc k)) (hu : P.underlying T = some (.map K E)) (hK : MapK P K kc) (hz : (P.info? E).map (·.zero) = some (some (vc zv))) (S : SH w M X H) (hi : nth H i = some (Rs.mp kc vc g es)) : Run P o L w (vc ((mg k es).getD zv)) w := by
  intro n c he
  unfold execOp
  simp only [hop, he.eval hx, he.eval hy, (S.look hi hu hK hz).1, Sem.run_bind, Result.andThen_ok, Sem.run_pure]
theorem run_lookupOk {k : κ} {zv : ε} (hop : o.op = .lookup T x y true) (hx : oev L x = some (.map (some g))) (hy : oev L y = some (kc k)) (hu : P.underlying T = some (.map K E)) (hK : MapK P K kc) (hz : (P.info? E).map (·.zero) = some (some (vc zv))) (S : SH w M X H) (hi : nth H i = some (Rs.mp kc vc g es)) : Run P o L w (.tuple #[vc ((mg k es).getD zv), .bool (mg k es).isSome]) w := by
  intro n c he
  unfold execOp
  simp only [hop, he.eval hx, he.eval hy, (S.look hi hu hK hz).2, Sem.run_bind, Result.andThen_ok, Sem.run_pure]
theorem like_setB (w : World) (g : Nat) (ob : Obj) : Like w { w with heap := w.heap.setIfInBounds g ob } := ⟨rfl, rfl, rfl, by simp⟩
theorem wo_mapUpdate {k : κ} {e : ε} (hop : o.op = .mapUpdate T x y z ∨ o.op = .insert T x y z) (hd : o.dst = none) (S : SH w M X H) (hi : nth H i = some (Rs.mp kc vc g es)) (hx : oev L x = some (.map (some g))) (hy : oev L y = some (kc k)) (hz : oev L z = some (vc e)) (hu : P.underlying T = some (.map K E)) (hK : MapK P K kc)
    (hH : H.set i (Rs.mp kc vc g (Go.Proofs.Ytkcighnochjlgaa.mp k e es)) = H') (h : ∀ w', SH w' M X H' → Kt L w') : WO P n o L w Kt := by
  obtain ⟨arr, clock, hg, ha, hstm⟩ := (S.get hi : MpOk kc vc g es (hp w))
  have hf := hK.find k _ arr.toList w (map_pairs ha)
  rw [fk_map] at hf
  have hg' : w.heap[g]? = some (.map arr clock) := hg
  have hgo := MapKept.run_getObj_map (P := P) hg'
  have hc := fun b => hK.check k w b
  have key : ∃ arr' clock', (Instr.mapUpdate T (.map (some g)) (kc k) (vc e)).run P w = .ok () { w with heap := w.heap.setIfInBounds g (.map arr' clock') } ∧ arr'.toList.map (fun e => (e.key, e.val)) = (Go.Proofs.Ytkcighnochjlgaa.mp k e es).map (fun p => (kc p.1, vc p.2)) ∧ Stm arr' clock' := by
    cases hfk : fk k es 0 with
    | none =>
      rw [hfk] at hf
      refine ⟨arr.push { key := kc k, val := vc e, born := clock }, clock + 1, ?_, ?_, ?_⟩
      · simp only [Instr.mapUpdate, Sem.run_bind, run_underlying hu, hgo, hc, hf, Result.andThen_ok, Option.map_none, MapKept.run_setObj_map _ hg']
      · rw [(fk_none hfk).2 e, Array.toList_push, List.map_append, List.map_append, ha]; rfl
      · refine ⟨?_, fun x hx => ?_⟩
        · rw [Array.toList_push, List.map_append]
          refine List.nodup_append.2 ⟨hstm.1, by simp, fun a ha' b hb' => ?_⟩
          obtain ⟨x, hx, rfl⟩ := List.mem_map.1 ha'
          simp at hb'
          have := hstm.2 x hx
          omega
        · rw [Array.toList_push] at hx
          rcases List.mem_append.1 hx with h1 | h1
          · have := hstm.2 x h1; omega
          · simp at h1; subst h1; exact Nat.lt_succ_self _
    | some q =>
      obtain ⟨j, v⟩ := q
      rw [hfk] at hf
      obtain ⟨_, m, hj, p, hp1, hp2, hset⟩ := fk_some hfk
      obtain rfl : j = m := by omega
      have hlen : arr.toList.length = es.length := by have := congrArg List.length ha; simpa using this
      have hjl : j < es.length := (List.getElem?_eq_some_iff.1 hp1).1
      have hja : j < arr.size := by rw [← Array.length_toList, hlen]; exact hjl
      have hkey : (arr[j]?).map (·.key) = some (kc k) := by
        have h1 := congrArg (fun l => l[j]?) ha
        simp only [List.getElem?_map, hp1, Option.map_some] at h1
        rw [Array.getElem?_toList, Array.getElem?_eq_getElem hja] at h1
        rw [Array.getElem?_eq_getElem hja]
        simp only [Option.map_some, Option.some.injEq, Prod.mk.injEq] at h1 ⊢
        rw [h1.1, hp2]
      refine ⟨arr.modify j fun e' => { e' with key := kc k, val := vc e }, clock, ?_, ?_, ?_⟩
      · have hst : (Instr.keyThatStays (kc k) (kc k)).run P w = .ok (kc k) w := by
          unfold Instr.keyThatStays
          rw [if_pos (hK.bits k)]; rfl
        simp only [Instr.mapUpdate, Sem.run_bind, run_underlying hu, hgo, hc, hf, Result.andThen_ok, Option.map_some, hkey, Option.getD_some, hst, MapKept.run_setObj_map _ hg']
      · rw [hset e]
        apply List.ext_getElem?
        intro q
        have h1 := congrArg (fun l => l[q]?) ha
        simp only [List.getElem?_map] at h1 ⊢
        rw [Array.getElem?_toList, Array.getElem?_modify, List.getElem?_set]
        rw [Array.getElem?_toList] at h1
        by_cases hq : j = q
        · subst hq
          rw [if_pos rfl, if_pos rfl, if_pos hjl, Array.getElem?_eq_getElem hja]
          rfl
        · rw [if_neg hq, if_neg hq]
          exact h1
      · have hb : (arr.modify j fun e' => { e' with key := kc k, val := vc e }).toList.map (·.born) = arr.toList.map (·.born) := by
          apply List.ext_getElem?
          intro q
          simp only [List.getElem?_map]
          rw [Array.getElem?_toList, Array.getElem?_modify, Array.getElem?_toList]
          by_cases hq : j = q
          · subst hq; rw [if_pos rfl, Array.getElem?_eq_getElem hja]; rfl
          · rw [if_neg hq]
        refine ⟨by rw [hb]; exact hstm.1, fun x hx => ?_⟩
        have h2 : x.born ∈ arr.toList.map (·.born) := by rw [← hb]; exact List.mem_map.2 ⟨x, hx, rfl⟩
        obtain ⟨y, hy, e2⟩ := List.mem_map.1 h2
        rw [← e2]; exact hstm.2 y hy
  obtain ⟨arr', clock', hrun, hpairs, hstm'⟩ := key
  have hlt := hp_lt hg
  refine wo_runS hd (w' := { w with heap := w.heap.setIfInBounds g (.map arr' clock') }) ?_ (h _ ?_)
  · intro n c he
    unfold execOp
    rcases hop with hop | hop <;> simp only [hop, he.eval hx, he.eval hy, he.eval hz, hrun, Sem.run_bind, Result.andThen_ok, Sem.run_pure]
  · refine S.step hi hH (like_setB w g _) (fun b _ hb => ?_) ⟨arr', clock', ?_, hpairs, hstm'⟩ (fun b hb => ⟨.inl hb, ?_⟩)
    · have hne : b ≠ g := by simpa [Rs.mp] using hb
      show (w.heap.setIfInBounds g _)[b]? = w.heap[b]?
      rw [Array.getElem?_setIfInBounds_ne (Ne.symm hne)]
    · show (w.heap.setIfInBounds g _)[g]? = _
      simp [hlt]
    · simp [Rs.mp] at hb
      subst hb
      show _ < (w.heap.setIfInBounds _ _).size
      simpa using hlt
end
end Go.Proofs.Ytkcighnochjlgaa
