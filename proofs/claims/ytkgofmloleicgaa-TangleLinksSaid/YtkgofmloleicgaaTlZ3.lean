/- Part 3 of the proof of the law TangleLinks: the walks through its functions and the plain laws that they need. -/
import Derived.Test.YtkgofmloleicgaaTlZ2
set_option linter.unusedSimpArgs false
set_option linter.unusedVariables false
namespace Go.Proofs.Ytkgofmloleicgaa
open Go.ChangeShapes Go.WideShapes Go.ChangeAt Go.RowKit
section
variable {κ ε : Type} [DecidableEq κ]
theorem fk_mp (k : κ) (v : ε) : ∀ (es : List (κ × ε)) (i : Nat), fk k (mp k v es) i = some (((fk k es i).map (·.1)).getD (i + es.length), v)
  | [], i => by simp [mp, fk]
  | p :: r, i => by
    unfold mp
    by_cases h : k = p.1
    · rw [if_pos h]; simp [fk, h]
    · rw [if_neg h]
      simp only [fk, if_neg h, fk_mp k v r (i + 1), List.length_cons]
      rw [show i + 1 + r.length = i + (r.length + 1) by omega]
theorem fk_at {k : κ} : ∀ {es : List (κ × ε)} {j : Nat} {v : ε}, fk k es 0 = some (j, v) → es[j]? = some (k, v) := by
  have key : ∀ (es : List (κ × ε)) (i j : Nat) (v : ε), fk k es i = some (j, v) → ∃ m, j = i + m ∧ es[m]? = some (k, v) := by
    intro es
    induction es with
    | nil => intro i j v h; cases h
    | cons p r ih =>
      intro i j v h
      unfold fk at h
      split at h
      · rename_i he
        injection h with h
        injection h with h1 h2
        exact ⟨0, by omega, by subst he; subst h2; rfl⟩
      · obtain ⟨m, h1, h2⟩ := ih _ _ _ h
        exact ⟨m + 1, by omega, by simpa using h2⟩
  intro es j v h
  obtain ⟨m, h1, h2⟩ := key es 0 j v h
  obtain rfl : j = m := by omega
  exact h2
theorem born_idx {st : Nat} : ∀ {l : List MapEntry} {j : Nat}, (l.map (·.born)).Nodup → (l[j]?).map (·.born) = some st → l.findIdx? (fun e => ((e.born : Nat) : Int) == (st : Int)) = some j
  | [], _, _, h => by simp at h
  | e :: l, 0, _, h => by
    have h1 : e.born = st := by simpa using h
    rw [List.findIdx?_cons, if_pos (by simp [h1])]
  | e :: l, j + 1, hn, h => by
    obtain ⟨h1, h2⟩ := List.nodup_cons.1 (by simpa using hn : (e.born :: l.map (·.born)).Nodup)
    have h3 : (l[j]?).map (·.born) = some st := by simpa using h
    have hne : e.born ≠ st := fun e1 => h1 (by
      cases hl : l[j]? with
      | none => rw [hl] at h3; cases h3
      | some y =>
        rw [hl] at h3
        injection h3 with h3
        exact List.mem_map.2 ⟨y, List.mem_of_getElem? hl, (show y.born = e.born from by rw [e1]; exact h3)⟩)
    rw [List.findIdx?_cons, if_neg (by simpa using fun e1 => hne (by omega)), born_idx h2 h3]
    rfl
theorem set_same {α : Type} {l : List α} {j : Nat} {a : α} (h : l[j]? = some a) : l.set j a = l := by
  apply List.ext_getElem?
  intro q
  rw [List.getElem?_set]
  split
  · rename_i e
    subst e
    rw [h, if_pos (List.getElem?_eq_some_iff.1 h).1]
  · rfl
/-- A map one of whose entries has been found or made: its stamp. -/
def MpS (kc : κ → Value) (vc : ε → Value) (g : Nat) (es : List (κ × ε)) (k : κ) (st : Nat) (h : Hp) : Prop :=
  ∃ arr clock, h g = some (.map arr clock) ∧ arr.toList.map (fun e => (e.key, e.val)) = es.map (fun p => (kc p.1, vc p.2)) ∧ Stm arr clock ∧ ∃ j v, fk k es 0 = some (j, v) ∧ (arr[j]?).map (·.born) = some st
def Rs.mpS (kc : κ → Value) (vc : ε → Value) (g : Nat) (es : List (κ × ε)) (k : κ) (st : Nat) : Rs :=
  ⟨[g], MpS kc vc g es k st, fun h h' hb hk => by
    obtain ⟨arr, clock, h1, h2⟩ := hk
    exact ⟨arr, clock, by rw [hb g (by simp)]; exact h1, h2⟩⟩
end
section
variable {P : Program} {o : Oper} {L : List (Nat × Value)} {w w' : World} {x y z : Operand} {t T K E : TypeId} {v u : Value} {n d g i : Nat} {Kt : List (Nat × Value) → World → Prop} {M M' : Hp} {X : Fr} {H H' : List Rs}
variable {κ ε : Type} [DecidableEq κ] {kc : κ → Value} {vc : ε → Value} {es : List (κ × ε)}
theorem wo_mapEntry {k : κ} {zv : ε} (hop : o.op = .mapEntry T x y) (hd : o.dst = some d) (hn : Nat.blt d n = true) (S : SH w M X H) (hi : nth H i = some (Rs.mp kc vc g es)) (hx : oev L x = some (.map (some g))) (hy : oev L y = some (kc k)) (hu : P.underlying T = some (.map K E)) (hK : MapK P K kc) (hz : (P.info? E).map (·.zero) = some (some (vc zv)))
    (h : ∀ (st : Nat) w', SH w' M X (H.set i (Rs.mpS kc vc g (Go.Proofs.Ytkgofmloleicgaa.mp k ((mg k es).getD zv) es) k st)) → Kt ((d, .tuple #[vc ((mg k es).getD zv), .int .i64 (st : Int)]) :: L) w') : WO P n o L w Kt := by
  obtain ⟨arr, clock, hg, ha, hstm⟩ := (S.get hi : MpOk kc vc g es (hp w))
  have hf := hK.find k _ arr.toList w (map_pairs ha)
  rw [fk_map] at hf
  have hg' : w.heap[g]? = some (.map arr clock) := hg
  have hgo := MapKept.run_getObj_map (P := P) hg'
  have hc := fun b => hK.check k w b
  have hlen : arr.toList.length = es.length := by have := congrArg List.length ha; simpa using this
  have key : ∃ arr' clock' st, (Instr.mapEntry T (.map (some g)) (kc k)).run P w = .ok (.tuple #[vc ((mg k es).getD zv), .int .i64 ((st : Nat) : Int)]) { w with heap := w.heap.setIfInBounds g (.map arr' clock') } ∧ arr'.toList.map (fun e => (e.key, e.val)) = (Go.Proofs.Ytkgofmloleicgaa.mp k ((mg k es).getD zv) es).map (fun p => (kc p.1, vc p.2)) ∧ Stm arr' clock' ∧ ∃ j v, fk k (Go.Proofs.Ytkgofmloleicgaa.mp k ((mg k es).getD zv) es) 0 = some (j, v) ∧ (arr'[j]?).map (·.born) = some st := by
    cases hfk : fk k es 0 with
    | none =>
      rw [hfk] at hf
      have hm := (fk_none hfk).1
      rw [hm, Option.getD_none]
      refine ⟨arr.push { key := kc k, val := vc zv, born := clock }, clock + 1, clock, ?_, ?_, ?_, ?_⟩
      · simp only [Instr.mapEntry, Sem.run_bind, run_underlying hu, hgo, hc, hf, Result.andThen_ok, Option.map_none, run_zero hz, MapKept.run_setObj_map _ hg', Sem.run_pure]
        rfl
      · rw [(fk_none hfk).2 zv, Array.toList_push, List.map_append, List.map_append, ha]; rfl
      · refine ⟨?_, fun x hx => ?_⟩
        · rw [Array.toList_push, List.map_append]
          refine List.nodup_append.2 ⟨hstm.1, by simp, fun a ha' b hb' => ?_⟩
          obtain ⟨x, hx, rfl⟩ := List.mem_map.1 ha'
          simp at hb'
          have := hstm.2 x hx
          omega
        · rw [Array.toList_push] at hx
          rcases List.mem_append.1 hx with h1 | h1
          · have := hstm.2 x h1; omega
          · simp at h1; subst h1; exact Nat.lt_succ_self _
      · refine ⟨_, _, fk_mp k zv es 0, ?_⟩
        rw [hfk]
        show ((arr.push _)[0 + es.length]?).map _ = _
        rw [Nat.zero_add, ← hlen, Array.length_toList, Array.getElem?_push_size]
        rfl
    | some q =>
      obtain ⟨j, v⟩ := q
      rw [hfk] at hf
      obtain ⟨hm, m, hj, p, hp1, hp2, hset⟩ := fk_some hfk
      obtain rfl : j = m := by omega
      have hjl : j < es.length := (List.getElem?_eq_some_iff.1 hp1).1
      have hja : j < arr.size := by rw [← Array.length_toList, hlen]; exact hjl
      have hkv : (arr[j]?).map (fun e => (e.key, e.val)) = some (kc p.1, vc p.2) := by
        have h1 := congrArg (fun l => l[j]?) ha
        simp only [List.getElem?_map, hp1, Option.map_some] at h1
        rw [Array.getElem?_toList] at h1
        exact h1
      rw [Array.getElem?_eq_getElem hja, Option.map_some, Option.some.injEq, Prod.mk.injEq] at hkv
      rw [hp2] at hkv
      have hp3 := fk_at hfk
      have hv : p.2 = v := by rw [hp1] at hp3; simp at hp3; rw [hp3]
      have hmodk : (arr.modify j fun e' => { e' with key := kc k }) = arr := by
        apply Array.ext'
        apply List.ext_getElem?
        intro q
        rw [Array.getElem?_toList, Array.getElem?_modify, Array.getElem?_toList]
        by_cases hq : j = q
        · subst hq
          rw [if_pos rfl, Array.getElem?_eq_getElem hja, Option.map_some, ← hkv.1]
        · rw [if_neg hq]
      rw [hm, Option.getD_some]
      refine ⟨arr, clock, arr[j].born, ?_, ?_, hstm, j, v, ?_, by rw [Array.getElem?_eq_getElem hja]; rfl⟩
      · have hst : (Instr.keyThatStays (kc k) (kc k)).run P w = .ok (kc k) w := by
          unfold Instr.keyThatStays
          rw [if_pos (hK.bits k)]; rfl
        have hkey : (arr[j]?).map (·.key) = some (kc k) := by rw [Array.getElem?_eq_getElem hja, Option.map_some, hkv.1]
        simp only [Instr.mapEntry, Sem.run_bind, run_underlying hu, hgo, hc, hf, Result.andThen_ok, Option.map_some, hkey, Option.getD_some, hst, MapKept.run_setObj_map _ hg', hmodk, Sem.run_pure]
        rw [Array.getElem?_eq_getElem hja]
        rfl
      · rw [hset v, ha]
        have h4 : es.set j (k, v) = es := by
          rw [← hp2, ← hv]
          exact set_same hp1
        rw [h4]
      · have h5 := fk_mp k v es 0
        rw [hfk] at h5
        exact h5
  obtain ⟨arr', clock', st, hrun, hpairs, hstm', hst'⟩ := key
  have hlt := hp_lt hg
  refine wo_run (v := .tuple #[vc ((mg k es).getD zv), .int .i64 ((st : Nat) : Int)]) (w' := { w with heap := w.heap.setIfInBounds g (.map arr' clock') }) hd hn ?_ (h st _ ?_)
  · intro n c he
    unfold execOp
    simp only [hop, he.eval hx, he.eval hy, hrun, Sem.run_bind, Result.andThen_ok, Sem.run_pure]
  · refine S.step hi rfl (like_setB w g _) (fun b _ hb => ?_) ⟨arr', clock', ?_, hpairs, hstm', hst'⟩ (fun b hb => ⟨.inl hb, ?_⟩)
    · have hne : b ≠ g := by simpa [Rs.mp] using hb
      show (w.heap.setIfInBounds g _)[b]? = w.heap[b]?
      rw [Array.getElem?_setIfInBounds_ne (Ne.symm hne)]
    · show (w.heap.setIfInBounds g _)[g]? = _
      simp [hlt]
    · simp [Rs.mpS] at hb
      subst hb
      show _ < (w.heap.setIfInBounds _ _).size
      simpa using hlt
theorem wo_entryStore {k : κ} {e : ε} {st : Nat} (hop : o.op = .entryStore T x y z) (hd : o.dst = none) (S : SH w M X H) (hi : nth H i = some (Rs.mpS kc vc g es k st)) (hx : oev L x = some (.map (some g))) (hy : oev L y = some (.int .i64 (st : Int))) (hz : oev L z = some (vc e))
    (hH : H.set i (Rs.mp kc vc g (Go.Proofs.Ytkgofmloleicgaa.mp k e es)) = H') (h : ∀ w', SH w' M X H' → Kt L w') : WO P n o L w Kt := by
  obtain ⟨arr, clock, hg, ha, hstm, j, v, hfk, hb⟩ := (S.get hi : MpS kc vc g es k st (hp w))
  have hg' : w.heap[g]? = some (.map arr clock) := hg
  have hgo := MapKept.run_getObj_map (P := P) hg'
  have hlen : arr.toList.length = es.length := by have := congrArg List.length ha; simpa using this
  obtain ⟨hm, m, hj, p, hp1, hp2, hset⟩ := fk_some hfk
  obtain rfl : j = m := by omega
  have hjl : j < es.length := (List.getElem?_eq_some_iff.1 hp1).1
  have hja : j < arr.size := by rw [← Array.length_toList, hlen]; exact hjl
  have hkey : arr[j].key = kc k := by
    have h1 := congrArg (fun l => l[j]?) ha
    simp only [List.getElem?_map, hp1, Option.map_some] at h1
    rw [Array.getElem?_toList, Array.getElem?_eq_getElem hja] at h1
    simp only [Option.map_some, Option.some.injEq, Prod.mk.injEq] at h1
    rw [h1.1, hp2]
  rw [Array.getElem?_eq_getElem hja, Option.map_some, Option.some.injEq] at hb
  have hidx : arr.findIdx? (fun e => ((e.born : Nat) : Int) == (st : Int)) = some j := by
    obtain ⟨la⟩ := arr
    rw [show (Array.mk la).findIdx? (fun e => ((e.born : Nat) : Int) == (st : Int)) = la.findIdx? (fun e => ((e.born : Nat) : Int) == (st : Int)) from by simp]
    exact born_idx hstm.1 (by rw [Array.getElem?_toList, Array.getElem?_eq_getElem hja, Option.map_some, hb])
  have hrun : (Instr.entryStore T (.map (some g)) (.int .i64 (st : Int)) (vc e)).run P w = .ok () { w with heap := w.heap.setIfInBounds g (.map (arr.modify j fun e' => { e' with val := vc e }) clock) } := by
    simp [Instr.entryStore, hgo, asInt, asIntOf, hidx, MapKept.run_setObj_map _ hg', Result.andThen]
  have hlt := hp_lt hg
  refine wo_runS hd (w' := { w with heap := w.heap.setIfInBounds g (.map (arr.modify j fun e' => { e' with val := vc e }) clock) }) ?_ (h _ ?_)
  · intro n c he
    unfold execOp
    simp only [hop, he.eval hx, he.eval hy, he.eval hz, hrun, Sem.run_bind, Result.andThen_ok, Sem.run_pure]
  · refine S.step hi hH (like_setB w g _) (fun b _ hb => ?_) ⟨arr.modify j fun e' => { e' with val := vc e }, clock, ?_, ?_, ?_⟩ (fun b hb => ⟨.inl hb, ?_⟩)
    · have hne : b ≠ g := by simpa [Rs.mpS] using hb
      show (w.heap.setIfInBounds g _)[b]? = w.heap[b]?
      rw [Array.getElem?_setIfInBounds_ne (Ne.symm hne)]
    · show (w.heap.setIfInBounds g _)[g]? = _
      simp [hlt]
    · rw [hset e]
      apply List.ext_getElem?
      intro q
      have h1 := congrArg (fun l => l[q]?) ha
      simp only [List.getElem?_map] at h1 ⊢
      rw [Array.getElem?_toList, Array.getElem?_modify, List.getElem?_set]
      rw [Array.getElem?_toList] at h1
      by_cases hq : j = q
      · subst hq
        rw [if_pos rfl, if_pos rfl, if_pos hjl, Array.getElem?_eq_getElem hja]
        simp only [Option.map_some, hkey]
      · rw [if_neg hq, if_neg hq]
        exact h1
    · have hbn : (arr.modify j fun e' => { e' with val := vc e }).toList.map (·.born) = arr.toList.map (·.born) := by
        apply List.ext_getElem?
        intro q
        simp only [List.getElem?_map]
        rw [Array.getElem?_toList, Array.getElem?_modify, Array.getElem?_toList]
        by_cases hq : j = q
        · subst hq; rw [if_pos rfl, Array.getElem?_eq_getElem hja]; rfl
        · rw [if_neg hq]
      refine ⟨by rw [hbn]; exact hstm.1, fun x hx => ?_⟩
      have h2 : x.born ∈ arr.toList.map (·.born) := by rw [← hbn]; exact List.mem_map.2 ⟨x, hx, rfl⟩
      obtain ⟨y, hy, e2⟩ := List.mem_map.1 h2
      rw [← e2]; exact hstm.2 y hy
    · simp [Rs.mp] at hb
      subst hb
      show _ < (w.heap.setIfInBounds _ _).size
      simpa using hlt
end
section
variable {P : Program} {ops : Array Oper} {Q : Exit → Act → World → Prop} {md : Region.Mode} {X : Fr}
end
section
variable {P : Program} {n : Nat} {C : Ctx} {c : Code} {s : List K} {L : List (Nat × Value)} {w : World} {Mb M : Hp} {X : Fr} {Hb H : List Rs} {l : Array Bool} {f : Nat}
end
section
variable {P : Program} {n : Nat} {C : Ctx} {c : Code} {s : List K} {L : List (Nat × Value)} {w : World} {M : Hp} {X : Fr} {H : List Rs}
end
end Go.Proofs.Ytkgofmloleicgaa
namespace Go.Proofs.Ytkgofmloleicgaa
open Go.ChangeShapes Go.WideShapes Go.ChangeAt Go.RowKit
theorem sz3 : (Try.prog.info? 3).map (·.size) = some 1 := by kernel_rfl
theorem ce3 : Nat.blt 0 (Try.prog.cellsOf 3) = true := by kernel_rfl
theorem nf3 : ∃ i, Try.prog.info? 3 = some i := Option.isSome_iff_exists.1 (by kernel_rfl)
theorem zr3 : (Try.prog.info? 3).map (·.zero) = some (some (.int .i64 0)) := by kernel_rfl
theorem sz4 : (Try.prog.info? 4).map (·.size) = some 1 := by kernel_rfl
theorem ce4 : Nat.blt 0 (Try.prog.cellsOf 4) = true := by kernel_rfl
theorem nf4 : ∃ i, Try.prog.info? 4 = some i := Option.isSome_iff_exists.1 (by kernel_rfl)
theorem sz27 : (Try.prog.info? 27).map (·.size) = some 1 := by kernel_rfl
theorem sz39 : (Try.prog.info? 39).map (·.size) = some 1 := by kernel_rfl
theorem ce39 : Nat.blt 0 (Try.prog.cellsOf 39) = true := by kernel_rfl
theorem nf39 : ∃ i, Try.prog.info? 39 = some i := Option.isSome_iff_exists.1 (by kernel_rfl)
theorem sz41 : (Try.prog.info? 41).map (·.size) = some 2 := by kernel_rfl
theorem zr41 : (Try.prog.info? 41).map (·.zero) = some (some (.agg [.slice none 0 0, .int .i64 0].toArray)) := by kernel_rfl
theorem st41 : StOf Try.prog 41 [(0, 1), (1, 1)] [.slice none 0 0, .int .i64 0] := ⟨_, Try.underlying41, by kernel_rfl, ⟨⟨rfl, by kernel_rfl⟩, ⟨rfl, by kernel_rfl⟩, trivial⟩⟩
theorem ce50 : Nat.blt 0 (Try.prog.cellsOf 50) = true := by kernel_rfl
theorem nf50 : ∃ i, Try.prog.info? 50 = some i := Option.isSome_iff_exists.1 (by kernel_rfl)
theorem sz56 : (Try.prog.info? 56).map (·.size) = some 5 := by kernel_rfl
theorem zr56 : (Try.prog.info? 56).map (·.zero) = some (some (.agg [.int .i64 0, .int .i64 0, .int .i64 0, .int .i64 0, .bool false].toArray)) := by kernel_rfl
theorem st56 : StOf Try.prog 56 [(0, 1), (1, 1), (2, 1), (3, 1), (4, 1)] [.int .i64 0, .int .i64 0, .int .i64 0, .int .i64 0, .bool false] := ⟨_, Try.underlying56, by kernel_rfl, ⟨⟨rfl, by kernel_rfl⟩, ⟨rfl, by kernel_rfl⟩, ⟨rfl, by kernel_rfl⟩, ⟨rfl, by kernel_rfl⟩, ⟨rfl, by kernel_rfl⟩, trivial⟩⟩
theorem ce57 : Nat.blt 0 (Try.prog.cellsOf 57) = true := by kernel_rfl
theorem nf57 : ∃ i, Try.prog.info? 57 = some i := Option.isSome_iff_exists.1 (by kernel_rfl)
theorem sz59 : (Try.prog.info? 59).map (·.size) = some 2 := by kernel_rfl
theorem zr59 : (Try.prog.info? 59).map (·.zero) = some (some (.agg [.slice none 0 0, .slice none 0 0].toArray)) := by kernel_rfl
theorem st59 : StOf Try.prog 59 [(0, 1), (1, 1)] [.slice none 0 0, .slice none 0 0] := ⟨_, Try.underlying59, by kernel_rfl, ⟨⟨rfl, by kernel_rfl⟩, ⟨rfl, by kernel_rfl⟩, trivial⟩⟩
theorem sz61 : (Try.prog.info? 61).map (·.size) = some 2 := by kernel_rfl
theorem zr61 : (Try.prog.info? 61).map (·.zero) = some (some (.agg [.int .i64 0, .int .i64 0].toArray)) := by kernel_rfl
theorem st61 : StOf Try.prog 61 [(0, 1), (1, 1)] [.int .i64 0, .int .i64 0] := ⟨_, Try.underlying61, by kernel_rfl, ⟨⟨rfl, by kernel_rfl⟩, ⟨rfl, by kernel_rfl⟩, trivial⟩⟩
theorem sz65 : (Try.prog.info? 65).map (·.size) = some 2 := by kernel_rfl
theorem ce65 : Nat.blt 0 (Try.prog.cellsOf 65) = true := by kernel_rfl
theorem nf65 : ∃ i, Try.prog.info? 65 = some i := Option.isSome_iff_exists.1 (by kernel_rfl)
theorem zr65 : (Try.prog.info? 65).map (·.zero) = some (some (.agg [.int .i64 0, .int .i64 0].toArray)) := by kernel_rfl
theorem st65 : StOf Try.prog 65 [(0, 1), (1, 1)] [.int .i64 0, .int .i64 0] := ⟨_, Try.underlying65, by kernel_rfl, ⟨⟨rfl, by kernel_rfl⟩, ⟨rfl, by kernel_rfl⟩, trivial⟩⟩
theorem sz67 : (Try.prog.info? 67).map (·.size) = some 4 := by kernel_rfl
theorem zr67 : (Try.prog.info? 67).map (·.zero) = some (some (.agg [.bool false, .int .i64 0, .int .i64 0, .int .i64 0].toArray)) := by kernel_rfl
theorem st67 : StOf Try.prog 67 [(0, 1), (1, 2), (3, 1)] [.bool false, .int .i64 0, .int .i64 0, .int .i64 0] := ⟨_, Try.underlying67, by kernel_rfl, ⟨⟨rfl, by kernel_rfl⟩, ⟨rfl, by kernel_rfl⟩, ⟨rfl, by kernel_rfl⟩, trivial⟩⟩
theorem ce68 : Nat.blt 0 (Try.prog.cellsOf 68) = true := by kernel_rfl
theorem nf68 : ∃ i, Try.prog.info? 68 = some i := Option.isSome_iff_exists.1 (by kernel_rfl)
theorem zr68 : (Try.prog.info? 68).map (·.zero) = some (some (.agg [.bool false, .int .i64 0, .int .i64 0, .int .i64 0, .bool false, .int .i64 0, .int .i64 0, .int .i64 0, .bool false, .int .i64 0, .int .i64 0, .int .i64 0, .bool false, .int .i64 0, .int .i64 0, .int .i64 0].toArray)) := by kernel_rfl
theorem ce69 : Nat.blt 0 (Try.prog.cellsOf 69) = true := by kernel_rfl
theorem nf69 : ∃ i, Try.prog.info? 69 = some i := Option.isSome_iff_exists.1 (by kernel_rfl)
theorem sz70 : (Try.prog.info? 70).map (·.size) = some 1 := by kernel_rfl
theorem ce70 : Nat.blt 0 (Try.prog.cellsOf 70) = true := by kernel_rfl
theorem nf70 : ∃ i, Try.prog.info? 70 = some i := Option.isSome_iff_exists.1 (by kernel_rfl)
theorem st72 : StOf Try.prog 72 [(0, 16), (16, 1), (17, 1), (18, 1)] [.bool false, .int .i64 0, .int .i64 0, .int .i64 0, .bool false, .int .i64 0, .int .i64 0, .int .i64 0, .bool false, .int .i64 0, .int .i64 0, .int .i64 0, .bool false, .int .i64 0, .int .i64 0, .int .i64 0, .slice none 0 0, .map none, .int .i64 0] := ⟨_, Try.underlying72, by kernel_rfl, ⟨⟨rfl, by kernel_rfl⟩, ⟨rfl, by kernel_rfl⟩, ⟨rfl, by kernel_rfl⟩, ⟨rfl, by kernel_rfl⟩, trivial⟩⟩
theorem sz73 : (Try.prog.info? 73).map (·.size) = some 4 := by kernel_rfl
theorem zr73 : (Try.prog.info? 73).map (·.zero) = some (some (.agg [.int .i64 0, .int .i64 0, .int .i64 0, .int .i64 0].toArray)) := by kernel_rfl
theorem sz74 : (Try.prog.info? 74).map (·.size) = some 2 := by kernel_rfl
theorem zr74 : (Try.prog.info? 74).map (·.zero) = some (some (.agg [.int .i64 0, .int .i64 0].toArray)) := by kernel_rfl
theorem ce77 : Nat.blt 0 (Try.prog.cellsOf 77) = true := by kernel_rfl
theorem nf77 : ∃ i, Try.prog.info? 77 = some i := Option.isSome_iff_exists.1 (by kernel_rfl)
theorem ce78 : Nat.blt 0 (Try.prog.cellsOf 78) = true := by kernel_rfl
theorem nf78 : ∃ i, Try.prog.info? 78 = some i := Option.isSome_iff_exists.1 (by kernel_rfl)
theorem st80 : StOf Try.prog 80 [(0, 1), (1, 1), (2, 1), (3, 1)] [.pointer none, .map none, .slice none 0 0, .slice none 0 0] := ⟨_, Try.underlying80, by kernel_rfl, ⟨⟨rfl, by kernel_rfl⟩, ⟨rfl, by kernel_rfl⟩, ⟨rfl, by kernel_rfl⟩, ⟨rfl, by kernel_rfl⟩, trivial⟩⟩
theorem cf14 : ∀ args w, (callFunc 14 args).run Try.prog w = .ok (.enter 14 args) w := enter_ok (c := Try.f14.body.getD .skip) Try.func14 (by decide) rfl
theorem cf15 : ∀ args w, (callFunc 15 args).run Try.prog w = .ok (.enter 15 args) w := enter_ok (c := Try.f15.body.getD .skip) Try.func15 (by decide) rfl
theorem cf17 : ∀ args w, (callFunc 17 args).run Try.prog w = .ok (.enter 17 args) w := enter_ok (c := Try.f17.body.getD .skip) Try.func17 (by decide) rfl
theorem cf18 : ∀ args w, (callFunc 18 args).run Try.prog w = .ok (.enter 18 args) w := enter_ok (c := Try.f18.body.getD .skip) Try.func18 (by decide) rfl
theorem cf19 : ∀ args w, (callFunc 19 args).run Try.prog w = .ok (.enter 19 args) w := enter_ok (c := Try.f19.body.getD .skip) Try.func19 (by decide) rfl
theorem cf23 : ∀ args w, (callFunc 23 args).run Try.prog w = .ok (.enter 23 args) w := enter_ok (c := Try.f23.body.getD .skip) Try.func23 (by decide) rfl
theorem cf25 : ∀ args w, (callFunc 25 args).run Try.prog w = .ok (.enter 25 args) w := enter_ok (c := Try.f25.body.getD .skip) Try.func25 (by decide) rfl
theorem cf26 : ∀ args w, (callFunc 26 args).run Try.prog w = .ok (.enter 26 args) w := enter_ok (c := Try.f26.body.getD .skip) Try.func26 (by decide) rfl
theorem cf27 : ∀ args w, (callFunc 27 args).run Try.prog w = .ok (.enter 27 args) w := enter_ok (c := Try.f27.body.getD .skip) Try.func27 (by decide) rfl
theorem cf28 : ∀ args w, (callFunc 28 args).run Try.prog w = .ok (.enter 28 args) w := enter_ok (c := Try.f28.body.getD .skip) Try.func28 (by decide) rfl
theorem cf29 : ∀ args w, (callFunc 29 args).run Try.prog w = .ok (.enter 29 args) w := enter_ok (c := Try.f29.body.getD .skip) Try.func29 (by decide) rfl
theorem cf30 : ∀ args w, (callFunc 30 args).run Try.prog w = .ok (.enter 30 args) w := enter_ok (c := Try.f30.body.getD .skip) Try.func30 (by decide) rfl
theorem cf31 : ∀ args w, (callFunc 31 args).run Try.prog w = .ok (.enter 31 args) w := enter_ok (c := Try.f31.body.getD .skip) Try.func31 (by decide) rfl
theorem cf33 : ∀ args w, (callFunc 33 args).run Try.prog w = .ok (.enter 33 args) w := enter_ok (c := Try.f33.body.getD .skip) Try.func33 (by decide) rfl
theorem cf34 : ∀ args w, (callFunc 34 args).run Try.prog w = .ok (.enter 34 args) w := enter_ok (c := Try.f34.body.getD .skip) Try.func34 (by decide) rfl
theorem cf35 : ∀ args w, (callFunc 35 args).run Try.prog w = .ok (.enter 35 args) w := enter_ok (c := Try.f35.body.getD .skip) Try.func35 (by decide) rfl
theorem cf36 : ∀ args w, (callFunc 36 args).run Try.prog w = .ok (.enter 36 args) w := enter_ok (c := Try.f36.body.getD .skip) Try.func36 (by decide) rfl
theorem cf37 : ∀ args w, (callFunc 37 args).run Try.prog w = .ok (.enter 37 args) w := enter_ok (c := Try.f37.body.getD .skip) Try.func37 (by decide) rfl
theorem cf38 : ∀ args w, (callFunc 38 args).run Try.prog w = .ok (.enter 38 args) w := enter_ok (c := Try.f38.body.getD .skip) Try.func38 (by decide) rfl
theorem cf39 : ∀ args w, (callFunc 39 args).run Try.prog w = .ok (.enter 39 args) w := enter_ok (c := Try.f39.body.getD .skip) Try.func39 (by decide) rfl
theorem cf40 : ∀ args w, (callFunc 40 args).run Try.prog w = .ok (.enter 40 args) w := enter_ok (c := Try.f40.body.getD .skip) Try.func40 (by decide) rfl
end Go.Proofs.Ytkgofmloleicgaa
namespace Go.Proofs.Ytkgofmloleicgaa
open Go.ChangeShapes Go.WideShapes Go.ChangeAt Go.RowKit
theorem se56 : StEq Try.prog 56 [(0, false), (1, false), (2, false), (3, false), (4, true)] := ⟨[_, _, _, _, _], Try.underlying56, ⟨⟨by kernel_rfl, rfl, ⟨_, Try.underlying3⟩⟩, ⟨by kernel_rfl, rfl, ⟨_, Try.underlying3⟩⟩, ⟨by kernel_rfl, rfl, ⟨_, Try.underlying3⟩⟩, ⟨by kernel_rfl, rfl, ⟨_, Try.underlying3⟩⟩, ⟨by kernel_rfl, rfl, Try.underlying4⟩, trivial⟩, by kernel_rfl, by kernel_rfl⟩
theorem se61 : StEq Try.prog 61 [(0, false), (1, false)] := ⟨[_, _], Try.underlying61, ⟨⟨by kernel_rfl, rfl, ⟨_, Try.underlying3⟩⟩, ⟨by kernel_rfl, rfl, ⟨_, Try.underlying3⟩⟩, trivial⟩, by kernel_rfl, by kernel_rfl⟩
theorem se65 : StEq Try.prog 65 [(0, false), (1, false)] := ⟨[_, _], Try.underlying65, ⟨⟨by kernel_rfl, rfl, ⟨_, Try.underlying3⟩⟩, ⟨by kernel_rfl, rfl, ⟨_, Try.underlying3⟩⟩, trivial⟩, by kernel_rfl, by kernel_rfl⟩
theorem sl27 : SlOf Try.prog 27 cdInt := ⟨.int .i64 0, Try.underlying27, by kernel_rfl, rfl, by decide, by decide⟩
theorem sl83 : SlOf Try.prog 83 (cdV 27) := ⟨.slice none 0 0, Try.underlying83, by kernel_rfl, rfl, by decide, by decide⟩
theorem sl85 : SlOf Try.prog 85 cdBool := ⟨.bool false, Try.underlying85, by kernel_rfl, rfl, by decide, by decide⟩
end Go.Proofs.Ytkgofmloleicgaa
namespace Go.Proofs.Ytkgofmloleicgaa
open Go.ChangeShapes Go.WideShapes Go.ChangeAt Go.RowKit
def spF (x : Sp) : List Value := [.int .i64 x.c, .int .i64 x.a]
def cdSp : Cd Sp := ⟨spF, 2, 16, 61, ⟨0, 0⟩, fun _ => rfl, by
 intro x u hu
 simp [spF] at hu
 rcases hu with rfl | rfl <;> rfl⟩
def cdCo : Cd Sp := ⟨spF, 2, 16, 65, ⟨0, 0⟩, fun _ => rfl, by
 intro x u hu
 simp [spF] at hu
 rcases hu with rfl | rfl <;> rfl⟩
def a4F (x : A4) : List Value := [.int .i64 x.a, .int .i64 x.b, .int .i64 x.c, .int .i64 x.d]
def cdA4 : Cd A4 := ⟨a4F, 4, 32, 73, ⟨0, 0, 0, 0⟩, fun _ => rfl, by
 intro x u hu
 simp [a4F] at hu
 rcases hu with rfl | rfl | rfl | rfl <;> rfl⟩
structure A2 where
 p : Int
 q : Int
instance : Inhabited A2 := ⟨⟨0, 0⟩⟩
def a2F (x : A2) : List Value := [.int .i64 x.p, .int .i64 x.q]
def cdA2 : Cd A2 := ⟨a2F, 2, 16, 74, ⟨0, 0⟩, fun _ => rfl, by
 intro x u hu
 simp [a2F] at hu
 rcases hu with rfl | rfl <;> rfl⟩
structure Cr where
 a : Int
 b : Int
 c : Int
 d : Int
 plus : Bool
instance : Inhabited Cr := ⟨⟨0, 0, 0, 0, false⟩⟩
def crF (x : Cr) : List Value := [.int .i64 x.a, .int .i64 x.b, .int .i64 x.c, .int .i64 x.d, .bool x.plus]
structure Dg where
 crs : List Cr
 loops : Int
def cdCr : Cd Cr := ⟨crF, 5, 40, 56, ⟨0, 0, 0, 0, false⟩, fun _ => rfl, by
 intro x u hu
 simp [crF] at hu
 rcases hu with rfl | rfl | rfl | rfl | rfl <;> rfl⟩
def DgE (r : Dg × Int) (u : Value) (M : Hp) : Prop := ∃ A c, u = .tuple [.agg [.slice A r.1.crs.length c, .int .i64 r.1.loops].toArray, .int .i64 r.2].toArray ∧ RdA cdCr M A c r.1.crs
def DgO (d : Dg) (u : Value) (M : Hp) : Prop := ∃ A c, u = .agg [.slice A d.crs.length c, .int .i64 d.loops].toArray ∧ RdA cdCr M A c d.crs
def a4s (x : A4) (p : Nat) (v : Int) : A4 := if p = 0 then ⟨v, x.b, x.c, x.d⟩ else if p = 1 then ⟨x.a, v, x.c, x.d⟩ else if p = 2 then ⟨x.a, x.b, v, x.d⟩ else ⟨x.a, x.b, x.c, v⟩
def a2g (x : A2) (p : Nat) : Int := if p = 0 then x.p else x.q
def a2s (x : A2) (p : Nat) (v : Int) : A2 := if p = 0 then ⟨v, x.q⟩ else ⟨x.p, v⟩
section
variable {p : Nat}
theorem blt_a4 (h : p < 4) : Nat.blt p cdA4.k = true := by show Nat.ble (p + 1) 4 = true; rw [Nat.ble_eq]; omega
theorem blt_a2 (h : p < 2) : Nat.blt p cdA2.k = true := by show Nat.ble (p + 1) 2 = true; rw [Nat.ble_eq]; omega
theorem ble_a4 {v : Value} (h : p < 4) : Nat.ble (p + [v].length) cdA4.k = true := by show Nat.ble (p + 1) 4 = true; rw [Nat.ble_eq]; omega
theorem ble_a2 {v : Value} (h : p < 2) : Nat.ble (p + [v].length) cdA2.k = true := by show Nat.ble (p + 1) 2 = true; rw [Nat.ble_eq]; omega
theorem nth_a4 (x : A4) (h : p < 4) : nth (cdA4.f x) p = some (.int .i64 (a4g x p)) := by
 have : p = 0 ∨ p = 1 ∨ p = 2 ∨ p = 3 := by omega
 rcases this with rfl | rfl | rfl | rfl <;> rfl
theorem nth_a2 (x : A2) (h : p < 2) : nth (cdA2.f x) p = some (.int .i64 (a2g x p)) := by
 have : p = 0 ∨ p = 1 := by omega
 rcases this with rfl | rfl <;> rfl
theorem spl_a4 (x : A4) (v : Int) (h : p < 4) : spl (cdA4.f x) p [.int .i64 v] = cdA4.f (a4s x p v) := by
 have : p = 0 ∨ p = 1 ∨ p = 2 ∨ p = 3 := by omega
 rcases this with rfl | rfl | rfl | rfl <;> rfl
theorem spl_a2 (x : A2) (v : Int) (h : p < 2) : spl (cdA2.f x) p [.int .i64 v] = cdA2.f (a2s x p v) := by
 have : p = 0 ∨ p = 1 := by omega
 rcases this with rfl | rfl <;> rfl
/-- The cells of four ends. -/
def en4 (F : Nat → En) (T : List Value) : List Value := .bool (F 0).ic :: .int .i64 (F 0).c :: .int .i64 (F 0).a :: .int .i64 (F 0).o :: .bool (F 1).ic :: .int .i64 (F 1).c :: .int .i64 (F 1).a :: .int .i64 (F 1).o :: .bool (F 2).ic :: .int .i64 (F 2).c :: .int .i64 (F 2).a :: .int .i64 (F 2).o :: .bool (F 3).ic :: .int .i64 (F 3).c :: .int .i64 (F 3).a :: .int .i64 (F 3).o :: T
theorem piece_en (F : Nat → En) {T : List Value} (e : Nat) (h : e < 4) : piece (en4 F T) (0 + e * 4) [.bool (F e).ic, .int .i64 (F e).c, .int .i64 (F e).a, .int .i64 (F e).o] := by
 have : e = 0 ∨ e = 1 ∨ e = 2 ∨ e = 3 := by omega
 rcases this with rfl | rfl | rfl | rfl <;> exact ⟨rfl, rfl, rfl, rfl, trivial⟩
theorem ble_en {F : Nat → En} {a b c d : Value} {T : List Value} {e : Nat} (h : e < 4) : Nat.ble (0 + e * 4 + [a, b, c, d].length) (en4 F T).length = true := by
 have : e = 0 ∨ e = 1 ∨ e = 2 ∨ e = 3 := by omega
 unfold en4
 simp only [List.length_cons, List.length_nil]
 rw [Nat.ble_eq]
 omega
theorem spl_en (F : Nat → En) (v : En) {T : List Value} (e : Nat) (h : e < 4) : spl (en4 F T) (0 + e * 4) [.bool v.ic, .int .i64 v.c, .int .i64 v.a, .int .i64 v.o] = en4 (upd F e v) T := by
 have : e = 0 ∨ e = 1 ∨ e = 2 ∨ e = 3 := by omega
 rcases this with rfl | rfl | rfl | rfl <;> rfl
end
theorem run_flp {P : Program} {o : Oper} {L : List (Nat × Value)} {w : World} {x y : Operand} {t t' : TypeId} {a : Int} (ho : o.op = .binOp .xor t x y t') (hx : oev L x = some (.int .i64 a)) (hy : oev L y = some (.int .i64 1)) (h : 0 ≤ a ∧ a < 4) : Run P o L w (.int .i64 (flp a)) w := by
 have h1 := run_xorK (P := P) (w := w) ho hx hy
 have : a = 0 ∨ a = 1 ∨ a = 2 ∨ a = 3 := by omega
 rcases this with rfl | rfl | rfl | rfl <;> exact h1
theorem mk65 : MapK Try.prog 65 (fun x => Value.agg (cdCo.f x).toArray) := mapK_st se65 (fun x y => ⟨x.c = y.c ∧ x.a = y.a, ⟨_, _, _, _, rfl, rfl, ⟨_, _, _, rfl, rfl, rfl⟩, rfl⟩, ⟨fun h => by cases x; cases y; simp at h; simp [h], fun h => by rw [h]; exact ⟨rfl, rfl⟩⟩⟩) (fun k => by simp [Instr.sameBits, cdCo, spF])
theorem sl39 : SlOf Try.prog 39 cdCr := ⟨.agg [.int .i64 0, .int .i64 0, .int .i64 0, .int .i64 0, .bool false].toArray, Try.underlying39, by kernel_rfl, rfl, by decide, by decide⟩
theorem sl57 : SlOf Try.prog 57 cdSp := ⟨.agg [.int .i64 0, .int .i64 0].toArray, Try.underlying57, by kernel_rfl, rfl, by decide, by decide⟩
theorem sl70 : SlOf Try.prog 70 cdA4 := ⟨.agg [.int .i64 0, .int .i64 0, .int .i64 0, .int .i64 0].toArray, Try.underlying70, by kernel_rfl, rfl, by decide, by decide⟩
theorem sl78 : SlOf Try.prog 78 cdA2 := ⟨.agg [.int .i64 0, .int .i64 0].toArray, Try.underlying78, by kernel_rfl, rfl, by decide, by decide⟩
def tgB (g : Nat) (v : Value) (m : Nat) (q : Tg) : List Rs := [Rs.box g 72 (en4 q.E [v, .map (some m), .int .i64 q.loops]), Rs.row cdA4 v q.pl, Rs.mp (fun x => Value.agg (cdCo.f x).toArray) (fun x => Value.agg (cdCo.f x).toArray) m q.ties]
/-- Each free end is tied to one of the four. -/
def EOk (q : Tg) : Prop := ∀ j, j < 4 → 0 ≤ (q.E j).o ∧ (q.E j).o < 4
theorem EOk.glue {q : Tg} (h : EOk q) (k : Nat) (z : Sp) : EOk (glueG q k z) := by
 intro j hj
 unfold glueG
 split
 ·exact h j hj
 ·show 0 ≤ (upd q.E (q.E k).o.toNat (enC z) j).o ∧ (upd q.E (q.E k).o.toNat (enC z) j).o < 4
  unfold upd
  split
  ·exact ⟨Int.le_refl _, by show (0 : Int) < 4; decide⟩
  ·exact h j hj
noncomputable def Tie_n0 : Code := Try.f37.body.getD .skip
noncomputable def Tie_n1 : Code := cL Tie_n0
noncomputable def Tie_n2 : Code := cR Tie_n0
set_option maxRecDepth 10000 in
theorem Tie_b {w : World} {M : Hp} {X : Fr} {gt gti : Nat} {vpl : Value} (q : Tg) (a : Sp) (b : Sp) (S : SH w M X [Rs.bun [Rs.box gt 72 [.bool ((q.E 0).ic), .int .i64 ((q.E 0).c), .int .i64 ((q.E 0).a), .int .i64 ((q.E 0).o), .bool ((q.E 1).ic), .int .i64 ((q.E 1).c), .int .i64 ((q.E 1).a), .int .i64 ((q.E 1).o), .bool ((q.E 2).ic), .int .i64 ((q.E 2).c), .int .i64 ((q.E 2).a), .int .i64 ((q.E 2).o), .bool ((q.E 3).ic), .int .i64 ((q.E 3).c), .int .i64 ((q.E 3).a), .int .i64 ((q.E 3).o), vpl, .map (some gti), .int .i64 q.loops], Rs.row cdA4 vpl q.pl, Rs.mp (fun x => Value.agg (cdCo.f x).toArray) (fun x => Value.agg (cdCo.f x).toArray) gti q.ties]]) : C1 Try.prog 37 [.pointer (some ⟨gt, 0, none⟩), .agg [.int .i64 a.c, .int .i64 a.a].toArray, .agg [.int .i64 b.c, .int .i64 b.a].toArray] w M X (fun u M' r' => u = tup [] ∧ M' = M ∧ r' = Rs.bun (tgB gt vpl gti (⟨q.E, q.pl, tieL q.ties a b, q.loops⟩))) := by
 unfold C1
 replace S := S.unbun
 refine calls_in (b := Tie_n0) Try.func37 rfl Try.ntmps37 rfl (fun C hC => ?_)
 refine ws_sub [(0, _), (1, _), (2, _)] ⟨rfl, rfl, rfl, trivial⟩ ?_
 refine ws_seqN Tie_n1 Tie_n2 rfl rfl rfl ?_
 refine ws_region rfl ?_
 refine wlo 0 1 rfl rfl rfl (wo_box (l := [_, _]) rfl rfl rfl rfl rfl S ?_)
 intro gb1 w1 S1; clear S
 refine wlo 1 2 rfl rfl rfl (wo_box (l := [_, _]) rfl rfl rfl rfl rfl S1 ?_)
 intro gb2 w2 S2; clear S1
 refine wl_end rfl ?_
 refine nm_sub [(0, _), (4, _), (5, _)] ⟨rfl, rfl, rfl, trivial⟩ ?_
 refine nm_thn ?_
 have S3 := S2.pick [4, 0, 1, 2, 3] [_, _, _, _, _] (by decide) ⟨rfl, rfl, rfl, rfl, rfl, trivial⟩; clear S2
 refine ws_drawN [_] [_, _, _, _] rfl (by kernel_rfl) S3 18 rfl ?_
 clear S3
 change WA _ _ _ _ _ _ _ _ _ _ _ _ [_, _, _, _, _]
 refine wa_takeP (i := 0) (d := 6) 17 rfl (by kernel_rfl) (by kernel_rfl) (by kernel_rfl) rfl rfl rfl (fun w3 => run_move rfl rfl) ?_
 refine wa_takeP (i := 1) (d := 7) 16 rfl (by kernel_rfl) (by kernel_rfl) (by kernel_rfl) rfl rfl rfl (fun w4 => run_nilCheck rfl rfl) ?_
 refine wa_takeP (i := 2) (d := 8) 15 rfl (by kernel_rfl) (by kernel_rfl) (by kernel_rfl) rfl rfl rfl (fun w5 => run_fieldAddr rfl rfl Try.underlying72 rfl (ce69) (nf69)) ?_
 refine wa_take (i := 3) (d := 9) 14 rfl (by kernel_rfl) (by kernel_rfl) (by kernel_rfl) rfl rfl rfl (fun M4 N4 w6 hle4 S7 => .inl (run_load1 rfl rfl Try.underlying69 rfl (S7.suf.boxc (i := 2) rfl rfl))) ?_
 refine wa_take (i := 4) (d := 10) 13 rfl (by kernel_rfl) (by kernel_rfl) (by kernel_rfl) rfl rfl rfl (fun M5 N5 w7 hle5 S8 => .inl (run_loadN (us := [_, _]) rfl rfl Try.underlying65 rfl sz65 (S8.suf.boxcs (i := 1) rfl ⟨rfl, rfl, trivial⟩))) ?_
 refine wa_takeP (i := 5) (d := 11) 12 rfl (by kernel_rfl) (by kernel_rfl) (by kernel_rfl) rfl rfl rfl (fun w8 => run_move rfl rfl) ?_
 refine wa_takeP (i := 6) (d := 12) 11 rfl (by kernel_rfl) (by kernel_rfl) (by kernel_rfl) rfl rfl rfl (fun w9 => run_nilCheck rfl rfl) ?_
 refine wa_takeP (i := 7) (d := 13) 10 rfl (by kernel_rfl) (by kernel_rfl) (by kernel_rfl) rfl rfl rfl (fun w10 => run_fieldAddr rfl rfl Try.underlying72 rfl (ce69) (nf69)) ?_
 refine wa_take (i := 8) (d := 14) 9 rfl (by kernel_rfl) (by kernel_rfl) (by kernel_rfl) rfl rfl rfl (fun M9 N9 w11 hle9 S12 => .inl (run_load1 rfl rfl Try.underlying69 rfl (S12.suf.boxc (i := 2) rfl rfl))) ?_
 refine wa_take (i := 9) (d := 15) 8 rfl (by kernel_rfl) (by kernel_rfl) (by kernel_rfl) rfl rfl rfl (fun M10 N10 w12 hle10 S13 => .inl (run_loadN (us := [_, _]) rfl rfl Try.underlying65 rfl sz65 (S13.suf.boxcs (i := 0) rfl ⟨rfl, rfl, trivial⟩))) ?_
 refine wa_take (i := 10) (d := 16) 7 rfl (by kernel_rfl) (by kernel_rfl) (by kernel_rfl) rfl rfl rfl (fun M11 N11 w13 hle11 S14 => .inl (run_loadN (us := [_, _]) rfl rfl Try.underlying65 rfl sz65 (S14.suf.boxcs (i := 0) rfl ⟨rfl, rfl, trivial⟩))) ?_
 refine wa_take (i := 11) (d := 17) 6 rfl (by kernel_rfl) (by kernel_rfl) (by kernel_rfl) rfl rfl rfl (fun M12 N12 w14 hle12 S15 => .inl (run_loadN (us := [_, _]) rfl rfl Try.underlying65 rfl sz65 (S15.suf.boxcs (i := 1) rfl ⟨rfl, rfl, trivial⟩))) ?_
 refine wa_only (i := 12) 5 rfl (by kernel_rfl) rfl rfl (fun w16 S17 => ?_)
 refine (wo_mapEntry (kc := (fun x => Value.agg (cdCo.f x).toArray)) (vc := (fun x => Value.agg (cdCo.f x).toArray)) (es := q.ties) (k := a) (zv := (default : Sp)) (i := 0) rfl rfl rfl S17 rfl rfl rfl Try.underlying69 mk65 zr65 ?_)
 intro sx1 w17 S18; clear S17
 change SH _ _ _ [Rs.mpS (fun x => Value.agg (cdCo.f x).toArray) (fun x => Value.agg (cdCo.f x).toArray) gti (mp a ((mg a q.ties).getD (default : Sp)) q.ties) a sx1, _, _, _, _] at S18
 refine LeftW.grow [_] (Hp.le_refl _) S18 ?_; clear S18
 change WA _ _ _ _ _ _ _ _ _ _ _ _ [_, _, _, _, _]
 refine wa_takeP (i := 13) (d := 19) 4 rfl (by kernel_rfl) (by kernel_rfl) (by kernel_rfl) rfl rfl rfl (fun w18 => run_extract rfl rfl rfl) ?_
 refine wa_only (i := 14) 3 rfl (by kernel_rfl) rfl rfl (fun w20 S21 => ?_)
 refine (wo_entryStore (kc := (fun x => Value.agg (cdCo.f x).toArray)) (vc := (fun x => Value.agg (cdCo.f x).toArray)) (es := (mp a ((mg a q.ties).getD (default : Sp)) q.ties)) (k := a) (e := b) (st := sx1) (i := 0) (H' := [_, _, _, _, _]) rfl rfl S21 rfl rfl rfl rfl rfl ?_)
 intro w21 S22; clear S21
 refine LeftW.grow [_] (Hp.le_refl _) S22 ?_; clear S22
 change WA _ _ _ _ _ _ _ _ _ _ _ _ [_, _, _, _, _]
 refine wa_only (i := 15) 2 rfl (by kernel_rfl) rfl rfl (fun w23 S24 => ?_)
 refine (wo_mapEntry (kc := (fun x => Value.agg (cdCo.f x).toArray)) (vc := (fun x => Value.agg (cdCo.f x).toArray)) (es := (mp a b (mp a ((mg a q.ties).getD (default : Sp)) q.ties))) (k := b) (zv := (default : Sp)) (i := 0) rfl rfl rfl S24 rfl rfl rfl Try.underlying69 mk65 zr65 ?_)
 intro sx2 w24 S25; clear S24
 change SH _ _ _ [Rs.mpS (fun x => Value.agg (cdCo.f x).toArray) (fun x => Value.agg (cdCo.f x).toArray) gti (mp b ((mg b (mp a b (mp a ((mg a q.ties).getD (default : Sp)) q.ties))).getD (default : Sp)) (mp a b (mp a ((mg a q.ties).getD (default : Sp)) q.ties))) b sx2, _, _, _, _] at S25
 refine LeftW.grow [_] (Hp.le_refl _) S25 ?_; clear S25
 change WA _ _ _ _ _ _ _ _ _ _ _ _ [_, _, _, _, _]
 refine wa_takeP (i := 16) (d := 21) 1 rfl (by kernel_rfl) (by kernel_rfl) (by kernel_rfl) rfl rfl rfl (fun w25 => run_extract rfl rfl rfl) ?_
 refine wa_only (i := 17) 0 rfl (by kernel_rfl) rfl rfl (fun w27 S28 => ?_)
 refine (wo_entryStore (kc := (fun x => Value.agg (cdCo.f x).toArray)) (vc := (fun x => Value.agg (cdCo.f x).toArray)) (es := (mp b ((mg b (mp a b (mp a ((mg a q.ties).getD (default : Sp)) q.ties))).getD (default : Sp)) (mp a b (mp a ((mg a q.ties).getD (default : Sp)) q.ties)))) (k := b) (e := a) (st := sx2) (i := 0) (H' := [_, _, _, _, _]) rfl rfl S28 rfl rfl rfl rfl rfl ?_)
 intro w28 S29; clear S28
 refine LeftW.grow [_] (Hp.le_refl _) S29 ?_; clear S29
 change WA _ _ _ _ _ _ _ _ _ _ _ _ [_, _, _, _, _]
 refine wa_end (by kernel_rfl) (fun w29 S30 => ?_)
 refine nm_end hC [] rfl trivial ?_
 refine ⟨_, rfl, _, _, Hp.le_refl _, (S30.pick [3, 4, 0] [_, _, _] (by decide) ⟨rfl, rfl, rfl, trivial⟩).bun, ?_⟩
 exact ⟨rfl, rfl, rfl⟩
noncomputable def Glue_n0 : Code := Try.f33.body.getD .skip
noncomputable def Glue_n1 : Code := cL Glue_n0
noncomputable def Glue_n2 : Code := cR Glue_n0
noncomputable def Glue_n3 : Code := cL Glue_n2
noncomputable def Glue_n4 : Code := cR Glue_n2
noncomputable def Glue_n5 : Code := cL Glue_n4
noncomputable def Glue_n6 : Code := cR Glue_n4
noncomputable def Glue_n7 : Code := cL Glue_n6
noncomputable def Glue_n8 : Code := cR Glue_n6
set_option maxRecDepth 10000 in
theorem Glue_b {w : World} {M : Hp} {X : Fr} {gt gti : Nat} {vpl : Value} (q : Tg) (k : Nat) (z : Sp) (hE : EOk q) (hk : k < 4) (S : SH w M X [Rs.bun [Rs.box gt 72 [.bool ((q.E 0).ic), .int .i64 ((q.E 0).c), .int .i64 ((q.E 0).a), .int .i64 ((q.E 0).o), .bool ((q.E 1).ic), .int .i64 ((q.E 1).c), .int .i64 ((q.E 1).a), .int .i64 ((q.E 1).o), .bool ((q.E 2).ic), .int .i64 ((q.E 2).c), .int .i64 ((q.E 2).a), .int .i64 ((q.E 2).o), .bool ((q.E 3).ic), .int .i64 ((q.E 3).c), .int .i64 ((q.E 3).a), .int .i64 ((q.E 3).o), vpl, .map (some gti), .int .i64 q.loops], Rs.row cdA4 vpl q.pl, Rs.mp (fun x => Value.agg (cdCo.f x).toArray) (fun x => Value.agg (cdCo.f x).toArray) gti q.ties]]) : C1 Try.prog 33 [.pointer (some ⟨gt, 0, none⟩), .int .i64 (k : Int), .agg [.int .i64 z.c, .int .i64 z.a].toArray] w M X (fun u M' r' => u = tup [] ∧ M' = M ∧ r' = Rs.bun (tgB gt vpl gti (glueG q k z))) := by
 unfold C1
 replace S := S.unbun
 have hEk := hE k hk
 refine calls_in (b := Glue_n0) Try.func33 rfl Try.ntmps33 rfl (fun C hC => ?_)
 refine ws_sub [(0, _), (1, _), (2, _)] ⟨rfl, rfl, rfl, trivial⟩ ?_
 refine ws_seqN Glue_n1 Glue_n2 rfl rfl rfl ?_
 refine ws_region rfl ?_
 refine wlo 0 1 rfl rfl rfl (wo_box (l := [_, _]) rfl rfl rfl rfl rfl S ?_)
 intro gb1 w1 S1; clear S
 refine wl_end rfl ?_
 refine nm_sub [(0, _), (1, _), (5, _)] ⟨rfl, rfl, rfl, trivial⟩ ?_
 refine nm_thn ?_
 refine ws_seqN Glue_n3 Glue_n4 rfl rfl rfl ?_
 refine ws_region rfl ?_
 refine wlm 0 1 rfl rfl rfl rfl rfl rfl rfl ?_
 refine wlm 1 2 rfl rfl rfl rfl rfl rfl rfl ?_
 refine wlo 2 3 rfl rfl rfl (wo_run rfl rfl (run_nilCheck rfl rfl) ?_)
 refine wlo 3 4 rfl rfl rfl (wo_run rfl rfl (run_fieldAddr rfl rfl Try.underlying72 rfl (ce68) (nf68)) ?_)
 refine wlo 4 5 rfl rfl rfl (wo_run rfl rfl (run_indexP (e := k) (k := 4) rfl rfl rfl Try.underlying68 sz67 (by first | rfl | omega) (by first | omega | (simp only [lens]; omega))) ?_)
 refine wlo 5 6 rfl rfl rfl (wo_run rfl rfl (run_loadN (us := [_, _, _, _]) rfl rfl Try.underlying67 rfl sz67 (S1.boxcs (i := 1) rfl (piece_en q.E k (by first | omega | (simp only [lens]; omega))))) ?_)
 refine wlo 6 7 rfl rfl rfl (wo_alloc (l := [_, _, _, _]) rfl rfl rfl zr67 rfl S1 ?_)
 intro gb2 w2 S2; clear S1
 refine wlo 7 8 rfl rfl rfl (wo_storeB (i := 0) (us := [_, _, _, _]) (l' := [_, _, _, _]) (H' := [_, _, _, _, _]) rfl rfl S2 rfl rfl rfl rfl sz67 rfl rfl rfl rfl ?_)
 intro w3 S3; clear S2
 refine wl_end rfl ?_
 refine nm_sub [(0, _), (5, _), (6, _)] ⟨rfl, rfl, rfl, trivial⟩ ?_
 refine nm_thn ?_
 refine ws_seqN Glue_n5 Glue_n6 rfl rfl rfl ?_
 refine ws_region rfl ?_
 refine wlo 0 1 rfl rfl rfl (wo_run rfl rfl (run_fieldAddr rfl rfl Try.underlying67 rfl (ce4) (nf4)) ?_)
 refine wlo 1 2 rfl rfl rfl (wo_run rfl rfl (run_load1 rfl rfl Try.underlying4 rfl (S3.boxc (i := 0) rfl rfl)) ?_)
 refine wl_end rfl ?_
 refine nm_sub [(0, _), (5, _), (6, _), (14, _)] ⟨rfl, rfl, rfl, rfl, trivial⟩ ?_
 refine nm_thn ?_
 refine ws_condN Glue_n7 Glue_n8 rfl rfl rfl rfl (fun hb14 => ?_) (fun hb14 => ?_)
 ·refine ws_region rfl ?_
  refine wlm 0 1 rfl rfl rfl rfl rfl rfl rfl ?_
  refine wlo 1 2 rfl rfl rfl (wo_run rfl rfl (run_fieldAddr rfl rfl Try.underlying67 rfl (ce65) (nf65)) ?_)
  refine wlo 2 3 rfl rfl rfl (wo_run rfl rfl (run_loadN (us := [_, _]) rfl rfl Try.underlying65 rfl sz65 (S3.boxcs (i := 0) rfl ⟨rfl, rfl, trivial⟩)) ?_)
  refine wlo 3 4 rfl rfl rfl (wo_run rfl rfl (run_loadN (us := [_, _]) rfl rfl Try.underlying65 rfl sz65 (S3.boxcs (i := 1) rfl ⟨rfl, rfl, trivial⟩)) ?_)
  have S4 := S3.pick [2, 3, 4, 0, 1] [_, _, _, _, _] (by decide) ⟨rfl, rfl, rfl, rfl, rfl, trivial⟩; clear S3
  have S5 : SH _ _ _ (Rs.bun [_, _, _] :: [_, _]) := SH.bunC (A := [_, _, _]) (B := [_, _]) S4; clear S4
  have S6 : SH _ _ _ [_, _, _] := S5.less (i := 0) rfl
  have hcall1 := Tie_b (q := q) ⟨(q.E k).c, (q.E k).a⟩ ⟨z.c, z.a⟩ (S5.lend1 (i := 0) rfl); clear S6
  refine wlo 4 5 rfl rfl rfl (wo_c1 (i := 0) rfl rfl rfl rfl rfl rfl rfl cf37 S5 rfl hcall1 ?_)
  intro vw4 w4 M1 rw4 hle1 S7 hR1; clear S5
  obtain ⟨huhMX1, hMX1, hR2⟩ := hR1
  rw [hMX1] at S7
  clear hMX1
  subst huhMX1
  subst hR2
  replace S7 : SH _ _ _ (Rs.bun [_, _, _] :: [_, _]) := S7
  have S8 : SH _ _ _ [_, _, _, _, _] := SH.unbunC (A := [_, _, _]) (B := [_, _]) S7; clear S7
  refine wl_end rfl ?_
  refine nm_end hC [] rfl trivial ?_
  refine ⟨_, rfl, _, _, Hp.le_refl _, (S8.pick [0, 1, 2] [_, _, _] (by decide) ⟨rfl, rfl, rfl, trivial⟩).bun, ?_⟩
  have eG : glueG q k z = ⟨q.E, q.pl, tieL q.ties (q.E k).co z, q.loops⟩ := by unfold glueG; first | rw [if_pos hb14] | rw [if_neg (by simp [hb14])]
  rw [eG]
  exact ⟨rfl, rfl, rfl⟩
 ·refine ws_draw rfl (by kernel_rfl) S3 9 rfl ?_
  clear S3
  refine wa_takeP (i := 0) (d := 20) 8 rfl (by kernel_rfl) (by kernel_rfl) (by kernel_rfl) rfl rfl rfl (fun w5 => run_move rfl rfl) ?_
  refine wa_takeP (i := 1) (d := 21) 7 rfl (by kernel_rfl) (by kernel_rfl) (by kernel_rfl) rfl rfl rfl (fun w6 => run_fieldAddr rfl rfl Try.underlying67 rfl (ce3) (nf3)) ?_
  refine wa_take (i := 2) (d := 22) 6 rfl (by kernel_rfl) (by kernel_rfl) (by kernel_rfl) rfl rfl rfl (fun M4 N3 w7 hle4 S11 => .inl (run_load1 rfl rfl Try.underlying3 rfl (S11.suf.boxc (i := 0) rfl rfl))) ?_
  refine wa_take (i := 3) (d := 23) 5 rfl (by kernel_rfl) (by kernel_rfl) (by kernel_rfl) rfl rfl rfl (fun M5 N4 w8 hle5 S12 => .inl (run_loadN (us := [_, _]) rfl rfl Try.underlying65 rfl sz65 (S12.suf.boxcs (i := 1) rfl ⟨rfl, rfl, trivial⟩))) ?_
  refine wa_take (i := 4) (d := 24) 4 rfl (by kernel_rfl) (by kernel_rfl) (by kernel_rfl) rfl rfl rfl (fun M6 N5 w9 hle6 S13 => .inl (run_build (l := [_, _, _, _]) rfl rfl st67 rfl rfl)) ?_
  refine wa_takeP (i := 5) (d := 25) 3 rfl (by kernel_rfl) (by kernel_rfl) (by kernel_rfl) rfl rfl rfl (fun w10 => run_nilCheck rfl rfl) ?_
  refine wa_takeP (i := 6) (d := 26) 2 rfl (by kernel_rfl) (by kernel_rfl) (by kernel_rfl) rfl rfl rfl (fun w11 => run_fieldAddr rfl rfl Try.underlying72 rfl (ce68) (nf68)) ?_
  refine wa_take (i := 7) (d := 27) 1 rfl (by kernel_rfl) (by kernel_rfl) (by kernel_rfl) rfl rfl rfl (fun M9 N8 w12 hle9 S16 => .inl (run_indexP (e := ((q.E k).o).toNat) (k := 4) rfl rfl rfl Try.underlying68 sz67 (by first | rfl | omega) (by first | omega | (simp only [lens]; omega)))) ?_
  refine wa_only (i := 8) 0 rfl (by kernel_rfl) rfl rfl (fun w14 S18 => ?_)
  refine (wo_storeB (i := 2) (us := [_, _, _, _]) (l' := [.bool ((upd q.E (((q.E k).o).toNat) (⟨true, z.c, z.a, 0⟩ : En) 0).ic), .int .i64 ((upd q.E (((q.E k).o).toNat) (⟨true, z.c, z.a, 0⟩ : En) 0).c), .int .i64 ((upd q.E (((q.E k).o).toNat) (⟨true, z.c, z.a, 0⟩ : En) 0).a), .int .i64 ((upd q.E (((q.E k).o).toNat) (⟨true, z.c, z.a, 0⟩ : En) 0).o), .bool ((upd q.E (((q.E k).o).toNat) (⟨true, z.c, z.a, 0⟩ : En) 1).ic), .int .i64 ((upd q.E (((q.E k).o).toNat) (⟨true, z.c, z.a, 0⟩ : En) 1).c), .int .i64 ((upd q.E (((q.E k).o).toNat) (⟨true, z.c, z.a, 0⟩ : En) 1).a), .int .i64 ((upd q.E (((q.E k).o).toNat) (⟨true, z.c, z.a, 0⟩ : En) 1).o), .bool ((upd q.E (((q.E k).o).toNat) (⟨true, z.c, z.a, 0⟩ : En) 2).ic), .int .i64 ((upd q.E (((q.E k).o).toNat) (⟨true, z.c, z.a, 0⟩ : En) 2).c), .int .i64 ((upd q.E (((q.E k).o).toNat) (⟨true, z.c, z.a, 0⟩ : En) 2).a), .int .i64 ((upd q.E (((q.E k).o).toNat) (⟨true, z.c, z.a, 0⟩ : En) 2).o), .bool ((upd q.E (((q.E k).o).toNat) (⟨true, z.c, z.a, 0⟩ : En) 3).ic), .int .i64 ((upd q.E (((q.E k).o).toNat) (⟨true, z.c, z.a, 0⟩ : En) 3).c), .int .i64 ((upd q.E (((q.E k).o).toNat) (⟨true, z.c, z.a, 0⟩ : En) 3).a), .int .i64 ((upd q.E (((q.E k).o).toNat) (⟨true, z.c, z.a, 0⟩ : En) 3).o), vpl, .map (some gti), .int .i64 q.loops]) (H' := [_, _, _, _, _]) rfl rfl S18 rfl rfl rfl rfl sz67 (ble_en (by first | omega | (simp only [lens]; omega))) rfl (spl_en q.E (⟨true, z.c, z.a, 0⟩ : En) (((q.E k).o).toNat) (by first | omega | (simp only [lens]; omega))) rfl ?_)
  intro w15 S19; clear S18
  refine LeftW.turn (by kernel_rfl) S19 ?_; clear S19
  change WA _ _ _ _ _ _ _ _ _ _ _ _ [_, _, _, _, _]
  refine wa_end (by kernel_rfl) (fun w16 S20 => ?_)
  refine nm_end hC [] rfl trivial ?_
  refine ⟨_, rfl, _, _, Hp.le_refl _, (S20.pick [2, 3, 4] [_, _, _] (by decide) ⟨rfl, rfl, rfl, trivial⟩).bun, ?_⟩
  have eG : glueG q k z = ⟨upd q.E (q.E k).o.toNat (enC z), q.pl, q.ties, q.loops⟩ := by unfold glueG; first | rw [if_pos hb14] | rw [if_neg (by simp [hb14])]
  rw [eG]
  exact ⟨rfl, rfl, rfl⟩
end Go.Proofs.Ytkgofmloleicgaa
