/- Part 11 of the proof of the law HomflyTells: the walks through its functions and the plain laws that they need. -/
import Derived.Test.YthppkofceancjaaGreatHfZ10
import Derived.Shelf.SlSortCmp.NoneTotal
import Derived.Test.YthppkofceancjaaGreatProg
import Derived.Lib.SmallJoins
import Derived.Deep.Slices
import Derived.Deep.Fields
import Derived.ChangeSame
set_option linter.unusedSimpArgs false
set_option linter.unusedVariables false
namespace Go.Proofs.YthppkofceancjaaGreat
open Go.ChangeShapes Go.WideShapes Go.ChangeAt Go.RowKit Go.Sort Go.Shelf
theorem holds_of_blockV {w : World} {g : Nat} {cur : Array Value} {e : TypeId} {F : List Value} (hb : w.heap[g]? = some (.cells cur e (0, 0))) (ht : cur.toList.take F.length = F) : Holds id w g 0 F.toArray := by
  intro j hj
  have hj' : j < F.length := by simpa using hj
  refine ⟨?_, by simp [World.frozen?, hb]⟩
  have h1 : (cur.toList.take F.length)[j]? = F[j]? := by rw [ht]
  rw [List.getElem?_take_of_lt hj'] at h1
  simp only [World.cell?, hb, Nat.zero_add]
  simp only [Option.isSome_none, Bool.false_eq_true, if_false]
  rw [← Array.getElem?_toList, h1]
  simp [hj']
theorem heap_sortedV {w : World} {g n : Nat} {os : Array Obj} {cur : Array Value} {e : TypeId} {fr : Nat × Nat} (d : Array Value) (hb : w.heap[g]? = some (.cells cur e fr)) :
    (grow (putRow id (Sort.ahead w n) g 0 d) os).heap[g]? = some (.cells (putCells id 0 d cur) e fr) := by
  have hg : g < w.heap.size := (Array.getElem?_eq_some_iff.1 hb).1
  rw [heap_grow_old _ _ (by simpa using hg)]
  simp [putRow, mapBlock, Sort.ahead, Array.getElem?_modify, hb, onCells]
theorem grownBy_sortedV {w : World} {g n : Nat} {os : Array Obj} (d : Array Value) : w.grownBy (grow (putRow id (Sort.ahead w n) g 0 d) os) (some g) := by
  refine ⟨rfl, rfl, rfl, by simp, fun k hk hne => ?_⟩
  rw [heap_grow_old _ _ (by simpa using hk)]
  have : g ≠ k := fun e => hne (by rw [e])
  simp [putRow, mapBlock, Sort.ahead, Array.getElem?_modify, this]
theorem take_putCellsV (cur : Array Value) (ts : List Value) (h : ts.length ≤ cur.size) : (putCells id 0 ts.toArray cur).toList.take ts.length = ts := by
  apply List.ext_getElem?
  intro j
  by_cases hj : j < ts.length
  · rw [List.getElem?_take_of_lt hj, Array.getElem?_toList]
    simp [putCells, hj, show j < cur.size by omega]
  · rw [List.getElem?_take_eq_none (by omega), List.getElem?_eq_none (by omega)]
theorem flat_lenK {α : Type} {enc : α → List Value} {k : Nat} (hk : ∀ x, (enc x).length = k) : ∀ ys : List α, (ys.flatMap enc).length = ys.length * k
  | [] => by simp
  | y :: ys => by rw [List.flatMap_cons, List.length_append, hk, flat_lenK hk ys, List.length_cons, Nat.succ_mul, Nat.add_comm]
theorem flat_getK {α : Type} [Inhabited α] {enc : α → List Value} {k : Nat} (hk : ∀ x, (enc x).length = k) (hk0 : 0 < k) : ∀ (ys : List α) (t : Nat), t < ys.length * k → (ys.flatMap enc)[t]! = (enc ys[t / k]!)[t % k]!
  | [], t, h => by simp at h
  | y :: ys, t, h => by
    rw [List.flatMap_cons]
    by_cases h1 : t < k
    · rw [Nat.div_eq_of_lt h1, Nat.mod_eq_of_lt h1, List.getElem!_eq_getElem?_getD, List.getElem?_append_left (by rw [hk]; exact h1), ← List.getElem!_eq_getElem?_getD]
      rfl
    · obtain ⟨s, rfl⟩ : ∃ s, t = s + k := ⟨t - k, by omega⟩
      have ih := flat_getK hk hk0 ys s (by rw [List.length_cons, Nat.succ_mul] at h; omega)
      rw [Nat.add_div_right _ hk0, Nat.add_mod_right, List.getElem!_eq_getElem?_getD, List.getElem?_append_right (by rw [hk]; omega), hk, Nat.add_sub_cancel, ← List.getElem!_eq_getElem?_getD, ih]
      rfl
theorem flatK_list {α : Type} [Inhabited α] {enc : α → List Value} {k : Nat} (hk : ∀ x, (enc x).length = k) (hk0 : 0 < k) (ys : List α) : flatK enc k ys.toArray = (ys.flatMap enc).toArray := by
  refine ext_get! (by rw [size_flatK]; simp [flat_lenK hk]) fun t ht => ?_
  rw [size_flatK] at ht
  rw [get_flatK _ _ _ _ ht]
  have h2 := flat_getK hk hk0 ys t (by simpa using ht)
  simp only [List.getElem!_toArray]
  exact h2.symm
section
variable {α β : Type} [Inhabited β]
theorem SH.sortedK {w : World} {M : Hp} {X : Fr} {g cap n : Nat} {C : Cd α} {p : β → α} {xs ys : List β} {os : Array Obj} (hk0 : 0 < C.k) (S : SH w M X [Rs.row C (.slice (some ⟨g, 0, none⟩) xs.length cap) (xs.map p)]) (hl : ys.length = xs.length) :
    SH (sortWorldK (fun y => C.f (p y)) C.k w g 0 n ys.toArray os) M X [Rs.row C (.slice (some ⟨g, 0, none⟩) xs.length cap) (ys.map p)] := by
  have hok : RowOk C (.slice (some ⟨g, 0, none⟩) xs.length cap) (xs.map p) (hp w) := S.get (i := 0) rfl
  rcases hok with ⟨h1, _⟩ | ⟨g', cap', cur, h1, h2, h3, h4, h5, h6⟩
  · cases h1
  rw [List.length_map] at h1
  cases h1
  have ef : flatK (fun y => C.f (p y)) C.k ys.toArray = (((ys.map p).flatMap C.f)).toArray := by
    rw [flatK_list (fun x => C.hf _) hk0, List.flatMap_map]
  unfold sortWorldK putRowK
  rw [ef]
  have gb := grownBy_sortedV (w := w) (g := g) (n := n) (os := os) ((ys.map p).flatMap C.f).toArray
  have hlf : ((ys.map p).flatMap C.f).length = xs.length * C.k := by rw [flat_lenK C.hf, List.length_map, hl]
  have hcu : ((ys.map p).flatMap C.f).length ≤ cur.size := by
    rw [hlf, h5]
    exact Nat.mul_le_mul_right _ (by rw [List.length_map] at h3; exact h3)
  refine S.step (i := 0) (H' := [Rs.row C (.slice (some ⟨g, 0, none⟩) xs.length cap) (ys.map p)]) rfl rfl ⟨gb.os, gb.tape, gb.output, gb.size⟩ (fun b hb hn => ?_) ?_ (fun b hb => ⟨.inl hb, ?_⟩)
  · exact gb.block b hb (fun e => hn (by injection e with e; subst e; simp [Rs.row, Value.ownBlock]))
  · refine .inr ⟨g, cap, _, by rw [List.length_map, hl], heap_sortedV _ h2, by rw [List.length_map, hl]; rw [List.length_map] at h3; exact h3, h4, by simp [putCells, h5], ?_⟩
    rw [List.length_map, hl, ← hlf]
    exact take_putCellsV cur _ hcu
  · have hg : g < w.heap.size := hp_lt h2
    have e : b = g := by simpa [Rs.row, Value.ownBlock] using hb
    subst e
    exact Nat.lt_of_lt_of_le hg gb.size
theorem SH.holdsK {w : World} {M : Hp} {X : Fr} {g cap : Nat} {C : Cd α} {p : β → α} {xs : List β} (hk0 : 0 < C.k) (S : SH w M X [Rs.row C (.slice (some ⟨g, 0, none⟩) xs.length cap) (xs.map p)]) : HoldsK (fun y => C.f (p y)) C.k w g 0 xs.toArray ∧ g < w.heap.size := by
  have hok : RowOk C (.slice (some ⟨g, 0, none⟩) xs.length cap) (xs.map p) (hp w) := S.get (i := 0) rfl
  rcases hok with ⟨h1, _⟩ | ⟨g', cap', cur, h1, h2, h3, h4, h5, h6⟩
  · cases h1
  rw [List.length_map] at h1
  cases h1
  refine ⟨?_, hp_lt h2⟩
  unfold HoldsK
  rw [flatK_list (fun x => C.hf _) hk0, show (xs.flatMap fun y => C.f (p y)) = (xs.map p).flatMap C.f by rw [List.flatMap_map]]
  refine holds_of_blockV h2 ?_
  rw [flat_lenK C.hf]
  exact h6
/-- slices.SortFunc: the row holds the same elements, sorted. -/
theorem c1_sortFunc {P : Program} {ρ : Ren} (L : SlLaysF0.n6 P ρ) {C : Cd α} (hk0 : 0 < C.k) (p : β → α) (aE : ∀ w, (isAgg (ρ.t 24)).run P w = .ok true w) (zE : ∀ w, (Go.sizeOf (ρ.t 24)).run P w = .ok C.k w) {cf : β → β → Int} (hO : SWO (ltOf cf)) (hT : ∀ x y, (ltOf cf) x y = false → (ltOf cf) y x = false → x = y) {g : Nat}
    (eg : ∀ args w, (callFunc g args).run P w = .ok (.enter g args) w) (hcmp : ∀ (x y : β) (W : World), Calls P g #[.agg (C.f (p x)).toArray, .agg (C.f (p y)).toArray] W fun e w' => e = .returned (.int .i64 (cf x y)) ∧ ∃ q os', w' = grow (W.drewN q) os')
    {w : World} {M : Hp} {X : Fr} {v : Value} {xs : List β} (hsz : xs.length < 4611686018427387904) (S : SH w M X [Rs.row C v (xs.map p)]) :
    C1 P (ρ.f 6) [v, .func (.func g) #[] #[]] w M X fun u M' r' => u = .tuple #[] ∧ M' = M ∧ r' = Rs.row C v ((xs.mergeSort fun x y => !(ltOf cf) y x).map p) := by
  have hok : RowOk C v (xs.map p) (hp w) := S.get (i := 0) rfl
  rcases hok with ⟨h1, h2⟩ | ⟨b, cap, cur, h1, _⟩
  · subst h1
    have h3 : xs = [] := List.map_eq_nil_iff.1 h2
    subst h3
    refine (AnyF.slices_SortFunc_none L none 0 _ w).mono ?_
    rintro e w' ⟨rfl, rfl⟩
    exact ⟨_, rfl, M, _, Hp.le_refl _, S, rfl, rfl, by simp⟩
  · rw [List.length_map] at h1
    subst h1
    obtain ⟨hH, hb⟩ := S.holdsK hk0
    have hc := AnyQ.slices_SortFunc_total L C.k aE zE (fun y => C.f (p y)) (fun x => C.hf _) (fun x => C.one _) cf hO g #[] b 0 cap xs.toArray w eg (fun m os dk _ x y => hcmp x y _) hH hb (by simpa using hsz) hT
    rw [List.size_toArray] at hc
    refine hc.mono ?_
    rintro e w' ⟨rfl, n, os, rfl⟩
    exact ⟨_, rfl, M, _, Hp.le_refl _, S.sortedK hk0 (List.length_mergeSort _), rfl, rfl, rfl⟩
end
end Go.Proofs.YthppkofceancjaaGreat
namespace Go.Proofs.YthppkofceancjaaGreat
open Go.ChangeShapes Go.WideShapes Go.ChangeAt Go.RowKit Go.Sort Go.Shelf
theorem ltP (x y : PwB) : ltOf cfP x y = decide (enc x.1 < enc y.1) := by
  have h := enc_lt (B := 400) (Nat.le_refl _) x.2 y.2
  unfold ltOf cfP
  rw [Bool.eq_iff_iff, decide_eq_true_iff, decide_eq_true_iff, h]
  split <;> omega
theorem swoP : SWO (ltOf cfP) where
  irrefl x := by rw [ltP]; simp
  trans x y z h1 h2 := by rw [ltP] at *; simp at *; omega
  ntrans x y z h1 h2 := by rw [ltP] at *; simp at *; omega
theorem totP (x y : PwB) (h1 : ltOf cfP x y = false) (h2 : ltOf cfP y x = false) : x = y := by
  rw [ltP] at h1 h2
  simp at h1 h2
  exact Subtype.ext (enc_inj (Nat.le_refl _) x.2 y.2 (by omega))
def srtP (ks : List PwB) : List PwB := ks.mergeSort fun x y => !(ltOf cfP) y x
theorem srtP_perm (ks : List PwB) : (srtP ks).Perm ks := List.mergeSort_perm _ _
def encB (k : PwB) : Int := enc k.1
theorem encB_nodup {ks : List PwB} (h : ks.Nodup) : (ks.map encB).Nodup := by
  induction ks with
  | nil => exact List.nodup_nil
  | cons k ks ih =>
    obtain ⟨h1, h2⟩ := List.nodup_cons.1 h
    rw [List.map_cons, List.nodup_cons]
    refine ⟨fun hm => ?_, ih h2⟩
    obtain ⟨y, hy, e⟩ := List.mem_map.1 hm
    have := enc_inj (Nat.le_refl _) y.2 k.2 e
    exact h1 ((Subtype.ext this : y = k) ▸ hy)
theorem srtP_enc {ks : List PwB} (hn : ks.Nodup) : (srtP ks).map encB = srt (ks.map encB) := by
  have hp := srtP_perm ks
  have h1 : (srtP ks).Pairwise (fun a b => (!(ltOf cfP) b a) = true) := List.pairwise_mergeSort (fun a b c h1 h2 => by rw [ltP] at *; simp at *; omega) (fun a b => by rw [ltP, ltP]; simp; omega) ks
  have h2 : ((srtP ks).map encB).Nodup := encB_nodup (hp.nodup_iff.2 hn)
  have h3 : ((srtP ks).map encB).Pairwise (fun a b => a < b) := by
    have h4 : ((srtP ks).map encB).Pairwise (fun a b => a ≤ b) := by
      rw [List.pairwise_map]
      exact h1.imp fun {a b} h => by rw [ltP] at h; unfold encB; simp at h; exact h
    exact (h4.and h2).imp fun {a b} h => by have := h.1; have := h.2; omega
  refine inc_ext h3 (srt_inc (encB_nodup hn)) fun t => ?_
  rw [srt_mem]
  exact (hp.map encB).mem_iff
def fmP (es : List (Pw × Int)) (ks : List Pw) : List T2 := ks.flatMap fun k => if (mg k es).getD 0 = 0 then [] else [⟨k.x, k.z, (mg k es).getD 0⟩]
theorem fmP_snoc (es : List (Pw × Int)) (ks : List Pw) (k : Pw) : fmP es (ks ++ [k]) = fmP es ks ++ (if (mg k es).getD 0 = 0 then [] else [⟨k.x, k.z, (mg k es).getD 0⟩]) := by
  unfold fmP; rw [List.flatMap_append]; simp
theorem fmP_cons (es : List (Pw × Int)) (ks : List Pw) (k : Pw) : fmP es (k :: ks) = (if (mg k es).getD 0 = 0 then [] else [⟨k.x, k.z, (mg k es).getD 0⟩]) ++ fmP es ks := by
  unfold fmP; rw [List.flatMap_cons]
theorem fmP_len (es : List (Pw × Int)) (ks : List Pw) : (fmP es ks).length ≤ ks.length := by
  induction ks with
  | nil => exact Nat.le_refl _
  | cons k ks ih =>
    rw [fmP_cons, List.length_append, List.length_cons]
    split
    · simp only [List.length_nil]; omega
    · simp only [List.length_cons, List.length_nil]; omega
theorem fmP_bd {es : List (Pw × Int)} {B : Nat} {ks : List Pw} (h : ∀ k ∈ ks, PB B k) : B2 B (fmP es ks) := fun t ht => by
  obtain ⟨k, hk, hm⟩ := List.mem_flatMap.1 ht
  split at hm
  · cases hm
  · rw [List.mem_singleton] at hm
    rw [hm]; exact h k hk
theorem fmP_enc {es : List (Pw × Int)} {B : Nat} (hB : B ≤ 400) (he : ∀ q ∈ es, PB B q.1) : ∀ {ks : List Pw}, (∀ k ∈ ks, PB B k) → (fmP es ks).map e2 = fm (eE es) (ks.map enc)
  | [], _ => rfl
  | k :: ks, h => by
    have ih := fmP_enc hB he (ks := ks) fun k hk => h k (List.mem_cons_of_mem _ hk)
    have e : fm (eE es) ((k :: ks).map enc) = (if (mg (enc k) (eE es)).getD 0 = 0 then [] else [⟨enc k, (mg (enc k) (eE es)).getD 0⟩]) ++ fm (eE es) (ks.map enc) := by unfold fm; rw [List.map_cons, List.flatMap_cons]
    rw [fmP_cons, List.map_append, ih, e, mg_enc hB (h k (List.mem_cons_self ..)) he]
    refine congrArg (fun z => z ++ _) ?_
    split <;> rfl
theorem keys_enc (es : List (Pw × Int)) : (eE es).map Prod.fst = (es.map Prod.fst).map enc := by
  unfold eE
  rw [List.map_map, List.map_map]
  rfl
/-- The map's entries in order. -/
theorem out_eq {es : List (Pw × Int)} {ks : List PwB} {l : List T2} {B : Nat} (hB : B ≤ 400) (h : EntP es B) (hp : (ks.map Subtype.val).Perm (es.map Prod.fst)) (hc : Can2 l) (hb : B2 B l) (he : cE es = cT l) : fmP es ((srtP ks).map Subtype.val) = l := by
  have hn : ks.Nodup := by
    have := hp.nodup_iff.2 h.1
    exact List.Pairwise.of_map Subtype.val (fun a b hab e => hab (by rw [e])) this
  have hkb : ∀ k ∈ (srtP ks).map Subtype.val, PB 400 k := fun k hk => by
    obtain ⟨y, _, rfl⟩ := List.mem_map.1 hk
    exact y.2
  refine e2_ext (B := 400) (Nat.le_refl _) (fmP_bd hkb) (hb.mono hB) ?_
  rw [fmP_enc (Nat.le_refl _) (fun q hq => ((h.2 q hq).1).mono hB) hkb, List.map_map]
  have e1 : (enc ∘ Subtype.val : PwB → Int) = encB := rfl
  rw [e1, srtP_enc hn]
  have hE := h.ents hB
  have e2' : srt (ks.map encB) = srt ((eE es).map Prod.fst) := by
    refine srt_eq ?_ hE.1
    rw [keys_enc]
    have := hp.map enc
    rw [List.map_map] at this
    exact this
  rw [e2']
  exact can_ext (formL_can hE (by omega)) hc ((mk_formL hE).trans he)
def czL (l : List T2) : Pol := mk (l.map fun t => (t.z, t.c))
def czE (es : List (Pw × Int)) : Pol := mk (es.map fun q => (q.1.z, q.2))
theorem czE_snoc (dn : List (Pw × Int)) (k : Pw) (v : Int) : czE (dn ++ [(k, v)]) = czE dn + mono k.z v := by
  unfold czE
  rw [List.map_append]
  exact mk_snoc _ _ _
theorem czE_perm {a b : List (Pw × Int)} (h : a.Perm b) : czE a = czE b := mk_perm (h.map _)
theorem czL_take {l : List T2} {i : Nat} (h : i < l.length) : czL (l.take (i + 1)) = czL (l.take i) + mono (ga l i).z (ga l i).c := by
  unfold czL
  rw [take_ga l i h, List.map_append]
  exact mk_snoc _ _ _
theorem mk_fmz (es : List (Pw × Int)) : ∀ ks : List Pw, czL (fmP es ks) = mk (ks.map fun k => (k.z, (mg k es).getD 0))
  | [] => rfl
  | k :: ks => by
    have ih := mk_fmz es ks
    rw [fmP_cons]
    unfold czL at *
    rw [List.map_append, mk_append, ih, List.map_cons, mk_cons]
    refine congrArg (fun z => z + _) ?_
    split
    · rename_i h0
      rw [h0]
      exact (mono_zero _).symm
    · show mono k.z _ + Pol.o = _
      rw [Pol.add_zero]
theorem mgP_mem : ∀ {es : List (Pw × Int)}, (es.map Prod.fst).Nodup → ∀ q ∈ es, mg q.1 es = some q.2
  | [], _, q, h => by cases h
  | p :: es, hn, q, h => by
    rw [List.map_cons, List.nodup_cons] at hn
    show (if q.1 = p.1 then some p.2 else mg q.1 es) = _
    rcases List.mem_cons.1 h with rfl | h
    · rw [if_pos rfl]
    · rw [if_neg (fun e : q.1 = p.1 => hn.1 (by rw [← e]; exact List.mem_map.2 ⟨q, h, rfl⟩))]
      exact mgP_mem hn.2 q h
theorem cz_eq {es : List (Pw × Int)} {ks : List PwB} {l : List T2} {B : Nat} (hB : B ≤ 400) (h : EntP es B) (hp : (ks.map Subtype.val).Perm (es.map Prod.fst)) (hc : Can2 l) (hb : B2 B l) (he : cE es = cT l) : czE es = czL l := by
  rw [← out_eq hB h hp hc hb he, mk_fmz]
  have h1 : ((srtP ks).map Subtype.val).Perm (es.map Prod.fst) := ((srtP_perm ks).map _).trans hp
  rw [mk_perm (h1.map fun k => (k.z, (mg k es).getD 0)), List.map_map]
  unfold czE
  refine congrArg mk (List.map_congr_left fun q hq => ?_)
  show (q.1.z, q.2) = (q.1.z, (mg q.1 es).getD 0)
  rw [mgP_mem h.1 q hq]; rfl
theorem lift_ks : ∀ {ks : List Pw}, (∀ k ∈ ks, PB 400 k) → ∃ ls : List PwB, ls.map Subtype.val = ks
  | [], _ => ⟨[], rfl⟩
  | k :: ks, h => by
    obtain ⟨ls, e⟩ := lift_ks (ks := ks) fun k hk => h k (List.mem_cons_of_mem _ hk)
    exact ⟨⟨k, h k (List.mem_cons_self ..)⟩ :: ls, by rw [List.map_cons, e]⟩
theorem cz_eq' {es : List (Pw × Int)} {l : List T2} {B : Nat} (hB : B ≤ 400) (h : EntP es B) (hc : Can2 l) (hb : B2 B l) (he : cE es = cT l) : czE es = czL l := by
  obtain ⟨ls, e⟩ := lift_ks (ks := es.map Prod.fst) fun k hk => by
    obtain ⟨q, hq, rfl⟩ := List.mem_map.1 hk
    exact ((h.2 q hq).1).mono hB
  exact cz_eq hB h (List.Perm.of_eq e) hc hb he
end Go.Proofs.YthppkofceancjaaGreat
namespace Go.Proofs.YthppkofceancjaaGreat
open Go.Shelf Go.ChangeShapes Go.WideShapes Go.ChangeAt Go.RowKit Go.Sort
def sortPL_ren : Go.Shelf.Ren := ⟨fun | 6 => 91 | 15 => 102 | 14 => 141 | 28 => 160 | 29 => 161 | 20 => 174 | 21 => 175 | 22 => 176 | 23 => 177 | 24 => 178 | 25 => 179 | 26 => 180 | 27 => 181 | 46 => 193 | 47 => 188 | 48 => 189 | 49 => 194 | 50 => 195 | 57 => 206 | n => n, fun | 22 => 87 | 24 => 90 | 25 => 95 | 3 => 3 | 39 => 185 | 0 => 0 | 53 => 244 | 55 => 246 | 4 => 4 | 46 => 237 | 45 => 236 | 50 => 241 | 5 => 5 | 9 => 9 | 66 => 265 | 70 => 251 | 76 => 276 | 77 => 152 | n => n, fun | n => n⟩
theorem sortPL : Go.Proofs.SlLaysF0.n6 Tryz.prog sortPL_ren := {
  mixed := by kernel_rfl
  f6 := ⟨ "slices.SortFunc[[]knotwork/homfly.power,knotwork/homfly.power]", by decide, Tryz.func91.trans (congrArg some (by kernel_rfl))⟩
  f14 := ⟨ "slices.pdqsortCmpFunc[knotwork/homfly.power]", by decide, Tryz.func141.trans (congrArg some (by kernel_rfl))⟩
  f15 := Tryz.func102.trans (congrArg some (by kernel_rfl))
  f20 := ⟨ "slices.insertionSortCmpFunc[knotwork/homfly.power]", by decide, Tryz.func174.trans (congrArg some (by kernel_rfl))⟩
  f21 := ⟨ "slices.heapSortCmpFunc[knotwork/homfly.power]", by decide, Tryz.func175.trans (congrArg some (by kernel_rfl))⟩
  f22 := ⟨ "slices.breakPatternsCmpFunc[knotwork/homfly.power]", by decide, Tryz.func176.trans (congrArg some (by kernel_rfl))⟩
  f23 := ⟨ "slices.choosePivotCmpFunc[knotwork/homfly.power]", by decide, Tryz.func177.trans (congrArg some (by kernel_rfl))⟩
  f24 := ⟨ "slices.reverseRangeCmpFunc[knotwork/homfly.power]", by decide, Tryz.func178.trans (congrArg some (by kernel_rfl))⟩
  f25 := ⟨ "slices.partialInsertionSortCmpFunc[knotwork/homfly.power]", by decide, Tryz.func179.trans (congrArg some (by kernel_rfl))⟩
  f26 := ⟨ "slices.partitionEqualCmpFunc[knotwork/homfly.power]", by decide, Tryz.func180.trans (congrArg some (by kernel_rfl))⟩
  f27 := ⟨ "slices.partitionCmpFunc[knotwork/homfly.power]", by decide, Tryz.func181.trans (congrArg some (by kernel_rfl))⟩
  f28 := Tryz.func160.trans (congrArg some (by kernel_rfl))
  f29 := Tryz.func161.trans (congrArg some (by kernel_rfl))
  f46 := ⟨ "slices.siftDownCmpFunc[knotwork/homfly.power]", by decide, Tryz.func193.trans (congrArg some (by kernel_rfl))⟩
  f47 := Tryz.func188.trans (congrArg some (by kernel_rfl))
  f48 := Tryz.func189.trans (congrArg some (by kernel_rfl))
  f49 := ⟨ "slices.medianAdjacentCmpFunc[knotwork/homfly.power]", by decide, Tryz.func194.trans (congrArg some (by kernel_rfl))⟩
  f50 := ⟨ "slices.medianCmpFunc[knotwork/homfly.power]", by decide, Tryz.func195.trans (congrArg some (by kernel_rfl))⟩
  f57 := ⟨ "slices.order2CmpFunc[knotwork/homfly.power]", by decide, Tryz.func206.trans (congrArg some (by kernel_rfl))⟩
  t0 := Tryz.underlying0
  a0 := Tryz.isAgg0
  z0 := Tryz.sizeOf0
  v0 := Tryz.zeroValue0
  t3 := Tryz.underlying3
  a3 := Tryz.isAgg3
  z3 := Tryz.sizeOf3
  v3 := Tryz.zeroValue3
  t4 := Tryz.underlying4
  a4 := Tryz.isAgg4
  z4 := Tryz.sizeOf4
  v4 := Tryz.zeroValue4
  t5 := Tryz.underlying5
  a5 := Tryz.isAgg5
  z5 := Tryz.sizeOf5
  v5 := Tryz.zeroValue5
  t9 := Tryz.underlying9
  a9 := Tryz.isAgg9
  z9 := Tryz.sizeOf9
  v9 := Tryz.zeroValue9
  t22 := Tryz.underlying87
  a22 := Tryz.isAgg87
  z22 := Tryz.sizeOf87
  v22 := Tryz.zeroValue87
  t25 := Tryz.underlying95
  a25 := Tryz.isAgg95
  z25 := Tryz.sizeOf95
  v25 := Tryz.zeroValue95
  t39 := Tryz.underlying185
  a39 := Tryz.isAgg185
  z39 := Tryz.sizeOf185
  v39 := Tryz.zeroValue185
  t45 := Tryz.underlying236
  a45 := Tryz.isAgg236
  z45 := Tryz.sizeOf236
  v45 := Tryz.zeroValue236
  t46 := Tryz.underlying237
  a46 := Tryz.isAgg237
  z46 := Tryz.sizeOf237
  v46 := Tryz.zeroValue237
  t50 := Tryz.underlying241
  a50 := Tryz.isAgg241
  z50 := Tryz.sizeOf241
  v50 := Tryz.zeroValue241
  t53 := Tryz.underlying244
  a53 := Tryz.isAgg244
  z53 := Tryz.sizeOf244
  v53 := Tryz.zeroValue244
  t55 := Tryz.underlying246
  a55 := Tryz.isAgg246
  z55 := Tryz.sizeOf246
  v55 := Tryz.zeroValue246
  t66 := Tryz.underlying265
  a66 := Tryz.isAgg265
  z66 := Tryz.sizeOf265
  v66 := Tryz.zeroValue265
  t70 := Tryz.underlying251
  a70 := Tryz.isAgg251
  z70 := Tryz.sizeOf251
  v70 := Tryz.zeroValue251
  t76 := Tryz.underlying276
  a76 := Tryz.isAgg276
  z76 := Tryz.sizeOf276
  v76 := Tryz.zeroValue276
  t77 := Tryz.underlying152
  a77 := Tryz.isAgg152
  z77 := Tryz.sizeOf152
  v77 := Tryz.zeroValue152 }
theorem sortF_w {w : World} {M : Hp} {X : Fr} {v : Value} {xs : List PwB} (hsz : xs.length < 4611686018427387904) (S : SH w M X [Rs.row cdPw v (xs.map Subtype.val)]) :
    C1 Tryz.prog 91 [v, .func (.func 46) #[] #[]] w M X fun u M' r' => u = .tuple #[] ∧ M' = M ∧ r' = Rs.row cdPw v ((srtP xs).map Subtype.val) :=
  c1_sortFunc sortPL (C := cdPw) (by decide) Subtype.val Tryz.isAgg90 Tryz.sizeOf90 swoP totP (enters_of Tryz.func46 (by kernel_rfl) rfl) (fun x y W => cmp_w x y W) hsz S
end Go.Proofs.YthppkofceancjaaGreat
namespace Go.Proofs.YthppkofceancjaaGreat
open Go.ChangeShapes Go.WideShapes Go.ChangeAt Go.RowKit
/-- Few crossings: what forbids it. -/
def errK (d : Dg) (m : Nat) : Int := if errO d = 0 then (if m < d.crs.length then 2 else 0) else errO d
theorem errK_ok {d : Dg} {m : Nat} (h : errK d m = 0) : errO d = 0 ∧ d.crs.length ≤ m := by
 unfold errK at h
 split at h
 ·split at h
  ·cases h
  ·exact ⟨by assumption, by omega⟩
 ·exact absurd h (by assumption)
def OpenF (m : Nat) (d : Dg) (v : Value) (N : Hp) : Prop :=
 (errK d m ≠ 0 ∧ v = .tuple [.pointer none, .int .i64 (errK d m)].toArray) ∨
 (errK d m = 0 ∧ ∃ g cA iA oA cc ic oc, v = .tuple [.pointer (some ⟨g, 0, none⟩), .int .i64 0].toArray ∧ ShM N d g cA iA oA cc ic oc)
theorem jd_of {d : Dg} (h : errK d 8 = 0) : Jd d := by
 obtain ⟨h1, h2⟩ := errK_ok h
 have h3 := (errO_ok h1).1
 rw [mayB_arcs, Bool.and_eq_true, decide_eq_true_iff] at h3
 obtain ⟨⟨_, l0, l1, l2⟩, hab⟩ := h3
 refine ⟨hab, h2, l0, by omega, ?_⟩
 have : d.crs.length * (d.crs.length + 1) ≤ 8 * 9 := Nat.mul_le_mul h2 (by omega)
 omega
theorem EntP.klen {es : List (Pw × Int)} (h : EntP es 400) : (es.map Prod.fst).length ≤ 2199023255553 := by
 have h8 := ents_len (h.ents (Nat.le_refl _))
 unfold eE at h8
 rw [List.length_map] at h8 ⊢
 exact Nat.le_trans h8 (by decide)
theorem srtP_len {ks : List PwB} {l : List Pw} {N : Nat} (h : (ks.map Subtype.val).Perm l) (hl : l.length ≤ N) : ((srtP ks).map Subtype.val).length ≤ N := by
 have h1 := h.length_eq
 have h2 := (srtP_perm ks).length_eq
 rw [List.length_map] at h1 ⊢
 omega
def HfR (d : Dg) (u : Value) (N : Hp) : Prop :=
 (errK d 8 ≠ 0 ∧ u = .tuple [.slice none 0 0, .int .i64 (errK d 8)].toArray) ∨
 (errK d 8 = 0 ∧ ∃ A c, u = .tuple [.slice A (homL (mu d + 1) d).length c, .int .i64 0].toArray ∧ RdA cdT2 N A c (homL (mu d + 1) d))
noncomputable def few_n0 : Code := Tryz.f18.body.getD .skip
noncomputable def few_n1 : Code := cL few_n0
noncomputable def few_n2 : Code := cR few_n0
noncomputable def few_n3 : Code := cL few_n2
noncomputable def few_n4 : Code := cR few_n2
noncomputable def few_n5 : Code := cL few_n4
noncomputable def few_n6 : Code := cR few_n4
noncomputable def few_n7 : Code := cL few_n5
noncomputable def few_n8 : Code := cR few_n5
noncomputable def few_n9 : Code := cL few_n8
noncomputable def few_n10 : Code := cR few_n8
noncomputable def few_n11 : Code := cL few_n6
noncomputable def few_n12 : Code := cR few_n6
set_option maxRecDepth 10000 in
theorem few_t {w : World} {M : Hp} {X : Fr} (d : Dg) {dcrsA : Option Addr} {dcrsc : Nat} (m : Nat) (hdcrs : RdA cdCr (M.un X.h) dcrsA dcrsc d.crs) (S : SH w M X []) : Ct Tryz.prog 18 [.agg [.slice dcrsA d.crs.length dcrsc, .int .i64 d.loops].toArray, .int .i64 (m : Int)] w M X (fun u _ => u = .int .i64 (errK d m)) := by
 unfold Ct
 have rmhdcrs : d.crs.length * 40 ≤ 140737488355328 := hdcrs.room
 refine calls_in (b := few_n0) Tryz.func18 rfl Tryz.ntmps18 rfl (fun C hC => (ws_sub [(0, _), (1, _)] ⟨rfl, rfl, trivial⟩ (ws_seqN few_n1 few_n2 rfl rfl rfl (ws_region rfl (wlo 0 1 rfl rfl rfl (wo_box (l := [_, _]) rfl rfl rfl rfl rfl S ?_))))))
 intro gb1 w1 S1; clear S
 refine wla 1 2 rfl rfl rfl rfl rfl rfl rfl (wl_end rfl (nmk [1, 2] rfl (nm_thn (ws_seqN few_n3 few_n4 rfl rfl rfl (ws_region rfl (wlo 0 1 rfl rfl rfl (wo_run rfl rfl (run_loadN (us := [_, _]) rfl rfl Tryz.underlying24 rfl sz24 (S1.boxcs (i := 0) rfl ⟨rfl, rfl, trivial⟩)) (wlo 1 2 rfl rfl rfl (wo_ct rfl rfl rfl rfl rfl rfl rfl cf49 S1 (PlanarMay_t d (hdcrs.mono S1.un_XH) S1.lend) ?_)))))))))
 intro vw2 w2 M1 hle1 S2 hRw2; clear S1
 replace hdcrs := hdcrs.mono (Hp.un_mono hle1 S2.mx)
 obtain rfl := hRw2
 refine wla 2 3 rfl rfl rfl rfl rfl rfl rfl (wl_end rfl (nmk [1, 2, 5] rfl (nm_thn (ws_seqN few_n5 few_n6 rfl rfl rfl (ws_seqN few_n7 few_n8 rfl rfl rfl (ws_region rfl (wlm 0 1 rfl rfl rfl rfl rfl rfl rfl (wlo 1 2 rfl rfl rfl (wo_run rfl rfl (run_eql rfl rfl rfl) ?_)))))))))
 refine wlm 2 3 rfl rfl rfl rfl rfl rfl rfl ?_
 refine wl_split (t := 10) rfl (fun hg10 => ?_) (fun hg10 => ?_)
 ·replace hg10 := of_decide_eq_true hg10
  refine wlg 3 4 rfl rfl rfl rfl rfl rfl rfl rfl (wo_run rfl rfl (run_fieldAddr rfl rfl Tryz.underlying24 rfl (ce22) (nf22)) (wlg 4 5 rfl rfl rfl rfl rfl rfl rfl rfl (wo_run rfl rfl (run_load1 rfl rfl Tryz.underlying22 rfl (S2.boxc (i := 0) rfl rfl)) (wlg 5 6 rfl rfl rfl rfl rfl rfl rfl rfl (wo_run rfl rfl (run_len rfl rfl rfl rfl rfl rfl Tryz.underlying22) (wlg 6 7 rfl rfl rfl rfl rfl rfl rfl rfl (wo_run rfl rfl (run_move rfl rfl) (wlg 7 8 rfl rfl rfl rfl rfl rfl rfl rfl (wo_run rfl rfl (run_gtr rfl rfl rfl) (wlo 8 9 rfl rfl rfl (wo_run rfl rfl (run_pickT rfl rfl rfl) (wl_end rfl (nmk [5, 16] rfl (nm_thn ?_))))))))))))))
  refine ws_condN few_n9 few_n10 rfl rfl rfl rfl (fun hb16 => ?_) (fun hb16 => ?_)
  ·replace hb16 := of_decide_eq_true hb16
   refine ws_region rfl (wla 0 1 rfl rfl rfl rfl rfl rfl rfl (wl_end rfl (nmk [5] rfl (nm_thn (ws_seqN few_n11 few_n12 rfl rfl rfl (ws_region rfl (wlm 0 1 rfl rfl rfl rfl rfl rfl rfl (wla 1 2 rfl rfl rfl rfl rfl rfl rfl ?_))))))))
   refine wl_end rfl (nmk [4] rfl (nm_thn (ws_ret hC [_] rfl rfl ⟨rfl, trivial⟩ ?_)))
   refine ⟨_, rfl, _, hle1, (S2.pick [] [] (by decide) trivial), ?_⟩
   show Value.int _ _ = _
   refine congrArg (Value.int .i64) ?_
   unfold errK
   first | (rw [if_pos (by first | omega | simp_all), if_pos (by omega)]) | (rw [if_pos (by first | omega | simp_all), if_neg (by omega)]; first | rfl | omega) | (rw [if_neg (by first | omega | simp_all)])
  ·replace hb16 := of_decide_eq_false hb16
   refine ws_skip rfl (nmk [5] rfl (nm_thn (ws_seqN few_n11 few_n12 rfl rfl rfl (ws_region rfl (wlm 0 1 rfl rfl rfl rfl rfl rfl rfl (wla 1 2 rfl rfl rfl rfl rfl rfl rfl (wl_end rfl (nmk [4] rfl ?_))))))))
   refine nm_thn (ws_ret hC [_] rfl rfl ⟨rfl, trivial⟩ ?_)
   refine ⟨_, rfl, _, hle1, (S2.pick [] [] (by decide) trivial), ?_⟩
   show Value.int _ _ = _
   refine congrArg (Value.int .i64) ?_
   unfold errK
   first | (rw [if_pos (by first | omega | simp_all), if_pos (by omega)]) | (rw [if_pos (by first | omega | simp_all), if_neg (by omega)]; first | rfl | omega) | (rw [if_neg (by first | omega | simp_all)])
 ·replace hg10 := of_decide_eq_false hg10
  refine wln 3 4 rfl rfl rfl rfl rfl rfl rfl rfl rfl (wln 4 5 rfl rfl rfl rfl rfl rfl rfl rfl rfl (wln 5 6 rfl rfl rfl rfl rfl rfl rfl rfl rfl (wln 6 7 rfl rfl rfl rfl rfl rfl rfl rfl rfl (wln 7 8 rfl rfl rfl rfl rfl rfl rfl rfl rfl (wlo 8 9 rfl rfl rfl (wo_run rfl rfl (run_pickF rfl rfl rfl) (wl_end rfl (nmk [5, 16] rfl (nm_thn ?_)))))))))
  refine ws_condFN few_n10 rfl rfl rfl (ws_skip rfl (nmk [5] rfl (nm_thn (ws_seqN few_n11 few_n12 rfl rfl rfl (ws_region rfl (wlm 0 1 rfl rfl rfl rfl rfl rfl rfl (wla 1 2 rfl rfl rfl rfl rfl rfl rfl (wl_end rfl ?_))))))))
  refine nmk [4] rfl (nm_thn (ws_ret hC [_] rfl rfl ⟨rfl, trivial⟩ ?_))
  refine ⟨_, rfl, _, hle1, (S2.pick [] [] (by decide) trivial), ?_⟩
  show Value.int _ _ = _
  refine congrArg (Value.int .i64) ?_
  unfold errK
  first | (rw [if_pos (by first | omega | simp_all), if_pos (by omega)]) | (rw [if_pos (by first | omega | simp_all), if_neg (by omega)]; first | rfl | omega) | (rw [if_neg (by first | omega | simp_all)])
noncomputable def HOpen0_n0 : Code := Tryz.f42.body.getD .skip
noncomputable def HOpen0_n1 : Code := cL HOpen0_n0
noncomputable def HOpen0_n2 : Code := cR HOpen0_n0
noncomputable def HOpen0_n3 : Code := cL HOpen0_n2
noncomputable def HOpen0_n4 : Code := cR HOpen0_n2
noncomputable def HOpen0_n5 : Code := cL HOpen0_n4
noncomputable def HOpen0_n6 : Code := cR HOpen0_n4
noncomputable def HOpen0_n7 : Code := cL HOpen0_n5
noncomputable def HOpen0_n8 : Code := cL HOpen0_n7
noncomputable def HOpen0_n9 : Code := cR HOpen0_n7
noncomputable def HOpen0_n10 : Code := cL HOpen0_n9
noncomputable def HOpen0_n11 : Code := cR HOpen0_n9
noncomputable def HOpen0_n12 : Code := cL HOpen0_n10
noncomputable def HOpen0_n13 : Code := cR HOpen0_n10
noncomputable def HOpen0_n14 : Code := cL HOpen0_n11
noncomputable def HOpen0_n15 : Code := cR HOpen0_n11
noncomputable def HOpen0_n17 : Code := cR HOpen0_n15
noncomputable def HOpen0_n18 : Code := cL HOpen0_n17
noncomputable def HOpen0_n19 : Code := cR HOpen0_n17
noncomputable def HOpen0_n20 : Code := cL HOpen0_n19
noncomputable def HOpen0_n21 : Code := cR HOpen0_n19
noncomputable def HOpen0_n22 : Code := cL HOpen0_n20
noncomputable def HOpen0_n23 : Code := cR HOpen0_n20
noncomputable def HOpen0_n24 : Code := cL HOpen0_n6
noncomputable def HOpen0_n25 : Code := cR HOpen0_n6
set_option maxRecDepth 10000 in
theorem HOpen0_t {w : World} {M : Hp} {X : Fr} (d : Dg) {dcrsA : Option Addr} {dcrsc : Nat} (k : Int) (hdcrs : RdA cdCr (M.un X.h) dcrsA dcrsc d.crs) (S : SH w M X []) : Ct Tryz.prog 42 [.agg [.slice dcrsA d.crs.length dcrsc, .int .i64 d.loops].toArray, .int .i64 k, .bool false] w M X (OpenF 8 d) := by
 unfold Ct
 have rmhdcrs : d.crs.length * 40 ≤ 140737488355328 := hdcrs.room
 refine calls_in (b := HOpen0_n0) Tryz.func42 rfl Tryz.ntmps42 rfl (fun C hC => (ws_sub [(0, _), (1, _), (2, _)] ⟨rfl, rfl, rfl, trivial⟩ (ws_seqN HOpen0_n1 HOpen0_n2 rfl rfl rfl (ws_region rfl (wlo 0 1 rfl rfl rfl (wo_box (l := [_, _]) rfl rfl rfl rfl rfl S ?_))))))
 intro gb1 w1 S1; clear S
 refine wla 1 2 rfl rfl rfl rfl rfl rfl rfl (wla 2 3 rfl rfl rfl rfl rfl rfl rfl (wl_end rfl (nmk [1, 2, 3] rfl (nm_thn (ws_seqN HOpen0_n3 HOpen0_n4 rfl rfl rfl (ws_region rfl (wlo 0 1 rfl rfl rfl (wo_run rfl rfl (run_loadN (us := [_, _]) rfl rfl Tryz.underlying24 rfl sz24 (S1.boxcs (i := 0) rfl ⟨rfl, rfl, trivial⟩)) (wlo 1 2 rfl rfl rfl (wo_ct rfl rfl rfl rfl rfl rfl rfl cf82 S1 (Open_t d (hdcrs.mono S1.un_XH) S1.lend) ?_))))))))))
 intro vw2 w2 M1 hle1 S2 hRw2; clear S1
 replace hdcrs := hdcrs.mono (Hp.un_mono hle1 S2.mx)
 rcases hRw2 with ⟨hopn12, rfl⟩ | ⟨hopn12, g1, cA12, iA12, oA12, cc12, ic12, oc12, rfl, hsb12, hsc12, hsi12, hso12⟩
 ·refine wlm 2 3 rfl rfl rfl rfl rfl rfl rfl (wlo 3 4 rfl rfl rfl (wo_run rfl rfl (run_extract rfl rfl rfl) (wlo 4 5 rfl rfl rfl (wo_run rfl rfl (run_extract rfl rfl rfl) (wla 5 6 rfl rfl rfl rfl rfl rfl rfl (wla 6 7 rfl rfl rfl rfl rfl rfl rfl (wl_end rfl (nmk [1, 2, 8, 9] rfl (nm_thn (ws_seqN HOpen0_n5 HOpen0_n6 rfl rfl rfl ?_))))))))))
  refine ws_blockN HOpen0_n7 0 rfl rfl rfl (ws_seqN HOpen0_n8 HOpen0_n9 rfl rfl rfl (ws_region rfl (wlm 0 1 rfl rfl rfl rfl rfl rfl rfl (wlo 1 2 rfl rfl rfl (wo_run rfl rfl (run_neq rfl rfl rfl) (wla 2 3 rfl rfl rfl rfl rfl rfl rfl (wl_end rfl (nmk [1, 2, 8, 9, 15] rfl (nm_thn ?_)))))))))
  refine ws_condN HOpen0_n10 HOpen0_n11 rfl rfl rfl rfl (fun hb15 => ?_) (fun hb15 => ?_)
  ·replace hb15 := of_decide_eq_true hb15
   refine ws_seqN HOpen0_n12 HOpen0_n13 rfl rfl rfl (ws_region rfl (wlm 0 1 rfl rfl rfl rfl rfl rfl rfl (wla 1 2 rfl rfl rfl rfl rfl rfl rfl (wla 2 3 rfl rfl rfl rfl rfl rfl rfl (wl_end rfl (nmk [6, 7] rfl (nm_thn (ws_ret hC [_, _] rfl rfl ⟨rfl, rfl, trivial⟩ ?_))))))))
   refine ⟨_, rfl, _, hle1, (S2.pick [] [] (by decide) trivial), ?_⟩
   have e0 : errK d 8 = errO d := by unfold errK; rw [if_neg hopn12]
   exact .inl ⟨by rw [e0]; exact hopn12, by rw [e0]; rfl⟩
  ·replace hb15 := of_decide_eq_false hb15
   exfalso; omega
 ·obtain ⟨hmo, hpl⟩ := errO_ok hopn12
  obtain ⟨hn, hab, hlo0, hlo1⟩ := mayO hmo
  refine wlm 2 3 rfl rfl rfl rfl rfl rfl rfl (wlo 3 4 rfl rfl rfl (wo_run rfl rfl (run_extract rfl rfl rfl) (wlo 4 5 rfl rfl rfl (wo_run rfl rfl (run_extract rfl rfl rfl) (wla 5 6 rfl rfl rfl rfl rfl rfl rfl (wla 6 7 rfl rfl rfl rfl rfl rfl rfl (wl_end rfl (nmk [1, 2, 8, 9] rfl (nm_thn (ws_seqN HOpen0_n5 HOpen0_n6 rfl rfl rfl ?_))))))))))
  refine ws_blockN HOpen0_n7 0 rfl rfl rfl (ws_seqN HOpen0_n8 HOpen0_n9 rfl rfl rfl (ws_region rfl (wlm 0 1 rfl rfl rfl rfl rfl rfl rfl (wlo 1 2 rfl rfl rfl (wo_run rfl rfl (run_neq rfl rfl rfl) (wla 2 3 rfl rfl rfl rfl rfl rfl rfl (wl_end rfl (nmk [1, 2, 8, 9, 15] rfl (nm_thn ?_)))))))))
  refine ws_condN HOpen0_n10 HOpen0_n11 rfl rfl rfl rfl (fun hb15 => ?_) (fun hb15 => ?_)
  ·replace hb15 := of_decide_eq_true hb15
   exfalso; omega
  ·replace hb15 := of_decide_eq_false hb15
   refine ws_seqN HOpen0_n14 HOpen0_n15 rfl rfl rfl (ws_region rfl (wlm 0 1 rfl rfl rfl rfl rfl rfl rfl (wlm 1 2 rfl rfl rfl rfl rfl rfl rfl (wln 2 3 rfl rfl rfl rfl rfl rfl rfl rfl rfl (wln 3 4 rfl rfl rfl rfl rfl rfl rfl rfl rfl (wln 4 5 rfl rfl rfl rfl rfl rfl rfl rfl rfl (wln 5 6 rfl rfl rfl rfl rfl rfl rfl rfl rfl (wln 6 7 rfl rfl rfl rfl rfl rfl rfl rfl rfl ?_))))))))
   refine wln 7 8 rfl rfl rfl rfl rfl rfl rfl rfl rfl (wln 8 9 rfl rfl rfl rfl rfl rfl rfl rfl rfl (wln 9 10 rfl rfl rfl rfl rfl rfl rfl rfl rfl (wln 10 11 rfl rfl rfl rfl rfl rfl rfl rfl rfl (wln 11 12 rfl rfl rfl rfl rfl rfl rfl rfl rfl (wln 12 13 rfl rfl rfl rfl rfl rfl rfl rfl rfl (wln 13 14 rfl rfl rfl rfl rfl rfl rfl rfl rfl (wlo 14 15 rfl rfl rfl (wo_run rfl rfl (run_pickF rfl rfl rfl) (wla 15 16 rfl rfl rfl rfl rfl rfl rfl ?_)))))))))
   refine wl_end rfl (nmk [8, 19] rfl (nm_thn (ws_condFN HOpen0_n17 rfl rfl rfl (ws_seqN HOpen0_n18 HOpen0_n19 rfl rfl rfl (ws_region rfl (wlm 0 1 rfl rfl rfl rfl rfl rfl rfl (wlo 1 2 rfl rfl rfl (wo_run rfl rfl (run_nilCheck rfl rfl) (wlo 2 3 rfl rfl rfl (wo_run rfl rfl (run_fieldAddr rfl rfl Tryz.underlying70 rfl (ce24) (nf24)) ?_))))))))))
   refine wlo 3 4 rfl rfl rfl (wo_run rfl rfl (run_fieldAddr rfl rfl Tryz.underlying24 rfl (ce22) (nf22)) (wlo 4 5 rfl rfl rfl (wo_run rfl rfl (run_load1 rfl rfl Tryz.underlying22 rfl (hsb12.cell S2.m rfl)) (wlo 5 6 rfl rfl rfl (wo_run rfl rfl (run_len rfl rfl rfl rfl rfl rfl Tryz.underlying22) (wlo 6 7 rfl rfl rfl (wo_run rfl rfl (run_gtr rfl rfl rfl) (wla 7 8 rfl rfl rfl rfl rfl rfl rfl (wl_end rfl (nmk [8, 35] rfl (nm_thn ?_)))))))))))
   refine ws_condN HOpen0_n20 HOpen0_n21 rfl rfl rfl rfl (fun hb35 => ?_) (fun hb35 => ?_)
   ·replace hb35 := of_decide_eq_true hb35
    refine ws_seqN HOpen0_n22 HOpen0_n23 rfl rfl rfl (ws_region rfl (wla 0 1 rfl rfl rfl rfl rfl rfl rfl (wla 1 2 rfl rfl rfl rfl rfl rfl rfl (wl_end rfl (nmk [6, 7] rfl (nm_thn (ws_ret hC [_, _] rfl rfl ⟨rfl, rfl, trivial⟩ ?_)))))))
    refine ⟨_, rfl, _, hle1, (S2.pick [] [] (by decide) trivial), ?_⟩
    have e0 : errK d 8 = 2 := by unfold errK; rw [if_pos hopn12, if_pos (by omega)]
    exact .inl ⟨by rw [e0]; decide, by rw [e0]; rfl⟩
   ·replace hb35 := of_decide_eq_false hb35
    refine ws_skip rfl (nm_blk (nmk [8] rfl (nm_thn (ws_seqN HOpen0_n24 HOpen0_n25 rfl rfl rfl (ws_region rfl (wlm 0 1 rfl rfl rfl rfl rfl rfl rfl (wla 1 2 rfl rfl rfl rfl rfl rfl rfl (wla 2 3 rfl rfl rfl rfl rfl rfl rfl ?_))))))))
    refine wl_end rfl (nmk [6, 7] rfl (nm_thn (ws_ret hC [_, _] rfl rfl ⟨rfl, rfl, trivial⟩ ?_)))
    refine ⟨_, rfl, _, hle1, (S2.pick [] [] (by decide) trivial), ?_⟩
    have e0 : errK d 8 = 0 := by unfold errK; rw [if_pos hopn12, if_neg (by omega)]
    exact .inr ⟨e0, _, _, _, _, _, _, _, rfl, hsb12, hsc12, hsi12, hso12⟩
noncomputable def SortedF_n0 : Code := Tryz.f44.body.getD .skip
noncomputable def SortedF_n1 : Code := cL SortedF_n0
noncomputable def SortedF_n2 : Code := cR SortedF_n0
noncomputable def SortedF_n3 : Code := cL SortedF_n2
noncomputable def SortedF_n4 : Code := cR SortedF_n2
noncomputable def SortedF_n5 : Code := cL SortedF_n4
noncomputable def SortedF_n6 : Code := cR SortedF_n4
noncomputable def SortedF_n7 : Code := cL SortedF_n6
noncomputable def SortedF_n8 : Code := cR SortedF_n6
set_option maxRecDepth 10000 in
theorem SortedF_o {w : World} {M : Hp} {X : Fr} {es : List (Pw × Int)} {gm b : Nat} (hm : MpOk (fun x => Value.agg (cdPw.f x).toArray) (Value.int .i64) gm es M) (hbx : BxM M b 85 [.map (some gm)]) (hks : (es.map Prod.fst).length ≤ 2199023255553) (hb : ∀ q ∈ es, PB 400 q.1) (S : SH w M X []) : Co Tryz.prog 44 [.func (.func 92) #[] [.pointer (some ⟨b, 0, none⟩)].toArray, .func (.func 46) #[] #[]] w M X (fun u N => ∃ ls : List PwB, (ls.map Subtype.val).Perm (es.map Prod.fst) ∧ N = [Rs.row cdPw u ((srtP ls).map Subtype.val)]) := by
 unfold Co
 refine calls_in (b := SortedF_n0) Tryz.func44 rfl Tryz.ntmps44 rfl (fun C hC => (ws_sub [(0, _), (1, _)] ⟨rfl, rfl, trivial⟩ (ws_seqN SortedF_n1 SortedF_n2 rfl rfl rfl (ws_region rfl (wla 0 1 rfl rfl rfl rfl rfl rfl rfl (wl_end rfl (nmk [0, 1] rfl (nm_thn (ws_seqN SortedF_n3 SortedF_n4 rfl rfl rfl ?_)))))))))
 refine ws_region rfl (wlm 0 1 rfl rfl rfl rfl rfl rfl rfl (wlo 1 2 rfl rfl rfl (wo_co rfl rfl rfl rfl rfl rfl rfl cf90 S (CollectP_o hm hbx hks S.lend) ?_)))
 intro vw1 w1 Nw1 S1 hRw1; clear S
 obtain ⟨ksw1, hksw1, rfl⟩ := hRw1
 change SH _ _ _ [_] at S1
 refine wla 2 3 rfl rfl rfl rfl rfl rfl rfl (wl_end rfl (nmk [1, 5] rfl (nm_thn (ws_seqN SortedF_n5 SortedF_n6 rfl rfl rfl ?_))))
 obtain ⟨ls, hls⟩ := lift_ks (ks := ksw1) (fun k hk => by obtain ⟨q, hq, rfl⟩ := List.mem_map.1 (hksw1.mem_iff.1 hk); exact hb q hq)
 have hll : ls.length = ksw1.length := by rw [← hls, List.length_map]
 have hlk := hksw1.length_eq
 have hrc1 : ksw1 = ls.map Subtype.val := hls.symm
 rw [hrc1] at S1; clear hrc1
 refine ws_region rfl (wlm 0 1 rfl rfl rfl rfl rfl rfl rfl (wlm 1 2 rfl rfl rfl rfl rfl rfl rfl (wlo 2 3 rfl rfl rfl (wo_c1 rfl rfl rfl rfl rfl rfl rfl cf91 S1 (i := 0) rfl (sortF_w (xs := ls) (by omega) (S1.lend1 (i := 0) rfl)) ?_))))
 rintro vw2 w2 _ _ - S2 ⟨rfl, rfl, rfl⟩; clear S1
 change SH _ _ _ [_] at S2
 refine wl_end rfl (nmk [5] rfl (nm_thn (ws_seqN SortedF_n7 SortedF_n8 rfl rfl rfl (ws_region rfl (wlm 0 1 rfl rfl rfl rfl rfl rfl rfl (wla 1 2 rfl rfl rfl rfl rfl rfl rfl (wl_end rfl (nmk [4] rfl ?_))))))))
 refine nm_thn (ws_ret hC [_] rfl rfl ⟨rfl, trivial⟩ ?_)
 exact ⟨_, rfl, _, S2.pick [0] [_] (by decide) ⟨rfl, trivial⟩, ls, by rw [hls]; exact hksw1, rfl⟩
noncomputable def HomflyP_n0 : Code := Tryz.f16.body.getD .skip
noncomputable def HomflyP_n1 : Code := cL HomflyP_n0
noncomputable def HomflyP_n2 : Code := cR HomflyP_n0
noncomputable def HomflyP_n3 : Code := cL HomflyP_n2
noncomputable def HomflyP_n4 : Code := cR HomflyP_n2
noncomputable def HomflyP_n5 : Code := cL HomflyP_n4
noncomputable def HomflyP_n6 : Code := cR HomflyP_n4
noncomputable def HomflyP_n7 : Code := cL HomflyP_n5
noncomputable def HomflyP_n8 : Code := cR HomflyP_n5
noncomputable def HomflyP_n9 : Code := cL HomflyP_n8
noncomputable def HomflyP_n10 : Code := cR HomflyP_n8
noncomputable def HomflyP_n11 : Code := cL HomflyP_n9
noncomputable def HomflyP_n12 : Code := cR HomflyP_n9
noncomputable def HomflyP_n13 : Code := cL HomflyP_n6
noncomputable def HomflyP_n14 : Code := cR HomflyP_n6
noncomputable def HomflyP_n15 : Code := cL HomflyP_n14
noncomputable def HomflyP_n16 : Code := cR HomflyP_n14
noncomputable def HomflyP_n17 : Code := cL HomflyP_n16
noncomputable def HomflyP_n18 : Code := cR HomflyP_n16
noncomputable def HomflyP_n19 : Code := cL HomflyP_n17
noncomputable def HomflyP_n20 : Code := cR HomflyP_n17
noncomputable def HomflyP_n21 : Code := cL HomflyP_n20
noncomputable def HomflyP_n22 : Code := cL HomflyP_n21
noncomputable def HomflyP_n23 : Code := cL HomflyP_n22
noncomputable def HomflyP_n24 : Code := cR HomflyP_n22
noncomputable def HomflyP_n25 : Code := cL HomflyP_n24
noncomputable def HomflyP_n26 : Code := cR HomflyP_n24
noncomputable def HomflyP_n27 : Code := cL HomflyP_n25
noncomputable def HomflyP_n28 : Code := cR HomflyP_n25
noncomputable def HomflyP_n29 : Code := cL HomflyP_n26
noncomputable def HomflyP_n30 : Code := cR HomflyP_n26
noncomputable def HomflyP_n31 : Code := cL HomflyP_n29
noncomputable def HomflyP_n32 : Code := cL HomflyP_n31
noncomputable def HomflyP_n33 : Code := cR HomflyP_n31
noncomputable def HomflyP_n34 : Code := cL HomflyP_n33
noncomputable def HomflyP_n35 : Code := cR HomflyP_n33
noncomputable def HomflyP_n36 : Code := cL HomflyP_n35
noncomputable def HomflyP_n37 : Code := cR HomflyP_n35
noncomputable def HomflyP_n38 : Code := cL HomflyP_n18
noncomputable def HomflyP_n39 : Code := cR HomflyP_n18
set_option maxHeartbeats 1000000 in
set_option maxRecDepth 10000 in
theorem HomflyP_t {w : World} {M : Hp} {X : Fr} (d : Dg) {dcrsA : Option Addr} {dcrsc : Nat} (hdcrs : RdA cdCr (M.un X.h) dcrsA dcrsc d.crs) (S : SH w M X []) : Ct Tryz.prog 16 [.agg [.slice dcrsA d.crs.length dcrsc, .int .i64 d.loops].toArray] w M X (HfR d) := by
 unfold Ct
 have rmhdcrs : d.crs.length * 40 ≤ 140737488355328 := hdcrs.room
 refine calls_in (b := HomflyP_n0) Tryz.func16 rfl Tryz.ntmps16 rfl (fun C hC => (ws_sub [(0, _)] ⟨rfl, trivial⟩ (ws_seqN HomflyP_n1 HomflyP_n2 rfl rfl rfl (ws_region rfl (wlo 0 1 rfl rfl rfl (wo_box (l := [_, _]) rfl rfl rfl rfl rfl S ?_))))))
 intro gb1 w1 S1; clear S
 refine wla 1 2 rfl rfl rfl rfl rfl rfl rfl (wla 2 3 rfl rfl rfl rfl rfl rfl rfl (wl_end rfl (nmk [1] rfl (nm_thn (ws_seqN HomflyP_n3 HomflyP_n4 rfl rfl rfl (ws_region rfl (wlo 0 1 rfl rfl rfl (wo_run rfl rfl (run_loadN (us := [_, _]) rfl rfl Tryz.underlying24 rfl sz24 (S1.boxcs (i := 0) rfl ⟨rfl, rfl, trivial⟩)) (wlo 1 2 rfl rfl rfl (wo_ct rfl rfl rfl rfl rfl rfl rfl cf42 S1 (HOpen0_t d 0 (hdcrs.mono S1.un_XH) S1.lend) ?_))))))))))
 intro vw2 w2 M1 hle1 S2 hRw2; clear S1
 replace hdcrs := hdcrs.mono (Hp.un_mono hle1 S2.mx)
 rcases hRw2 with ⟨herr12, rfl⟩ | ⟨herr12, g1, cA12, iA12, oA12, cc12, ic12, oc12, rfl, hsb12, hsc12, hsi12, hso12⟩
 ·refine wlm 2 3 rfl rfl rfl rfl rfl rfl rfl (wlo 3 4 rfl rfl rfl (wo_run rfl rfl (run_extract rfl rfl rfl) (wlo 4 5 rfl rfl rfl (wo_run rfl rfl (run_extract rfl rfl rfl) (wla 5 6 rfl rfl rfl rfl rfl rfl rfl (wla 6 7 rfl rfl rfl rfl rfl rfl rfl (wl_end rfl (nmk [4, 5] rfl (nm_thn (ws_seqN HomflyP_n5 HomflyP_n6 rfl rfl rfl ?_))))))))))
  refine ws_seqN HomflyP_n7 HomflyP_n8 rfl rfl rfl (ws_region rfl (wlm 0 1 rfl rfl rfl rfl rfl rfl rfl (wlo 1 2 rfl rfl rfl (wo_run rfl rfl (run_neq rfl rfl rfl) (wl_end rfl (nmk [4, 5, 16] rfl (nm_thn ?_)))))))
  refine ws_condN HomflyP_n9 HomflyP_n10 rfl rfl rfl rfl (fun hb16 => ?_) (fun hb16 => ?_)
  ·replace hb16 := of_decide_eq_true hb16
   refine ws_seqN HomflyP_n11 HomflyP_n12 rfl rfl rfl (ws_region rfl (wlm 0 1 rfl rfl rfl rfl rfl rfl rfl (wla 1 2 rfl rfl rfl rfl rfl rfl rfl (wla 2 3 rfl rfl rfl rfl rfl rfl rfl (wl_end rfl (nmk [2, 3] rfl (nm_thn (ws_ret hC [_, _] rfl rfl ⟨rfl, rfl, trivial⟩ ?_))))))))
   refine ⟨_, rfl, _, hle1, (S2.pick [] [] (by decide) trivial), ?_⟩
   exact .inl ⟨herr12, rfl⟩
  ·replace hb16 := of_decide_eq_false hb16
   exfalso; omega
 ·have J := jd_of herr12
  have hmu := mu_le J
  obtain ⟨hlB, hlC⟩ := homL_spec (mu d + 1) d J (Nat.lt_succ_self _)
  refine wlm 2 3 rfl rfl rfl rfl rfl rfl rfl (wlo 3 4 rfl rfl rfl (wo_run rfl rfl (run_extract rfl rfl rfl) (wlo 4 5 rfl rfl rfl (wo_run rfl rfl (run_extract rfl rfl rfl) (wla 5 6 rfl rfl rfl rfl rfl rfl rfl (wla 6 7 rfl rfl rfl rfl rfl rfl rfl (wl_end rfl (nmk [4, 5] rfl (nm_thn (ws_seqN HomflyP_n5 HomflyP_n6 rfl rfl rfl ?_))))))))))
  refine ws_seqN HomflyP_n7 HomflyP_n8 rfl rfl rfl (ws_region rfl (wlm 0 1 rfl rfl rfl rfl rfl rfl rfl (wlo 1 2 rfl rfl rfl (wo_run rfl rfl (run_neq rfl rfl rfl) (wl_end rfl (nmk [4, 5, 16] rfl (nm_thn ?_)))))))
  refine ws_condN HomflyP_n9 HomflyP_n10 rfl rfl rfl rfl (fun hb16 => ?_) (fun hb16 => ?_)
  ·replace hb16 := of_decide_eq_true hb16
   exfalso; omega
  ·replace hb16 := of_decide_eq_false hb16
   refine ws_skip rfl (nmk [4] rfl (nm_thn (ws_seqN HomflyP_n13 HomflyP_n14 rfl rfl rfl (ws_region rfl (wlm 0 1 rfl rfl rfl rfl rfl rfl rfl (wlo 1 2 rfl rfl rfl (wo_run rfl rfl (run_nilCheck rfl rfl) (wlo 2 3 rfl rfl rfl (wo_run rfl rfl (run_fieldAddr rfl rfl Tryz.underlying70 rfl (ce24) (nf24)) (wlo 3 4 rfl rfl rfl (wo_run rfl rfl (run_loadN (us := [_, _]) rfl rfl Tryz.underlying24 rfl sz24 (hsb12.cells S2.m ⟨rfl, rfl, trivial⟩)) ?_)))))))))))
   refine wlo 4 5 rfl rfl rfl (wo_ct rfl rfl rfl rfl rfl rfl rfl cf43 S2 (of_t (mu d + 1) d (hsc12.mono (Hp.le_un _ _)) J (Nat.lt_succ_self _) S2.lend) ?_)
   intro vw3 w3 M2 hle2 S3 hRw3; clear S2
   replace hdcrs := hdcrs.mono (Hp.un_mono hle2 S3.mx)
   replace hsb12 := hsb12.mono hle2
   replace hsc12 := hsc12.mono hle2
   replace hsi12 := hsi12.mono hle2
   replace hso12 := hso12.mono hle2
   obtain ⟨g2, es22, rfl, hm1, he22, hc22⟩ := hRw3
   have hek22 : (es22.map Prod.fst).length ≤ 2199023255553 := (he22.mono (show bP d ≤ 400 by unfold bP; omega)).klen
   have heb22 : ∀ q ∈ es22, PB 400 q.1 := fun q hq => ((he22.2 q hq).1).mono (by unfold bP; omega)
   refine wla 5 6 rfl rfl rfl rfl rfl rfl rfl (wl_end rfl (nmk [6] rfl (nm_thn (ws_seqN HomflyP_n15 HomflyP_n16 rfl rfl rfl (ws_region rfl (wla 0 1 rfl rfl rfl rfl rfl rfl rfl (wl_end rfl (nm_thn ?_))))))))
   refine ws_seqN HomflyP_n17 HomflyP_n18 rfl rfl rfl (ws_seqN HomflyP_n19 HomflyP_n20 rfl rfl rfl (ws_region rfl (wlm 0 1 rfl rfl rfl rfl rfl rfl rfl (wlo 1 2 rfl rfl rfl (wo_ct rfl rfl rfl rfl rfl rfl rfl cf45 S3 (KeysP_t es22 hm1 S3.lend) ?_)))))
   intro vw4 w4 M3 hle3 S4 hRw4; clear S3
   replace hdcrs := hdcrs.mono (Hp.un_mono hle3 S4.mx)
   replace hsb12 := hsb12.mono hle3
   replace hsc12 := hsc12.mono hle3
   replace hsi12 := hsi12.mono hle3
   replace hso12 := hso12.mono hle3
   replace hm1 := hm1.mono hle3
   obtain ⟨bk1, rfl, hbx1⟩ := hRw4
   refine wlo 2 3 rfl rfl rfl (wo_co rfl rfl rfl rfl rfl rfl rfl cf44 S4 (SortedF_o hm1 hbx1 hek22 heb22 S4.lend) ?_)
   intro vw5 w5 Nw5 S5 hRw5; clear S4
   obtain ⟨ksw5, hksw5, rfl⟩ := hRw5
   change SH _ _ _ [_, _] at S5
   refine wlo 3 4 rfl rfl rfl (wo_run rfl rfl (run_lenR (C := cdPw) (i := 0) rfl rfl rfl rfl rfl rfl sl87 S5 rfl) ?_)
   have hsl9 : ((srtP ksw5).map Subtype.val).length ≤ 2199023255553 := srtP_len hksw5 hek22
   refine wlm 4 5 rfl rfl rfl rfl rfl rfl rfl (wl_end rfl (nmk [6, 7, 25, 26, 27] rfl (nm_thn (ws_blockN HomflyP_n21 0 rfl rfl rfl ?_))))
   have S6 := S5.nilrow cdT2; clear S5
   refine ws_loopE (fun mx_ ax_ wx_ => ∃ (i : Nat) (acc : List T2) (vro : Value), mx_ = ((srtP ksw5).map Subtype.val).length - i ∧ Env 48 [(6, .map (some g2)), (7, vro), (25, vw5), (26, .int .i64 (((srtP ksw5).map Subtype.val).length : Int)), (27, .int .i64 (i : Int))] ax_ ∧ SH wx_ M3 X [Rs.row cdT2 vro acc, Rs.row cdPw vw5 ((srtP ksw5).map Subtype.val)] ∧ i ≤ ((srtP ksw5).map Subtype.val).length ∧ acc = fmP es22 (((srtP ksw5).map Subtype.val).take i)) rfl ?_ ?_
   ·intro ax_ hax_
    refine ⟨_, ⟨0, [], _, rfl, hax_.sub ⟨rfl, rfl, rfl, rfl, rfl, trivial⟩, S6.pick [0, 1] [_, _] (by decide) ⟨rfl, rfl, trivial⟩, ?hq1f0, ?hq1f1⟩⟩
    case hq1f0 => omega
    case hq1f1 => rfl
   ·rintro m1 a1 w6 ⟨i, acc, vro, rfl, he1, S7, hi, hac⟩
    clear S6
    refine ws_in he1 (c := HomflyP_n22) rfl ?_
    clear he1 a1
    have hal : acc.length ≤ i := by rw [hac]; exact Nat.le_trans (fmP_len _ _) (by rw [List.length_take]; omega)
    refine ws_seqN HomflyP_n23 HomflyP_n24 rfl rfl rfl (ws_region rfl (wlo 0 1 rfl rfl rfl (wo_run rfl rfl (run_lss rfl rfl rfl) (wl_end rfl (nm_thn (ws_seqN HomflyP_n25 HomflyP_n26 rfl rfl rfl ?_))))))
    refine ws_condN HomflyP_n27 HomflyP_n28 rfl rfl rfl rfl (fun hb28 => ?_) (fun hb28 => ?_)
    ·replace hb28 := of_decide_eq_true hb28
     refine ws_skip rfl (nmk [6, 7, 25, 26, 27] rfl (nm_thn (ws_seqN HomflyP_n29 HomflyP_n30 rfl rfl rfl (ws_blockN HomflyP_n31 1 rfl rfl rfl (ws_seqN HomflyP_n32 HomflyP_n33 rfl rfl rfl (ws_region rfl (wlo 0 1 rfl rfl rfl (wo_run rfl rfl (run_indexR (C := cdPw) (i := 1) i rfl rfl rfl sl87 S7 rfl (by first | rfl | omega) (by first | omega | (simp only [lens]; omega))) ?_))))))))
     refine wlo 1 2 rfl rfl rfl (wo_run rfl rfl (run_loadN (us := [_, _]) rfl rfl Tryz.underlying90 rfl sz90 (S7.rowcs (i := 1) (e := i) (j := 0) rfl (by first | omega | (simp only [lens]; omega)) ⟨rfl, rfl, trivial⟩)) ?_)
     refine wlo 2 3 rfl rfl rfl (wo_alloc (l := [_, _]) rfl rfl rfl zr90 rfl S7 ?_)
     intro gb2 w7 S8; clear S7
     refine wlo 3 4 rfl rfl rfl (wo_storeB (i := 0) (us := [_, _]) (l' := [_, _]) (H' := [_, _, _]) rfl rfl S8 rfl rfl rfl rfl sz90 rfl rfl rfl rfl ?_)
     intro w8 S9; clear S8
     refine wl_end rfl (nmk [6, 7, 25, 26, 27, 9] rfl (nm_thn (ws_seqN HomflyP_n34 HomflyP_n35 rfl rfl rfl (ws_region rfl (wlm 0 1 rfl rfl rfl rfl rfl rfl rfl (wlo 1 2 rfl rfl rfl (wo_run rfl rfl (run_loadN (us := [_, _]) rfl rfl Tryz.underlying90 rfl sz90 (S9.boxcs (i := 0) rfl ⟨rfl, rfl, trivial⟩)) (wlo 2 3 rfl rfl rfl (wo_run rfl rfl (run_lookupM (kc := (fun x => Value.agg (cdPw.f x).toArray)) (vc := (Value.int .i64)) (es := es22) (k := (ga ((srtP ksw5).map Subtype.val) i)) (zv := 0) rfl rfl rfl Tryz.underlying85 mk90 zr3 hm1 S9.m) (wlo 3 4 rfl rfl rfl (wo_run rfl rfl (run_neq rfl rfl rfl) ?_)))))))))))
     refine wl_end rfl (nmk [6, 7, 25, 26, 27, 9, 34] rfl (nm_thn ?_))
     refine ws_condN HomflyP_n36 HomflyP_n37 rfl rfl rfl rfl (fun hb34 => ?_) (fun hb34 => ?_)
     ·replace hb34 := of_decide_eq_true hb34
      refine ws_draw rfl (by kernel_rfl) S9 12 rfl ?_
      clear S9
      refine wap 0 11 rfl (by kernel_rfl) rfl rfl rfl (fun w9 => run_move rfl rfl) ?_
      refine wap 1 10 rfl (by kernel_rfl) rfl rfl rfl (fun w10 => run_fieldAddr rfl rfl Tryz.underlying90 rfl (ce3) (nf3)) ?_
      refine wat 2 9 rfl (by kernel_rfl) rfl rfl rfl (fun M6 N3 w11 hle7 S12 => .inl (run_load1 rfl rfl Tryz.underlying3 rfl (S12.suf.boxc (i := 0) rfl rfl))) ?_
      refine wap 3 8 rfl (by kernel_rfl) rfl rfl rfl (fun w12 => run_fieldAddr rfl rfl Tryz.underlying90 rfl (ce3) (nf3)) ?_
      refine wat 4 7 rfl (by kernel_rfl) rfl rfl rfl (fun M8 N5 w13 hle9 S14 => .inl (run_load1 rfl rfl Tryz.underlying3 rfl (S14.suf.boxc (i := 0) rfl rfl))) ?_
      refine wap 5 6 rfl (by kernel_rfl) rfl rfl rfl (fun w14 => run_move rfl rfl) ?_
      refine wat 6 5 rfl (by kernel_rfl) rfl rfl rfl (fun M10 N7 w15 hle11 S16 => .inl (run_loadN (us := [_, _]) rfl rfl Tryz.underlying90 rfl sz90 (S16.suf.boxcs (i := 0) rfl ⟨rfl, rfl, trivial⟩))) ?_
      refine wat 7 4 rfl (by kernel_rfl) rfl rfl rfl (fun M11 N8 w16 hle12 S17 => .inl (run_lookupM (kc := (fun x => Value.agg (cdPw.f x).toArray)) (vc := (Value.int .i64)) (es := es22) (k := (ga ((srtP ksw5).map Subtype.val) i)) (zv := 0) rfl rfl rfl Tryz.underlying85 mk90 zr3 (hm1.mono hle12) S17.m)) ?_
      refine wat 8 3 rfl (by kernel_rfl) rfl rfl rfl (fun M12 N9 w17 hle13 S18 => .inl (run_build (l := [_, _, _]) rfl rfl st97 rfl rfl)) ?_
      refine wa_only (i := 9) 2 rfl (by kernel_rfl) rfl rfl (fun w19 S20 => ?_)
      refine (wo_buildSlice1 (C := cdT2) (l := [_, _, _]) rfl rfl rfl rfl sl42 rfl rfl rfl rfl S20 ?_)
      intro gb3 w20 S21; clear S20
      refine LeftW.grow [_] (Hp.le_refl _) S21 ?_; clear S21
      change WA _ _ _ _ _ _ _ _ _ _ _ _ [_, _, _, _]
      refine wa_only (i := 10) 1 rfl (by kernel_rfl) rfl rfl (fun w22 S23 => ?_)
      refine (wo_append1 (C := cdT2) (i := 2) (q := 0) (⟨(ga ((srtP ksw5).map Subtype.val) i).x, (ga ((srtP ksw5).map Subtype.val) i).z, (mg (ga ((srtP ksw5).map Subtype.val) i) es22).getD 0⟩ : T2) rfl rfl rfl rfl rfl rfl rfl rfl sl42 S23 rfl rfl rfl (by show (_ + 1) * 24 ≤ _; omega) ?_)
      intro vro1 w23 S24; clear S23
      have S25 := S24.pick [1, 2, 3] [_, _, _] (by decide) ⟨rfl, rfl, rfl, trivial⟩; clear S24
      refine LeftW.turn (by kernel_rfl) S25 ?_; clear S25
      change WA _ _ _ _ _ _ _ _ _ _ _ _ [_, _, _]
      refine wap 11 0 rfl (by kernel_rfl) rfl rfl rfl (fun w24 => run_assign rfl rfl) ?_
      refine wa_end (by kernel_rfl) (fun w25 S27 => ?_)
      refine nm_blk (nmk [6, 7, 25, 26, 27] rfl (nm_thn (ws_region rfl (wlo 0 1 rfl rfl rfl (wo_run rfl rfl (run_add rfl rfl rfl (by first | omega | (simp only [lens]; omega))) ?_)))))
      have hsl9 : ((srtP ksw5).map Subtype.val).length ≤ 2199023255553 := srtP_len hksw5 hek22
      refine wlm 1 2 rfl rfl rfl rfl rfl rfl rfl (wl_end rfl (nm_lp ?_))
      intro ax_ hax_
      refine ⟨_, ?hq2m, ⟨i + 1, acc ++ [(⟨(ga ((srtP ksw5).map Subtype.val) i).x, (ga ((srtP ksw5).map Subtype.val) i).z, (mg (ga ((srtP ksw5).map Subtype.val) i) es22).getD 0⟩ : T2)], _, rfl, hax_.sub ⟨rfl, rfl, rfl, rfl, rfl, trivial⟩, S27.pick [1, 2] [_, _] (by decide) ⟨rfl, rfl, trivial⟩, ?hq2f0, ?hq2f1⟩⟩
      case hq2f0 => omega
      case hq2f1 => (rw [take_ga _ i (by omega), fmP_snoc, ← hac]; first | (rw [if_neg (by assumption)]) | (rw [if_pos (by omega), List.append_nil]))
      case hq2m => omega
     ·replace hb34 := of_decide_eq_false hb34
      refine ws_skip rfl (nm_blk (nmk [6, 7, 25, 26, 27] rfl (nm_thn (ws_region rfl (wlo 0 1 rfl rfl rfl (wo_run rfl rfl (run_add rfl rfl rfl (by first | omega | (simp only [lens]; omega))) ?_))))))
      have hsl9 : ((srtP ksw5).map Subtype.val).length ≤ 2199023255553 := srtP_len hksw5 hek22
      refine wlm 1 2 rfl rfl rfl rfl rfl rfl rfl (wl_end rfl (nm_lp ?_))
      intro ax_ hax_
      refine ⟨_, ?hq3m, ⟨i + 1, acc, _, rfl, hax_.sub ⟨rfl, rfl, rfl, rfl, rfl, trivial⟩, S9.pick [1, 2] [_, _] (by decide) ⟨rfl, rfl, trivial⟩, ?hq3f0, ?hq3f1⟩⟩
      case hq3f0 => omega
      case hq3f1 => (rw [take_ga _ i (by omega), fmP_snoc, ← hac]; first | (rw [if_neg (by assumption)]) | (rw [if_pos (by omega), List.append_nil]))
      case hq3m => omega
    ·replace hb28 := of_decide_eq_false hb28
     refine ws_exit rfl rfl (nmk [7] rfl (nm_thn (ws_seqN HomflyP_n38 HomflyP_n39 rfl rfl rfl (ws_region rfl (wlm 0 1 rfl rfl rfl rfl rfl rfl rfl (wla 1 2 rfl rfl rfl rfl rfl rfl rfl (wla 2 3 rfl rfl rfl rfl rfl rfl rfl (wl_end rfl ?_))))))))
     refine nmk [2, 3] rfl (nm_thn ?_)
     have hal : acc.length ≤ 2199023255553 := by rw [hac]; exact Nat.le_trans (fmP_len _ _) (by rw [List.length_take]; omega)
     obtain ⟨M16, hle17, S28, ⟨A1, c1, e1, hr1⟩⟩ := S7.pubrow (i := 0) (H' := [_, _]) rfl rfl (by show _ * 24 ≤ _; first | omega | (simp only [lens]; omega))
     clear S7; subst e1
     replace hdcrs := hdcrs.mono (Hp.un_mono hle17 S28.mx)
     replace hsb12 := hsb12.mono hle17
     replace hsc12 := hsc12.mono hle17
     replace hsi12 := hsi12.mono hle17
     replace hso12 := hso12.mono hle17
     replace hm1 := hm1.mono hle17
     replace hbx1 := hbx1.mono hle17
     refine ws_ret hC [_, _] rfl rfl ⟨rfl, rfl, trivial⟩ ?_
     refine ⟨_, rfl, _, ((hle1.trans hle2).trans hle3).trans hle17, (S28.pick [] [] (by decide) trivial), ?_⟩
     have hout := out_eq (B := 400) (Nat.le_refl _) (he22.mono (by unfold bP; omega)) hksw5 hlC (hlB.mono (by unfold bE; omega)) hc22
     obtain rfl : i = ((srtP ksw5).map Subtype.val).length := by omega
     rw [List.take_length, hout] at hac
     subst hac
     exact .inr ⟨herr12, _, _, rfl, hr1⟩
end Go.Proofs.YthppkofceancjaaGreat
namespace Go.Proofs.YthppkofceancjaaGreat
open Go.ChangeShapes Go.WideShapes Go.ChangeAt Go.RowKit
theorem cz_step {ws es dn : List (Int × Int)} {k v : Int} {S : Pol} (h : mk ws = S) : mk (mp k (wr ((mg k ws).getD 0 + v)) ws) = S + mono k v := by rw [mk_mp_add, h]
def CwR (d : Dg) (u : Value) (N : Hp) : Prop :=
 (errK d 8 ≠ 0 ∧ u = .tuple [.slice none 0 0, .int .i64 (errK d 8)].toArray) ∨
 (errK d 8 = 0 ∧ ∃ A c l, u = .tuple [.slice A l.length c, .int .i64 0].toArray ∧ RdA cdTm N A c l ∧ Can l ∧ Bd l 400 ∧ mk (pr l) = czL (homL (mu d + 1) d))
noncomputable def ConwayOf_n0 : Code := Tryz.f22.body.getD .skip
noncomputable def ConwayOf_n1 : Code := cL ConwayOf_n0
noncomputable def ConwayOf_n2 : Code := cR ConwayOf_n0
noncomputable def ConwayOf_n3 : Code := cL ConwayOf_n2
noncomputable def ConwayOf_n4 : Code := cR ConwayOf_n2
noncomputable def ConwayOf_n5 : Code := cL ConwayOf_n4
noncomputable def ConwayOf_n6 : Code := cR ConwayOf_n4
noncomputable def ConwayOf_n7 : Code := cL ConwayOf_n6
noncomputable def ConwayOf_n8 : Code := cR ConwayOf_n6
noncomputable def ConwayOf_n9 : Code := cL ConwayOf_n7
noncomputable def ConwayOf_n10 : Code := cR ConwayOf_n7
noncomputable def ConwayOf_n11 : Code := cL ConwayOf_n10
noncomputable def ConwayOf_n12 : Code := cL ConwayOf_n11
noncomputable def ConwayOf_n13 : Code := cL ConwayOf_n12
noncomputable def ConwayOf_n14 : Code := cR ConwayOf_n12
noncomputable def ConwayOf_n15 : Code := cL ConwayOf_n13
noncomputable def ConwayOf_n16 : Code := cR ConwayOf_n13
noncomputable def ConwayOf_n17 : Code := cL ConwayOf_n16
noncomputable def ConwayOf_n18 : Code := cR ConwayOf_n16
noncomputable def ConwayOf_n19 : Code := cL ConwayOf_n14
noncomputable def ConwayOf_n20 : Code := cR ConwayOf_n14
noncomputable def ConwayOf_n21 : Code := cL ConwayOf_n19
noncomputable def ConwayOf_n22 : Code := cL ConwayOf_n8
noncomputable def ConwayOf_n23 : Code := cR ConwayOf_n8
set_option maxRecDepth 10000 in
theorem ConwayOf_t {w : World} {M : Hp} {X : Fr} (d : Dg) {dcrsA : Option Addr} {dcrsc : Nat} (hdcrs : RdA cdCr (M.un X.h) dcrsA dcrsc d.crs) (J : Jd d) (S : SH w M X []) : Ct Tryz.prog 22 [.agg [.slice dcrsA d.crs.length dcrsc, .int .i64 d.loops].toArray] w M X (PT 400 (czL (homL (mu d + 1) d))) := by
 unfold Ct
 have rmhdcrs : d.crs.length * 40 ≤ 140737488355328 := hdcrs.room
 have hmu := mu_le J
 obtain ⟨hlB, hlC⟩ := homL_spec (mu d + 1) d J (Nat.lt_succ_self _)
 replace hlB : B2 400 (homL (mu d + 1) d) := hlB.mono (by unfold bE; omega)
 have hll := can2_len (B := 400) (Nat.le_refl _) hlC hlB
 refine calls_in (b := ConwayOf_n0) Tryz.func22 rfl Tryz.ntmps22 rfl (fun C hC => (ws_sub [(0, _)] ⟨rfl, trivial⟩ (ws_seqN ConwayOf_n1 ConwayOf_n2 rfl rfl rfl (ws_region rfl (wlo 0 1 rfl rfl rfl (wo_box (l := [_, _]) rfl rfl rfl rfl rfl S ?_))))))
 intro gb1 w1 S1; clear S
 refine wla 1 2 rfl rfl rfl rfl rfl rfl rfl (wl_end rfl (nmk [1] rfl (nm_thn (ws_seqN ConwayOf_n3 ConwayOf_n4 rfl rfl rfl (ws_region rfl (wlo 0 1 rfl rfl rfl (wo_run rfl rfl (run_loadN (us := [_, _]) rfl rfl Tryz.underlying24 rfl sz24 (S1.boxcs (i := 0) rfl ⟨rfl, rfl, trivial⟩)) (wlo 1 2 rfl rfl rfl (wo_ct rfl rfl rfl rfl rfl rfl rfl cf20 S1 (HomflyOf_all (mu d + 1) d (hdcrs.mono S1.un_XH) J (Nat.lt_succ_self _) S1.lend) ?_)))))))))
 intro vw2 w2 M1 hle1 S2 hRw2; clear S1
 replace hdcrs := hdcrs.mono (Hp.un_mono hle1 S2.mx)
 obtain ⟨A1, c1, rfl, hr1⟩ := hRw2
 refine wla 2 3 rfl rfl rfl rfl rfl rfl rfl (wl_end rfl (nmk [3] rfl (nm_thn (ws_seqN ConwayOf_n5 ConwayOf_n6 rfl rfl rfl (ws_region rfl (wla 0 1 rfl rfl rfl rfl rfl rfl rfl (wl_end rfl (nm_thn ?_))))))))
 refine ws_seqN ConwayOf_n7 ConwayOf_n8 rfl rfl rfl (ws_seqN ConwayOf_n9 ConwayOf_n10 rfl rfl rfl (ws_region rfl (wla 0 1 rfl rfl rfl rfl rfl rfl rfl (wl_end rfl (nm_thn (ws_blockN ConwayOf_n11 0 rfl rfl rfl ?_))))))
 refine ws_loopE (fun mx_ ax_ wx_ => ∃ (i : Nat) (acc : List Tm) (Ao : Option Addr) (co : Nat) (M2 : Hp), M1.le M2 ∧ mx_ = (homL (mu d + 1) d).length - i ∧ Env 27 [(3, .slice A1 (homL (mu d + 1) d).length c1), (4, .slice Ao acc.length co), (5, .int .i64 (i : Int))] ax_ ∧ SH wx_ M2 X [] ∧ RdA cdTm M2 Ao co acc ∧ i ≤ (homL (mu d + 1) d).length ∧ Can acc ∧ Bd acc 400 ∧ mk (pr acc) = czL ((homL (mu d + 1) d).take i)) rfl ?_ ?_
 ·intro ax_ hax_
  refine ⟨_, ⟨0, [], none, 0, _, Hp.le_refl _, rfl, hax_.sub ⟨rfl, rfl, rfl, trivial⟩, S2.pick [] [] (by decide) trivial, ?hq1f0, ?hq1f1, ?hq1f2, ?hq1f3, ?hq1f4⟩⟩
  case hq1f0 => exact RdA.nil_
  case hq1f1 => omega
  case hq1f2 => exact Can.nil_
  case hq1f3 => (intro t ht; simp at ht)
  case hq1f4 => rfl
 ·rintro m1 a1 w3 ⟨i, acc, Ao, co, M2, hle2, rfl, he1, S3, hacc, hi, hcc, hbc, hmc⟩
  clear S2
  refine ws_in he1 (c := ConwayOf_n12) rfl ?_
  clear he1 a1
  replace hdcrs := hdcrs.mono (Hp.un_mono hle2 S3.mx)
  replace hr1 := hr1.mono hle2
  refine ws_seqN ConwayOf_n13 ConwayOf_n14 rfl rfl rfl (ws_seqN ConwayOf_n15 ConwayOf_n16 rfl rfl rfl (ws_region rfl (wlm 0 1 rfl rfl rfl rfl rfl rfl rfl (wlm 1 2 rfl rfl rfl rfl rfl rfl rfl (wlo 2 3 rfl rfl rfl (wo_run rfl rfl (run_len rfl rfl rfl rfl rfl rfl Tryz.underlying42) (wlo 3 4 rfl rfl rfl (wo_run rfl rfl (run_lss rfl rfl rfl) (wl_end rfl (nmk [3, 4, 5, 11] rfl ?_))))))))))
  refine nm_thn ?_
  refine ws_condN ConwayOf_n17 ConwayOf_n18 rfl rfl rfl rfl (fun hb11 => ?_) (fun hb11 => ?_)
  ·replace hb11 := of_decide_eq_true hb11
   refine ws_skip rfl (nmk [3, 4, 5] rfl (nm_thn (ws_seqN ConwayOf_n19 ConwayOf_n20 rfl rfl rfl (ws_blockN ConwayOf_n21 1 rfl rfl rfl (ws_draw rfl (by kernel_rfl) S3 13 rfl ?_)))))
   clear S3
   refine wap 0 12 rfl (by kernel_rfl) rfl rfl rfl (fun w4 => run_move rfl rfl) ?_
   refine wap 1 11 rfl (by kernel_rfl) rfl rfl rfl (fun w5 => run_move rfl rfl) ?_
   refine wap 2 10 rfl (by kernel_rfl) rfl rfl rfl (fun w6 => run_move rfl rfl) ?_
   refine wat 3 9 rfl (by kernel_rfl) rfl rfl rfl (fun M6 N4 w7 hle6 S7 => .inl (run_indexM (C := cdT2) i rfl rfl rfl sl42 (by first | rfl | omega) (hr1.mono hle6) (by first | omega | (simp only [lens]; omega)))) ?_
   refine wap 4 8 rfl (by kernel_rfl) rfl rfl rfl (fun w8 => run_fieldAddr rfl rfl Tryz.underlying97 rfl (ce3) (nf3)) ?_
   refine wat 5 7 rfl (by kernel_rfl) rfl rfl rfl (fun M8 N6 w9 hle8 S9 => .inl (run_load1 rfl rfl Tryz.underlying3 rfl ((hr1.mono hle8).cell S9.m (i := i) (by first | omega | (simp only [lens]; omega)) 1 rfl rfl))) ?_
   refine wap 6 6 rfl (by kernel_rfl) rfl rfl rfl (fun w10 => run_move rfl rfl) ?_
   refine wap 7 5 rfl (by kernel_rfl) rfl rfl rfl (fun w11 => run_move rfl rfl) ?_
   refine wat 8 4 rfl (by kernel_rfl) rfl rfl rfl (fun M11 N9 w12 hle11 S12 => .inl (run_indexM (C := cdT2) i rfl rfl rfl sl42 (by first | rfl | omega) (hr1.mono hle11) (by first | omega | (simp only [lens]; omega)))) ?_
   refine wap 9 3 rfl (by kernel_rfl) rfl rfl rfl (fun w13 => run_fieldAddr rfl rfl Tryz.underlying97 rfl (ce3) (nf3)) ?_
   refine wat 10 2 rfl (by kernel_rfl) rfl rfl rfl (fun M13 N11 w14 hle13 S14 => .inl (run_load1 rfl rfl Tryz.underlying3 rfl ((hr1.mono hle13).cell S14.m (i := i) (by first | omega | (simp only [lens]; omega)) 2 rfl rfl))) ?_
   refine wa_only (i := 11) 1 rfl (by kernel_rfl) rfl rfl (fun w16 S16 => ?_)
   refine (wo_ct rfl rfl rfl rfl rfl rfl rfl cf55 S16 (Put_t acc ((ga (homL (mu d + 1) d) i).z) ((ga (homL (mu d + 1) d) i).c) hacc ((by have := can_len hcc hbc; omega)) S16.lend) ?_)
   intro vw17 w17 M15 hle15 S17 hRw17; clear S16
   replace hdcrs := hdcrs.mono (Hp.un_mono hle15 S17.mx)
   replace hr1 := hr1.mono hle15
   replace hacc := hacc.mono hle15
   obtain ⟨A2, c2, rfl, hr2⟩ := hRw17
   refine LeftW.grow [] (hle15) S17 ?_; clear S17
   change WA _ _ _ _ _ _ _ _ _ _ _ _ []
   refine wa_base (wap 12 0 rfl (by kernel_rfl) rfl rfl rfl (fun w18 => run_assign rfl rfl) ?_)
   refine wa_end (by kernel_rfl) (fun w19 S19 => ?_)
   refine nm_blk (nmk [3, 4, 5] rfl (nm_thn (ws_region rfl (wlm 0 1 rfl rfl rfl rfl rfl rfl rfl (wlo 1 2 rfl rfl rfl (wo_run rfl rfl (run_add rfl rfl rfl (by first | omega | (simp only [lens]; omega))) ?_))))))
   refine wla 2 3 rfl rfl rfl rfl rfl rfl rfl (wl_end rfl (nm_lp ?_))
   have hbi := b2_at hlB (i := i) (by omega)
   have hwi := can2_wr hlC (i := i) (by omega)
   intro ax_ hax_
   refine ⟨_, ?hq2m, ⟨i + 1, (put acc ((ga (homL (mu d + 1) d) i).z) ((ga (homL (mu d + 1) d) i).c)), A2, c2, _, (hle2.trans hle15), rfl, hax_.sub ⟨rfl, rfl, rfl, trivial⟩, S19.pick [] [] (by decide) trivial, ?hq2f0, ?hq2f1, ?hq2f2, ?hq2f3, ?hq2f4⟩⟩
   case hq2f0 => exact hr2
   case hq2f1 => omega
   case hq2f2 => exact put_can hcc (wr_id (by omega)) hwi
   case hq2f3 => exact put_bd hbc (by omega)
   case hq2f4 => (rw [mk_put, hmc, czL_take (by omega)])
   case hq2m => omega
  ·replace hb11 := of_decide_eq_false hb11
   refine ws_exit rfl rfl (nmk [4] rfl (nm_thn (ws_seqN ConwayOf_n22 ConwayOf_n23 rfl rfl rfl (ws_region rfl (wlm 0 1 rfl rfl rfl rfl rfl rfl rfl (wla 1 2 rfl rfl rfl rfl rfl rfl rfl (wl_end rfl (nmk [2] rfl ?_))))))))
   refine nm_thn (ws_ret hC [_] rfl rfl ⟨rfl, trivial⟩ ?_)
   refine ⟨_, rfl, _, hle1.trans hle2, (S3.pick [] [] (by decide) trivial), ?_⟩
   obtain rfl : i = (homL (mu d + 1) d).length := by omega
   rw [List.take_length] at hmc
   exact ⟨_, _, _, rfl, hacc, hcc, hbc, hmc⟩
noncomputable def ConwayP_n0 : Code := Tryz.f17.body.getD .skip
noncomputable def ConwayP_n1 : Code := cL ConwayP_n0
noncomputable def ConwayP_n2 : Code := cR ConwayP_n0
noncomputable def ConwayP_n3 : Code := cL ConwayP_n2
noncomputable def ConwayP_n4 : Code := cR ConwayP_n2
noncomputable def ConwayP_n5 : Code := cL ConwayP_n4
noncomputable def ConwayP_n6 : Code := cR ConwayP_n4
noncomputable def ConwayP_n7 : Code := cL ConwayP_n5
noncomputable def ConwayP_n8 : Code := cR ConwayP_n5
noncomputable def ConwayP_n9 : Code := cL ConwayP_n8
noncomputable def ConwayP_n10 : Code := cR ConwayP_n8
noncomputable def ConwayP_n11 : Code := cL ConwayP_n9
noncomputable def ConwayP_n12 : Code := cR ConwayP_n9
noncomputable def ConwayP_n13 : Code := cL ConwayP_n6
noncomputable def ConwayP_n14 : Code := cR ConwayP_n6
noncomputable def ConwayP_n15 : Code := cL ConwayP_n14
noncomputable def ConwayP_n16 : Code := cR ConwayP_n14
noncomputable def ConwayP_n17 : Code := cL ConwayP_n15
noncomputable def ConwayP_n18 : Code := cR ConwayP_n15
noncomputable def ConwayP_n19 : Code := cL ConwayP_n18
noncomputable def ConwayP_n20 : Code := cL ConwayP_n19
noncomputable def ConwayP_n21 : Code := cL ConwayP_n20
noncomputable def ConwayP_n22 : Code := cR ConwayP_n20
noncomputable def ConwayP_n23 : Code := cL ConwayP_n22
noncomputable def ConwayP_n24 : Code := cR ConwayP_n22
noncomputable def ConwayP_n25 : Code := cL ConwayP_n23
noncomputable def ConwayP_n26 : Code := cR ConwayP_n23
noncomputable def ConwayP_n27 : Code := cL ConwayP_n16
noncomputable def ConwayP_n28 : Code := cR ConwayP_n16
noncomputable def ConwayP_n29 : Code := cL ConwayP_n24
noncomputable def ConwayP_n30 : Code := cL ConwayP_n29
noncomputable def ConwayP_n31 : Code := cR ConwayP_n29
set_option maxHeartbeats 1000000 in
set_option maxRecDepth 10000 in
theorem ConwayP_t {w : World} {M : Hp} {X : Fr} (d : Dg) {dcrsA : Option Addr} {dcrsc : Nat} (hdcrs : RdA cdCr (M.un X.h) dcrsA dcrsc d.crs) (S : SH w M X []) : Ct Tryz.prog 17 [.agg [.slice dcrsA d.crs.length dcrsc, .int .i64 d.loops].toArray] w M X (CwR d) := by
 unfold Ct
 have rmhdcrs : d.crs.length * 40 ≤ 140737488355328 := hdcrs.room
 refine calls_in (b := ConwayP_n0) Tryz.func17 rfl Tryz.ntmps17 rfl (fun C hC => (ws_sub [(0, _)] ⟨rfl, trivial⟩ (ws_seqN ConwayP_n1 ConwayP_n2 rfl rfl rfl (ws_region rfl (wlo 0 1 rfl rfl rfl (wo_box (l := [_, _]) rfl rfl rfl rfl rfl S ?_))))))
 intro gb1 w1 S1; clear S
 refine wla 1 2 rfl rfl rfl rfl rfl rfl rfl (wla 2 3 rfl rfl rfl rfl rfl rfl rfl (wl_end rfl (nmk [1] rfl (nm_thn (ws_seqN ConwayP_n3 ConwayP_n4 rfl rfl rfl (ws_region rfl (wlo 0 1 rfl rfl rfl (wo_run rfl rfl (run_loadN (us := [_, _]) rfl rfl Tryz.underlying24 rfl sz24 (S1.boxcs (i := 0) rfl ⟨rfl, rfl, trivial⟩)) (wlo 1 2 rfl rfl rfl (wo_ct rfl rfl rfl rfl rfl rfl rfl cf42 S1 (HOpen0_t d 0 (hdcrs.mono S1.un_XH) S1.lend) ?_))))))))))
 intro vw2 w2 M1 hle1 S2 hRw2; clear S1
 replace hdcrs := hdcrs.mono (Hp.un_mono hle1 S2.mx)
 rcases hRw2 with ⟨herr11, rfl⟩ | ⟨herr11, g1, cA11, iA11, oA11, cc11, ic11, oc11, rfl, hsb11, hsc11, hsi11, hso11⟩
 ·refine wlm 2 3 rfl rfl rfl rfl rfl rfl rfl (wlo 3 4 rfl rfl rfl (wo_run rfl rfl (run_extract rfl rfl rfl) (wlo 4 5 rfl rfl rfl (wo_run rfl rfl (run_extract rfl rfl rfl) (wla 5 6 rfl rfl rfl rfl rfl rfl rfl (wla 6 7 rfl rfl rfl rfl rfl rfl rfl (wl_end rfl (nmk [4, 5] rfl (nm_thn (ws_seqN ConwayP_n5 ConwayP_n6 rfl rfl rfl ?_))))))))))
  refine ws_seqN ConwayP_n7 ConwayP_n8 rfl rfl rfl (ws_region rfl (wlm 0 1 rfl rfl rfl rfl rfl rfl rfl (wlo 1 2 rfl rfl rfl (wo_run rfl rfl (run_neq rfl rfl rfl) (wl_end rfl (nmk [4, 5, 15] rfl (nm_thn ?_)))))))
  refine ws_condN ConwayP_n9 ConwayP_n10 rfl rfl rfl rfl (fun hb15 => ?_) (fun hb15 => ?_)
  ·replace hb15 := of_decide_eq_true hb15
   refine ws_seqN ConwayP_n11 ConwayP_n12 rfl rfl rfl (ws_region rfl (wlm 0 1 rfl rfl rfl rfl rfl rfl rfl (wla 1 2 rfl rfl rfl rfl rfl rfl rfl (wla 2 3 rfl rfl rfl rfl rfl rfl rfl (wl_end rfl (nmk [2, 3] rfl (nm_thn (ws_ret hC [_, _] rfl rfl ⟨rfl, rfl, trivial⟩ ?_))))))))
   refine ⟨_, rfl, _, hle1, (S2.pick [] [] (by decide) trivial), ?_⟩
   exact .inl ⟨herr11, rfl⟩
  ·replace hb15 := of_decide_eq_false hb15
   exfalso; omega
 ·have J := jd_of herr11
  have hmu := mu_le J
  obtain ⟨hlB, hlC⟩ := homL_spec (mu d + 1) d J (Nat.lt_succ_self _)
  replace hlB : B2 400 (homL (mu d + 1) d) := hlB.mono (by unfold bE; omega)
  refine wlm 2 3 rfl rfl rfl rfl rfl rfl rfl (wlo 3 4 rfl rfl rfl (wo_run rfl rfl (run_extract rfl rfl rfl) (wlo 4 5 rfl rfl rfl (wo_run rfl rfl (run_extract rfl rfl rfl) (wla 5 6 rfl rfl rfl rfl rfl rfl rfl (wla 6 7 rfl rfl rfl rfl rfl rfl rfl (wl_end rfl (nmk [4, 5] rfl (nm_thn (ws_seqN ConwayP_n5 ConwayP_n6 rfl rfl rfl ?_))))))))))
  refine ws_seqN ConwayP_n7 ConwayP_n8 rfl rfl rfl (ws_region rfl (wlm 0 1 rfl rfl rfl rfl rfl rfl rfl (wlo 1 2 rfl rfl rfl (wo_run rfl rfl (run_neq rfl rfl rfl) (wl_end rfl (nmk [4, 5, 15] rfl (nm_thn ?_)))))))
  refine ws_condN ConwayP_n9 ConwayP_n10 rfl rfl rfl rfl (fun hb15 => ?_) (fun hb15 => ?_)
  ·replace hb15 := of_decide_eq_true hb15
   exfalso; omega
  ·replace hb15 := of_decide_eq_false hb15
   refine ws_skip rfl (nmk [4] rfl (nm_thn (ws_seqN ConwayP_n13 ConwayP_n14 rfl rfl rfl (ws_region rfl (wlo 0 1 rfl rfl rfl (wo_makeMap Int Int (Value.int .i64) (Value.int .i64) rfl rfl rfl S2 ?_))))))
   intro gm1 w3 S3; clear S2
   refine wla 1 2 rfl rfl rfl rfl rfl rfl rfl (wl_end rfl (nmk [4, 6] rfl (nm_thn (ws_seqN ConwayP_n15 ConwayP_n16 rfl rfl rfl (ws_seqN ConwayP_n17 ConwayP_n18 rfl rfl rfl (ws_region rfl (wlm 0 1 rfl rfl rfl rfl rfl rfl rfl (wlo 1 2 rfl rfl rfl (wo_run rfl rfl (run_nilCheck rfl rfl) ?_)))))))))
   refine wlo 2 3 rfl rfl rfl (wo_run rfl rfl (run_fieldAddr rfl rfl Tryz.underlying70 rfl (ce24) (nf24)) (wlo 3 4 rfl rfl rfl (wo_run rfl rfl (run_loadN (us := [_, _]) rfl rfl Tryz.underlying24 rfl sz24 (hsb11.cells S3.m ⟨rfl, rfl, trivial⟩)) (wlo 4 5 rfl rfl rfl (wo_ct rfl rfl rfl rfl rfl rfl rfl cf43 S3 (of_t (mu d + 1) d (hsc11.mono (Hp.le_un _ _)) J (Nat.lt_succ_self _) S3.lend) ?_)))))
   intro vw4 w4 M2 hle2 S4 hRw4; clear S3
   replace hdcrs := hdcrs.mono (Hp.un_mono hle2 S4.mx)
   replace hsb11 := hsb11.mono hle2
   replace hsc11 := hsc11.mono hle2
   replace hsi11 := hsi11.mono hle2
   replace hso11 := hso11.mono hle2
   obtain ⟨g2, es22, rfl, hm1, he22, hc22⟩ := hRw4
   obtain ⟨arr1, clk1, hE1⟩ := hm1.ents
   refine wlo 5 6 rfl rfl rfl (wo_range rfl rfl rfl rfl Tryz.underlying85 S4 hE1 S4.m ?_)
   intro r1 w5 S5; clear S4
   refine wl_end rfl (nmk [6, 23] rfl (nm_thn (ws_blockN ConwayP_n19 0 rfl rfl rfl ?_)))
   refine ws_loopE (fun mx_ ax_ wx_ => ∃ (sn : Array Nat) (dn : List (Pw × Int)) (lf : List (Pw × Int)) (ws : List (Int × Int)), mx_ = lf.length ∧ Env 37 [(6, .map (some gm1)), (23, .pointer (some ⟨r1, 0, none⟩))] ax_ ∧ SH wx_ M2 X [Rs.itr g2 clk1 r1 sn, Rs.mp (Value.int .i64) (Value.int .i64) gm1 ws] ∧ Lft (fun x => Value.agg (cdPw.f x).toArray) (Value.int .i64) arr1 sn lf ∧ (dn ++ lf).Perm es22 ∧ Ents ws 400 ∧ mk ws = czE dn) rfl ?_ ?_
   ·intro ax_ hax_
    refine ⟨_, ⟨#[], [], es22, [], rfl, hax_.sub ⟨rfl, rfl, trivial⟩, S5.pick [0, 1] [_, _] (by decide) ⟨rfl, rfl, trivial⟩, ?hq1f0, ?hq1f1, ?hq1f2, ?hq1f3⟩⟩
    case hq1f0 => exact hE1.lft
    case hq1f1 => exact List.Perm.refl _
    case hq1f2 => exact Ents.nil_ _
    case hq1f3 => rfl
   ·rintro m2 a1 w6 ⟨sn, dn, lf, ws, rfl, he1, S6, hlf, hpm, hws, hmw⟩
    clear S5
    refine ws_in he1 (c := ConwayP_n20) rfl ?_
    clear he1 a1
    refine ws_seqN ConwayP_n21 ConwayP_n22 rfl rfl rfl (ws_region rfl ?_)
    refine wlo 0 1 rfl rfl rfl (wo_next (i := 0) rfl rfl rfl rfl S6 rfl hE1 S6.m hlf (fun hlf1 => ?_) (fun k1 v1 l1_1 l2_1 sn1 w7 hlf1 hlft1 hlst1 S7 => ?_))
    ·refine wlo 1 2 rfl rfl rfl (wo_run rfl rfl (run_extract rfl rfl rfl) (wl_end rfl (nmk [6, 23, 25] rfl (nm_thn (ws_seqN ConwayP_n23 ConwayP_n24 rfl rfl rfl (ws_condFN ConwayP_n26 rfl rfl rfl (ws_exit rfl rfl (nmk [6] rfl (nm_thn ?_)))))))))
     refine ws_seqN ConwayP_n27 ConwayP_n28 rfl rfl rfl ?_
     obtain rfl : lf = [] := hlf1
     rw [List.append_nil] at hpm
     have hcz : mk ws = czL (homL (mu d + 1) d) := by rw [hmw, czE_perm hpm]; exact cz_eq' (B := 400) (Nat.le_refl _) (he22.mono (by unfold bP; omega)) hlC hlB hc22
     refine ws_region rfl (wlm 0 1 rfl rfl rfl rfl rfl rfl rfl ?_)
     obtain ⟨M3, hle4, S8, hm2⟩ := S6.pubmap (i := 1) (H' := [_, _]) rfl rfl; clear S6
     replace hdcrs := hdcrs.mono (Hp.un_mono hle4 S8.mx)
     replace hsb11 := hsb11.mono hle4
     replace hsc11 := hsc11.mono hle4
     replace hsi11 := hsi11.mono hle4
     replace hso11 := hso11.mono hle4
     replace hm1 := hm1.mono hle4
     replace hE1 := hE1.mono hle4
     have hw1 : Wk M3 gm1 (400) (mk ws) := ⟨_, hm2, hws, rfl⟩
     refine wlo 1 2 rfl rfl rfl (wo_ct rfl rfl rfl rfl rfl rfl rfl cf48 S8 (FormW_t hw1 (by omega) S8.lend) ?_)
     intro vw8 w8 M4 hle5 S9 hRw8; clear S8
     replace hdcrs := hdcrs.mono (Hp.un_mono hle5 S9.mx)
     replace hsb11 := hsb11.mono hle5
     replace hsc11 := hsc11.mono hle5
     replace hsi11 := hsi11.mono hle5
     replace hso11 := hso11.mono hle5
     replace hm1 := hm1.mono hle5
     replace hE1 := hE1.mono hle5
     replace hm2 := hm2.mono hle5
     replace hw1 := hw1.mono hle5
     obtain ⟨A1, c1, l1, rfl, hr1, hcan1, hbd1, hmk1⟩ := hRw8
     refine wla 2 3 rfl rfl rfl rfl rfl rfl rfl (wla 3 4 rfl rfl rfl rfl rfl rfl rfl (wl_end rfl (nmk [2, 3] rfl (nm_thn (ws_ret hC [_, _] rfl rfl ⟨rfl, rfl, trivial⟩ ?_)))))
     refine ⟨_, rfl, _, ((hle1.trans hle2).trans hle4).trans hle5, (S9.pick [] [] (by decide) trivial), ?_⟩
     exact .inr ⟨herr11, _, _, _, rfl, hr1, hcan1, hbd1, (hmk1.trans hcz)⟩
    ·clear S6
     change SH _ _ _ [Rs.itr g2 clk1 r1 sn1, _] at S7
     refine wlo 1 2 rfl rfl rfl (wo_run rfl rfl (run_extract rfl rfl rfl) (wl_end rfl (nmk [6, 23, 25] rfl (nm_thn (ws_seqN ConwayP_n23 ConwayP_n24 rfl rfl rfl (ws_condTN ConwayP_n25 rfl rfl rfl (ws_skip rfl (nmk [6, 23] rfl (nm_thn ?_)))))))))
     refine ws_blockN ConwayP_n29 1 rfl rfl rfl (ws_seqN ConwayP_n30 ConwayP_n31 rfl rfl rfl (ws_region rfl (wlo 0 1 rfl rfl rfl (wo_run rfl rfl (run_entry (i := 0) rfl rfl S7 rfl hE1 S7.m hlst1) (wlo 1 2 rfl rfl rfl (wo_run rfl rfl (run_extract rfl rfl rfl) (wlo 2 3 rfl rfl rfl (wo_run rfl rfl (run_extract rfl rfl rfl) (wlo 3 4 rfl rfl rfl (wo_alloc (l := [_, _]) rfl rfl rfl zr90 rfl S7 ?_))))))))))
     intro gb2 w9 S10; clear S7
     refine wlo 4 5 rfl rfl rfl (wo_storeB (i := 0) (us := [_, _]) (l' := [_, _]) (H' := [_, _, _]) rfl rfl S10 rfl rfl rfl rfl sz90 rfl rfl rfl rfl ?_)
     intro w10 S11; clear S10
     refine wla 5 6 rfl rfl rfl rfl rfl rfl rfl (wl_end rfl (nmk [6, 23, 7, 8] rfl (nm_thn ?_)))
     have hkb := (he22.at_ hpm hlf1).1
     unfold PB bP at hkb
     refine ws_region rfl (wlm 0 1 rfl rfl rfl rfl rfl rfl rfl (wlo 1 2 rfl rfl rfl (wo_run rfl rfl (run_fieldAddr rfl rfl Tryz.underlying90 rfl (ce3) (nf3)) (wlo 2 3 rfl rfl rfl (wo_run rfl rfl (run_load1 rfl rfl Tryz.underlying3 rfl (S11.boxc (i := 0) rfl rfl)) (wlo 3 4 rfl rfl rfl (wo_run rfl rfl (run_lookup (kc := Value.int .i64) (vc := Value.int .i64) (es := ws) (k := k1.z) (zv := 0) (i := 2) rfl rfl rfl Tryz.underlying99 mk3 zr3 S11 rfl) (wlm 4 5 rfl rfl rfl rfl rfl rfl rfl (wlo 5 6 rfl rfl rfl (wo_run rfl rfl (run_addW rfl rfl rfl) (wlo 6 7 rfl rfl rfl (wo_mapUpdate (kc := Value.int .i64) (vc := Value.int .i64) (es := ws) (k := k1.z) (e := (wr (((mg k1.z ws).getD 0) + v1))) (i := 2) (H' := [_, _, _]) (.inl rfl) rfl S11 rfl rfl rfl rfl Tryz.underlying99 mk3 rfl ?_))))))))))))
     intro w11 S12; clear S11
     refine wl_end rfl (nm_blk (nm_lp ?_))
     intro ax_ hax_
     refine ⟨_, ?hq2m, ⟨sn1, dn ++ [(k1, v1)], l1_1 ++ l2_1, mp k1.z (wr (((mg k1.z ws).getD 0) + v1)) ws, rfl, hax_.sub ⟨rfl, rfl, trivial⟩, S12.pick [1, 2] [_, _] (by decide) ⟨rfl, rfl, trivial⟩, ?hq2f0, ?hq2f1, ?hq2f2, ?hq2f3⟩⟩
     case hq2f0 => assumption
     case hq2f1 => (refine List.Perm.trans ?_ hpm; simp only [*, List.append_assoc, List.cons_append, List.nil_append]; exact (List.perm_append_left_iff _).2 (List.perm_middle.symm))
     case hq2f2 => exact mp_ents hws (by omega) (wr_idem _)
     case hq2f3 => (rw [czE_snoc]; exact cz_step (es := []) (dn := []) hmw)
     case hq2m => (simp only [*, List.length_append, List.length_cons]; omega)
noncomputable def sameTwos_n0 : Code := Tryz.f19.body.getD .skip
noncomputable def sameTwos_n1 : Code := cL sameTwos_n0
noncomputable def sameTwos_n2 : Code := cR sameTwos_n0
noncomputable def sameTwos_n3 : Code := cL sameTwos_n2
noncomputable def sameTwos_n4 : Code := cR sameTwos_n2
noncomputable def sameTwos_n5 : Code := cL sameTwos_n3
noncomputable def sameTwos_n6 : Code := cR sameTwos_n3
noncomputable def sameTwos_n7 : Code := cL sameTwos_n6
noncomputable def sameTwos_n8 : Code := cR sameTwos_n6
noncomputable def sameTwos_n9 : Code := cL sameTwos_n4
noncomputable def sameTwos_n10 : Code := cR sameTwos_n4
noncomputable def sameTwos_n11 : Code := cL sameTwos_n9
noncomputable def sameTwos_n12 : Code := cR sameTwos_n9
noncomputable def sameTwos_n13 : Code := cL sameTwos_n12
noncomputable def sameTwos_n14 : Code := cL sameTwos_n13
noncomputable def sameTwos_n15 : Code := cL sameTwos_n14
noncomputable def sameTwos_n16 : Code := cR sameTwos_n14
noncomputable def sameTwos_n17 : Code := cL sameTwos_n15
noncomputable def sameTwos_n18 : Code := cR sameTwos_n15
noncomputable def sameTwos_n19 : Code := cL sameTwos_n18
noncomputable def sameTwos_n20 : Code := cR sameTwos_n18
noncomputable def sameTwos_n21 : Code := cL sameTwos_n16
noncomputable def sameTwos_n22 : Code := cR sameTwos_n16
noncomputable def sameTwos_n23 : Code := cL sameTwos_n21
noncomputable def sameTwos_n24 : Code := cL sameTwos_n23
noncomputable def sameTwos_n25 : Code := cR sameTwos_n23
noncomputable def sameTwos_n26 : Code := cL sameTwos_n25
noncomputable def sameTwos_n27 : Code := cR sameTwos_n25
noncomputable def sameTwos_n28 : Code := cL sameTwos_n10
noncomputable def sameTwos_n29 : Code := cR sameTwos_n10
set_option maxRecDepth 10000 in
theorem sameTwos_q {w : World} {M : Hp} {X : Fr} (p : List T2) {pA : Option Addr} {pc : Nat} (q : List T2) {qA : Option Addr} {qc : Nat} (hp : RdA cdT2 (M.un X.h) pA pc p) (hq : RdA cdT2 (M.un X.h) qA qc q) (he : p = q) (S : SH w M X []) : Cq Tryz.prog 19 [.slice pA p.length pc, .slice qA q.length qc] w M X (fun u => u = .bool true) := by
 unfold Cq
 have rmhp : p.length * 24 ≤ 140737488355328 := hp.room
 have rmhq : q.length * 24 ≤ 140737488355328 := hq.room
 have hle : p.length = q.length := by rw [he]
 refine calls_in (b := sameTwos_n0) Tryz.func19 rfl Tryz.ntmps19 rfl (fun C hC => (ws_sub [(0, _), (1, _)] ⟨rfl, rfl, trivial⟩ (ws_seqN sameTwos_n1 sameTwos_n2 rfl rfl rfl (ws_region rfl (wla 0 1 rfl rfl rfl rfl rfl rfl rfl (wl_end rfl (nmk [0, 1] rfl (nm_thn (ws_seqN sameTwos_n3 sameTwos_n4 rfl rfl rfl ?_)))))))))
 refine ws_seqN sameTwos_n5 sameTwos_n6 rfl rfl rfl (ws_region rfl (wlm 0 1 rfl rfl rfl rfl rfl rfl rfl (wlo 1 2 rfl rfl rfl (wo_run rfl rfl (run_len rfl rfl rfl rfl rfl rfl Tryz.underlying42) (wlm 2 3 rfl rfl rfl rfl rfl rfl rfl (wlo 3 4 rfl rfl rfl (wo_run rfl rfl (run_len rfl rfl rfl rfl rfl rfl Tryz.underlying42) (wlo 4 5 rfl rfl rfl (wo_run rfl rfl (run_neq rfl rfl rfl) (wl_end rfl (nmk [0, 1, 10] rfl ?_)))))))))))
 refine nm_thn ?_
 refine ws_condN sameTwos_n7 sameTwos_n8 rfl rfl rfl rfl (fun hb10 => ?_) (fun hb10 => ?_)
 ·replace hb10 := of_decide_eq_true hb10
  exfalso; omega
 ·replace hb10 := of_decide_eq_false hb10
  refine ws_skip rfl (nmk [0, 1] rfl (nm_thn (ws_seqN sameTwos_n9 sameTwos_n10 rfl rfl rfl (ws_seqN sameTwos_n11 sameTwos_n12 rfl rfl rfl (ws_region rfl (wla 0 1 rfl rfl rfl rfl rfl rfl rfl (wl_end rfl (nm_thn ?_))))))))
  refine ws_blockN sameTwos_n13 0 rfl rfl rfl ?_
  refine ws_loopE (fun mx_ ax_ wx_ => ∃ (k : Nat), mx_ = p.length - k ∧ Env 26 [(0, .slice pA p.length pc), (1, .slice qA q.length qc), (5, .int .i64 (k : Int))] ax_ ∧ SH wx_ M X [] ∧ k ≤ p.length) rfl ?_ ?_
  ·intro ax_ hax_
   refine ⟨_, ⟨0, rfl, hax_.sub ⟨rfl, rfl, rfl, trivial⟩, S.pick [] [] (by decide) trivial, ?hq1f0⟩⟩
   case hq1f0 => omega
  ·rintro m1 a1 w1 ⟨k, rfl, he1, S1, hk⟩
   clear S
   refine ws_in he1 (c := sameTwos_n14) rfl ?_
   clear he1 a1
   refine ws_seqN sameTwos_n15 sameTwos_n16 rfl rfl rfl (ws_seqN sameTwos_n17 sameTwos_n18 rfl rfl rfl (ws_region rfl (wlm 0 1 rfl rfl rfl rfl rfl rfl rfl (wlm 1 2 rfl rfl rfl rfl rfl rfl rfl (wlo 2 3 rfl rfl rfl (wo_run rfl rfl (run_len rfl rfl rfl rfl rfl rfl Tryz.underlying42) (wlo 3 4 rfl rfl rfl (wo_run rfl rfl (run_lss rfl rfl rfl) (wl_end rfl (nmk [0, 1, 5, 14] rfl ?_))))))))))
   refine nm_thn ?_
   refine ws_condN sameTwos_n19 sameTwos_n20 rfl rfl rfl rfl (fun hb14 => ?_) (fun hb14 => ?_)
   ·replace hb14 := of_decide_eq_true hb14
    refine ws_skip rfl (nmk [0, 1, 5] rfl (nm_thn (ws_seqN sameTwos_n21 sameTwos_n22 rfl rfl rfl (ws_blockN sameTwos_n23 1 rfl rfl rfl (ws_seqN sameTwos_n24 sameTwos_n25 rfl rfl rfl (ws_draw rfl (by kernel_rfl) S1 9 rfl ?_))))))
    clear S1
    refine wap 0 8 rfl (by kernel_rfl) rfl rfl rfl (fun w2 => run_move rfl rfl) ?_
    refine wap 1 7 rfl (by kernel_rfl) rfl rfl rfl (fun w3 => run_move rfl rfl) ?_
    refine wat 2 6 rfl (by kernel_rfl) rfl rfl rfl (fun M3 N3 w4 hle4 S4 => .inl (run_indexM (C := cdT2) k rfl rfl rfl sl42 (by first | rfl | omega) (hp.mono (Hp.un_mono hle4 S4.mx)) (by first | omega | (simp only [lens]; omega)))) ?_
    refine wat 3 5 rfl (by kernel_rfl) rfl rfl rfl (fun M4 N4 w5 hle5 S5 => .inl (run_loadN (us := [_, _, _]) rfl rfl Tryz.underlying97 rfl sz97 ((hp.mono (Hp.un_mono hle5 S5.mx)).cellsAt S5.um (e := k) (by first | omega | (simp only [lens]; omega)) (j := 0) ⟨rfl, rfl, rfl, trivial⟩))) ?_
    refine wap 4 4 rfl (by kernel_rfl) rfl rfl rfl (fun w6 => run_move rfl rfl) ?_
    refine wap 5 3 rfl (by kernel_rfl) rfl rfl rfl (fun w7 => run_move rfl rfl) ?_
    refine wat 6 2 rfl (by kernel_rfl) rfl rfl rfl (fun M7 N7 w8 hle8 S8 => .inl (run_indexM (C := cdT2) k rfl rfl rfl sl42 (by first | rfl | omega) (hq.mono (Hp.un_mono hle8 S8.mx)) (by first | omega | (simp only [lens]; omega)))) ?_
    refine wat 7 1 rfl (by kernel_rfl) rfl rfl rfl (fun M8 N8 w9 hle9 S9 => .inl (run_loadN (us := [_, _, _]) rfl rfl Tryz.underlying97 rfl sz97 ((hq.mono (Hp.un_mono hle9 S9.mx)).cellsAt S9.um (e := k) (by first | omega | (simp only [lens]; omega)) (j := 0) ⟨rfl, rfl, rfl, trivial⟩))) ?_
    refine wap 8 0 rfl (by kernel_rfl) rfl rfl rfl (fun w10 => run_neSt (Q := ((ga p k).x) = ((ga q k).x) ∧ ((ga p k).z) = ((ga q k).z) ∧ ((ga p k).c) = ((ga q k).c)) rfl rfl rfl se97 ⟨_, _, _, _, rfl, rfl, ⟨_, _, _, _, rfl, rfl, ⟨_, _, _, rfl, rfl, rfl⟩, rfl⟩, rfl⟩) ?_
    refine wa_end (by kernel_rfl) (fun w11 S11 => ?_)
    refine nmk [0, 1, 5, 25] rfl (nm_thn ?_)
    refine ws_condN sameTwos_n26 sameTwos_n27 rfl rfl rfl rfl (fun hb25 => ?_) (fun hb25 => ?_)
    ·replace hb25 := of_decide_eq_true hb25
     exfalso; exact hb25 (by rw [he]; exact ⟨rfl, rfl, rfl⟩)
    ·replace hb25 := of_decide_eq_false hb25
     refine ws_skip rfl (nm_blk (nmk [0, 1, 5] rfl (nm_thn (ws_region rfl (wlm 0 1 rfl rfl rfl rfl rfl rfl rfl (wlo 1 2 rfl rfl rfl (wo_run rfl rfl (run_add rfl rfl rfl (by first | omega | (simp only [lens]; omega))) ?_)))))))
     refine wla 2 3 rfl rfl rfl rfl rfl rfl rfl (wl_end rfl (nm_lp ?_))
     intro ax_ hax_
     refine ⟨_, ?hq2m, ⟨k + 1, rfl, hax_.sub ⟨rfl, rfl, rfl, trivial⟩, S11.pick [] [] (by decide) trivial, ?hq2f0⟩⟩
     case hq2f0 => omega
     case hq2m => omega
   ·replace hb14 := of_decide_eq_false hb14
    refine ws_exit rfl rfl (nm_sub [] trivial (nm_thn (ws_seqN sameTwos_n28 sameTwos_n29 rfl rfl rfl (ws_region rfl (wla 0 1 rfl rfl rfl rfl rfl rfl rfl (wl_end rfl (nm_thn (ws_ret hC [_] rfl rfl ⟨rfl, trivial⟩ ?_))))))))
    exact ⟨_, rfl, (S1.pick [] [] (by decide) trivial), rfl⟩
noncomputable def HomflyTells_n0 : Code := Tryz.f6.body.getD .skip
noncomputable def HomflyTells_n1 : Code := cL HomflyTells_n0
noncomputable def HomflyTells_n2 : Code := cR HomflyTells_n0
noncomputable def HomflyTells_n3 : Code := cL HomflyTells_n2
noncomputable def HomflyTells_n4 : Code := cR HomflyTells_n2
noncomputable def HomflyTells_n5 : Code := cL HomflyTells_n4
noncomputable def HomflyTells_n6 : Code := cR HomflyTells_n4
noncomputable def HomflyTells_n7 : Code := cL HomflyTells_n6
noncomputable def HomflyTells_n8 : Code := cR HomflyTells_n6
noncomputable def HomflyTells_n9 : Code := cL HomflyTells_n8
noncomputable def HomflyTells_n10 : Code := cR HomflyTells_n8
noncomputable def HomflyTells_n11 : Code := cL HomflyTells_n9
noncomputable def HomflyTells_n12 : Code := cR HomflyTells_n9
noncomputable def HomflyTells_n13 : Code := cL HomflyTells_n12
noncomputable def HomflyTells_n14 : Code := cR HomflyTells_n12
noncomputable def HomflyTells_n15 : Code := cL HomflyTells_n13
noncomputable def HomflyTells_n16 : Code := cR HomflyTells_n13
noncomputable def HomflyTells_n17 : Code := cL HomflyTells_n10
noncomputable def HomflyTells_n18 : Code := cR HomflyTells_n10
set_option maxHeartbeats 2000000 in
set_option maxRecDepth 10000 in
theorem HomflyTells_t {w : World} {M : Hp} {X : Fr} (d : Dg) {dcrsA : Option Addr} {dcrsc : Nat} (hdcrs : RdA cdCr M dcrsA dcrsc d.crs) (S : SH w M X []) : Ct Tryz.prog 6 [.agg [.slice dcrsA d.crs.length dcrsc, .int .i64 d.loops].toArray] w M X (fun u _ => u = .bool true) := by
 unfold Ct
 have rmhdcrs : d.crs.length * 40 ≤ 140737488355328 := hdcrs.room
 refine calls_in (b := HomflyTells_n0) Tryz.func6 rfl Tryz.ntmps6 rfl (fun C hC => (ws_sub [(0, _)] ⟨rfl, trivial⟩ (ws_seqN HomflyTells_n1 HomflyTells_n2 rfl rfl rfl (ws_region rfl (wlo 0 1 rfl rfl rfl (wo_box (l := [_, _]) rfl rfl rfl rfl rfl S ?_))))))
 intro gb1 w1 S1; clear S
 refine wla 1 2 rfl rfl rfl rfl rfl rfl rfl (wl_end rfl (nmk [1] rfl (nm_thn (ws_seqN HomflyTells_n3 HomflyTells_n4 rfl rfl rfl (ws_region rfl (wlo 0 1 rfl rfl rfl (wo_run rfl rfl (run_loadN (us := [_, _]) rfl rfl Tryz.underlying24 rfl sz24 (S1.boxcs (i := 0) rfl ⟨rfl, rfl, trivial⟩)) (wlo 1 2 rfl rfl rfl (wo_ct rfl rfl rfl rfl rfl rfl rfl cf9 S1 (DiagramOf_t d (hdcrs.mono (Hp.le_un _ _)) S1.lend) ?_)))))))))
 intro vw2 w2 M1 hle1 S2 hRw2; clear S1
 replace hdcrs := hdcrs.mono hle1
 obtain ⟨A1, c1, rfl, hr1⟩ := hRw2
 refine wlo 2 3 rfl rfl rfl (wo_ct rfl rfl rfl rfl rfl rfl rfl cf16 S2 (HomflyP_t d (hr1.mono (Hp.le_un _ _)) S2.lend) ?_)
 intro vw3 w3 M2 hle2 S3 hRw3; clear S2
 replace hdcrs := hdcrs.mono hle2
 replace hr1 := hr1.mono hle2
 rcases hRw3 with ⟨hk11, rfl⟩ | ⟨hk11, A2, c2, rfl, hr2⟩
 ·refine wlm 3 4 rfl rfl rfl rfl rfl rfl rfl (wlo 4 5 rfl rfl rfl (wo_run rfl rfl (run_extract rfl rfl rfl) (wlo 5 6 rfl rfl rfl (wo_run rfl rfl (run_extract rfl rfl rfl) (wla 6 7 rfl rfl rfl rfl rfl rfl rfl (wla 7 8 rfl rfl rfl rfl rfl rfl rfl (wl_end rfl (nmk [1, 3, 4] rfl (nm_thn (ws_seqN HomflyTells_n5 HomflyTells_n6 rfl rfl rfl ?_))))))))))
  refine ws_region rfl (wlo 0 1 rfl rfl rfl (wo_run rfl rfl (run_loadN (us := [_, _]) rfl rfl Tryz.underlying24 rfl sz24 (S3.boxcs (i := 0) rfl ⟨rfl, rfl, trivial⟩)) (wlo 1 2 rfl rfl rfl (wo_ct rfl rfl rfl rfl rfl rfl rfl cf9 S3 (DiagramOf_t d (hdcrs.mono (Hp.le_un _ _)) S3.lend) ?_))))
  intro vw4 w4 M3 hle3 S4 hRw4; clear S3
  replace hdcrs := hdcrs.mono hle3
  replace hr1 := hr1.mono hle3
  obtain ⟨A3, c3, rfl, hr3⟩ := hRw4
  refine wlo 2 3 rfl rfl rfl (wo_ct rfl rfl rfl rfl rfl rfl rfl cf17 S4 (ConwayP_t d (hr3.mono (Hp.le_un _ _)) S4.lend) ?_)
  intro vw5 w5 M4 hle4 S5 hRw5; clear S4
  replace hdcrs := hdcrs.mono hle4
  replace hr1 := hr1.mono hle4
  replace hr3 := hr3.mono hle4
  rcases hRw5 with ⟨hk17, rfl⟩ | ⟨hk17, A4, c4, l1, rfl, hr4, hcan1, hbd1, hmk1⟩
  ·refine wlm 3 4 rfl rfl rfl rfl rfl rfl rfl (wlo 4 5 rfl rfl rfl (wo_run rfl rfl (run_extract rfl rfl rfl) (wlo 5 6 rfl rfl rfl (wo_run rfl rfl (run_extract rfl rfl rfl) (wla 6 7 rfl rfl rfl rfl rfl rfl rfl (wla 7 8 rfl rfl rfl rfl rfl rfl rfl (wl_end rfl (nmk [1, 3, 4, 5, 6] rfl (nm_thn (ws_seqN HomflyTells_n7 HomflyTells_n8 rfl rfl rfl ?_))))))))))
   refine ws_region rfl (wlo 0 1 rfl rfl rfl (wo_run rfl rfl (run_loadN (us := [_, _]) rfl rfl Tryz.underlying24 rfl sz24 (S5.boxcs (i := 0) rfl ⟨rfl, rfl, trivial⟩)) (wlo 1 2 rfl rfl rfl (wo_ct rfl rfl rfl rfl rfl rfl rfl cf18 S5 (few_t d 8 (hdcrs.mono (Hp.le_un _ _)) S5.lend) ?_))))
   intro vw6 w6 M5 hle5 S6 hRw6; clear S5
   replace hdcrs := hdcrs.mono hle5
   replace hr1 := hr1.mono hle5
   replace hr3 := hr3.mono hle5
   obtain rfl := hRw6
   refine wla 2 3 rfl rfl rfl rfl rfl rfl rfl (wl_end rfl (nmk [1, 3, 4, 5, 6, 7] rfl (nm_thn (ws_seqN HomflyTells_n9 HomflyTells_n10 rfl rfl rfl (ws_seqN HomflyTells_n11 HomflyTells_n12 rfl rfl rfl (ws_region rfl (wlm 0 1 rfl rfl rfl rfl rfl rfl rfl (wlo 1 2 rfl rfl rfl (wo_run rfl rfl (run_neq rfl rfl rfl) ?_)))))))))
   refine wl_end rfl (nmk [1, 3, 4, 5, 6, 7, 23] rfl (nm_thn ?_))
   refine ws_condN HomflyTells_n13 HomflyTells_n14 rfl rfl rfl rfl (fun hb23 => ?_) (fun hb23 => ?_)
   ·replace hb23 := of_decide_eq_true hb23
    refine ws_seqN HomflyTells_n15 HomflyTells_n16 rfl rfl rfl (ws_region rfl (wlm 0 1 rfl rfl rfl rfl rfl rfl rfl (wlm 1 2 rfl rfl rfl rfl rfl rfl rfl (wlo 2 3 rfl rfl rfl (wo_run rfl rfl (run_eql rfl rfl rfl) (wlm 3 4 rfl rfl rfl rfl rfl rfl rfl ?_))))))
    refine wl_split (t := 27) rfl (fun hg27 => ?_) (fun hg27 => ?_)
    ·replace hg27 := of_decide_eq_true hg27
     refine wlg 4 5 rfl rfl rfl rfl rfl rfl rfl rfl (wo_run rfl rfl (run_move rfl rfl) (wlg 5 6 rfl rfl rfl rfl rfl rfl rfl rfl (wo_run rfl rfl (run_move rfl rfl) (wlg 6 7 rfl rfl rfl rfl rfl rfl rfl rfl (wo_run rfl rfl (run_eql rfl rfl rfl) (wlo 7 8 rfl rfl rfl (wo_run rfl rfl (run_pickT rfl rfl rfl) (wlm 8 9 rfl rfl rfl rfl rfl rfl rfl ?_))))))))
     refine wl_split (t := 32) rfl (fun hg32 => ?_) (fun hg32 => ?_)
     ·replace hg32 := of_decide_eq_true hg32
      refine wlg 9 10 rfl rfl rfl rfl rfl rfl rfl rfl (wo_run rfl rfl (run_move rfl rfl) (wlg 10 11 rfl rfl rfl rfl rfl rfl rfl rfl (wo_run rfl rfl (run_len rfl rfl rfl rfl rfl rfl Tryz.underlying42) (wlg 11 12 rfl rfl rfl rfl rfl rfl rfl rfl (wo_run rfl rfl (run_eql rfl rfl rfl) (wlo 12 13 rfl rfl rfl (wo_run rfl rfl (run_pickT rfl rfl rfl) (wlm 13 14 rfl rfl rfl rfl rfl rfl rfl ?_))))))))
      refine wl_split (t := 37) rfl (fun hg37 => ?_) (fun hg37 => ?_)
      ·replace hg37 := of_decide_eq_true hg37
       refine wlg 14 15 rfl rfl rfl rfl rfl rfl rfl rfl (wo_run rfl rfl (run_move rfl rfl) (wlg 15 16 rfl rfl rfl rfl rfl rfl rfl rfl (wo_run rfl rfl (run_len rfl rfl rfl rfl rfl rfl Tryz.underlying45) (wlg 16 17 rfl rfl rfl rfl rfl rfl rfl rfl (wo_run rfl rfl (run_eql rfl rfl rfl) (wlo 17 18 rfl rfl rfl (wo_run rfl rfl (run_pickT rfl rfl rfl) (wla 18 19 rfl rfl rfl rfl rfl rfl rfl (wl_end rfl (nmk [2] rfl (nm_thn (ws_ret hC [_] rfl rfl ⟨rfl, trivial⟩ ?_))))))))))))
       refine ⟨_, rfl, _, (((hle1.trans hle2).trans hle3).trans hle4).trans hle5, (S6.pick [] [] (by decide) trivial), ?_⟩
       show Value.bool _ = _
       refine congrArg Value.bool ?_
       first | rfl | (rw [decide_eq_true_iff]; omega) | (simp_all; done)
      ·replace hg37 := of_decide_eq_false hg37
       exfalso; first | omega | (simp_all; done) | contradiction
     ·replace hg32 := of_decide_eq_false hg32
      exfalso; first | omega | (simp_all; done) | contradiction
    ·replace hg27 := of_decide_eq_false hg27
     exfalso; first | omega | (simp_all; done) | contradiction
   ·replace hb23 := of_decide_eq_false hb23
    exfalso; first | omega | (simp_all; done) | contradiction
  ·exact absurd hk17 hk11
 ·have J := jd_of hk11
  refine wlm 3 4 rfl rfl rfl rfl rfl rfl rfl (wlo 4 5 rfl rfl rfl (wo_run rfl rfl (run_extract rfl rfl rfl) (wlo 5 6 rfl rfl rfl (wo_run rfl rfl (run_extract rfl rfl rfl) (wla 6 7 rfl rfl rfl rfl rfl rfl rfl (wla 7 8 rfl rfl rfl rfl rfl rfl rfl (wl_end rfl (nmk [1, 3, 4] rfl (nm_thn (ws_seqN HomflyTells_n5 HomflyTells_n6 rfl rfl rfl ?_))))))))))
  refine ws_region rfl (wlo 0 1 rfl rfl rfl (wo_run rfl rfl (run_loadN (us := [_, _]) rfl rfl Tryz.underlying24 rfl sz24 (S3.boxcs (i := 0) rfl ⟨rfl, rfl, trivial⟩)) (wlo 1 2 rfl rfl rfl (wo_ct rfl rfl rfl rfl rfl rfl rfl cf9 S3 (DiagramOf_t d (hdcrs.mono (Hp.le_un _ _)) S3.lend) ?_))))
  intro vw7 w7 M6 hle6 S7 hRw7; clear S3
  replace hdcrs := hdcrs.mono hle6
  replace hr1 := hr1.mono hle6
  replace hr2 := hr2.mono hle6
  obtain ⟨A5, c5, rfl, hr5⟩ := hRw7
  refine wlo 2 3 rfl rfl rfl (wo_ct rfl rfl rfl rfl rfl rfl rfl cf17 S7 (ConwayP_t d (hr5.mono (Hp.le_un _ _)) S7.lend) ?_)
  intro vw8 w8 M7 hle7 S8 hRw8; clear S7
  replace hdcrs := hdcrs.mono hle7
  replace hr1 := hr1.mono hle7
  replace hr2 := hr2.mono hle7
  replace hr5 := hr5.mono hle7
  rcases hRw8 with ⟨hk17, rfl⟩ | ⟨hk17, A6, c6, l2, rfl, hr6, hcan2, hbd2, hmk2⟩
  ·exact absurd hk11 hk17
  ·refine wlm 3 4 rfl rfl rfl rfl rfl rfl rfl (wlo 4 5 rfl rfl rfl (wo_run rfl rfl (run_extract rfl rfl rfl) (wlo 5 6 rfl rfl rfl (wo_run rfl rfl (run_extract rfl rfl rfl) (wla 6 7 rfl rfl rfl rfl rfl rfl rfl (wla 7 8 rfl rfl rfl rfl rfl rfl rfl (wl_end rfl (nmk [1, 3, 4, 5, 6] rfl (nm_thn (ws_seqN HomflyTells_n7 HomflyTells_n8 rfl rfl rfl ?_))))))))))
   refine ws_region rfl (wlo 0 1 rfl rfl rfl (wo_run rfl rfl (run_loadN (us := [_, _]) rfl rfl Tryz.underlying24 rfl sz24 (S8.boxcs (i := 0) rfl ⟨rfl, rfl, trivial⟩)) (wlo 1 2 rfl rfl rfl (wo_ct rfl rfl rfl rfl rfl rfl rfl cf18 S8 (few_t d 8 (hdcrs.mono (Hp.le_un _ _)) S8.lend) ?_))))
   intro vw9 w9 M8 hle8 S9 hRw9; clear S8
   replace hdcrs := hdcrs.mono hle8
   replace hr1 := hr1.mono hle8
   replace hr2 := hr2.mono hle8
   replace hr5 := hr5.mono hle8
   replace hr6 := hr6.mono hle8
   obtain rfl := hRw9
   refine wla 2 3 rfl rfl rfl rfl rfl rfl rfl (wl_end rfl (nmk [1, 3, 4, 5, 6, 7] rfl (nm_thn (ws_seqN HomflyTells_n9 HomflyTells_n10 rfl rfl rfl (ws_seqN HomflyTells_n11 HomflyTells_n12 rfl rfl rfl (ws_region rfl (wlm 0 1 rfl rfl rfl rfl rfl rfl rfl (wlo 1 2 rfl rfl rfl (wo_run rfl rfl (run_neq rfl rfl rfl) ?_)))))))))
   refine wl_end rfl (nmk [1, 3, 4, 5, 6, 7, 23] rfl (nm_thn ?_))
   refine ws_condN HomflyTells_n13 HomflyTells_n14 rfl rfl rfl rfl (fun hb23 => ?_) (fun hb23 => ?_)
   ·replace hb23 := of_decide_eq_true hb23
    exfalso; first | omega | (simp_all; done) | contradiction
   ·replace hb23 := of_decide_eq_false hb23
    refine ws_skip rfl (nmk [1, 3, 4, 5, 6] rfl (nm_thn (ws_seqN HomflyTells_n17 HomflyTells_n18 rfl rfl rfl (ws_region rfl (wlm 0 1 rfl rfl rfl rfl rfl rfl rfl (wlo 1 2 rfl rfl rfl (wo_run rfl rfl (run_eql rfl rfl rfl) (wlm 2 3 rfl rfl rfl rfl rfl rfl rfl ?_))))))))
    refine wl_split (t := 44) rfl (fun hg44 => ?_) (fun hg44 => ?_)
    ·replace hg44 := of_decide_eq_true hg44
     refine wlg 3 4 rfl rfl rfl rfl rfl rfl rfl rfl (wo_run rfl rfl (run_move rfl rfl) (wlg 4 5 rfl rfl rfl rfl rfl rfl rfl rfl (wo_run rfl rfl (run_eql rfl rfl rfl) (wlo 5 6 rfl rfl rfl (wo_run rfl rfl (run_pickT rfl rfl rfl) (wlm 6 7 rfl rfl rfl rfl rfl rfl rfl ?_))))))
     refine wl_split (t := 48) rfl (fun hg48 => ?_) (fun hg48 => ?_)
     ·replace hg48 := of_decide_eq_true hg48
      refine wlg 7 8 rfl rfl rfl rfl rfl rfl rfl rfl (wo_run rfl rfl (run_move rfl rfl) (wlg 8 9 rfl rfl rfl rfl rfl rfl rfl rfl (wo_run rfl rfl (run_loadN (us := [_, _]) rfl rfl Tryz.underlying24 rfl sz24 (S9.boxcs (i := 0) rfl ⟨rfl, rfl, trivial⟩)) (wlg 9 10 rfl rfl rfl rfl rfl rfl rfl rfl (wo_ct rfl rfl rfl rfl rfl rfl rfl cf20 S9 (HomflyOf_all (mu d + 1) d (hdcrs.mono (Hp.le_un _ _)) J (Nat.lt_succ_self _) S9.lend) ?_)))))
      intro vw10 w10 M9 hle9 S10 hRw10; clear S9
      replace hdcrs := hdcrs.mono hle9
      replace hr1 := hr1.mono hle9
      replace hr2 := hr2.mono hle9
      replace hr5 := hr5.mono hle9
      replace hr6 := hr6.mono hle9
      obtain ⟨A7, c7, rfl, hr7⟩ := hRw10
      refine wlg 10 11 rfl rfl rfl rfl rfl rfl rfl rfl (wo_cq rfl rfl rfl rfl rfl rfl rfl cf19 S10 (sameTwos_q (homL (mu d + 1) d) (homL (mu d + 1) d) (hr2.mono (Hp.le_un _ _)) (hr7.mono (Hp.le_un _ _)) (rfl) S10.lend) ?_)
      rintro _ w11 S11 rfl; clear S10
      refine wlo 11 12 rfl rfl rfl (wo_run rfl rfl (run_pickT rfl rfl rfl) (wlm 12 13 rfl rfl rfl rfl rfl rfl rfl (wlg 13 14 rfl rfl rfl rfl rfl rfl rfl rfl (wo_run rfl rfl (run_move rfl rfl) (wlg 14 15 rfl rfl rfl rfl rfl rfl rfl rfl (wo_run rfl rfl (run_loadN (us := [_, _]) rfl rfl Tryz.underlying24 rfl sz24 (S11.boxcs (i := 0) rfl ⟨rfl, rfl, trivial⟩)) (wlg 15 16 rfl rfl rfl rfl rfl rfl rfl rfl (wo_ct rfl rfl rfl rfl rfl rfl rfl cf22 S11 (ConwayOf_t d (hdcrs.mono (Hp.le_un _ _)) J S11.lend) ?_))))))))
      intro vw12 w12 M10 hle10 S12 hRw12; clear S11
      replace hdcrs := hdcrs.mono hle10
      replace hr1 := hr1.mono hle10
      replace hr2 := hr2.mono hle10
      replace hr5 := hr5.mono hle10
      replace hr6 := hr6.mono hle10
      replace hr7 := hr7.mono hle10
      obtain ⟨A8, c8, l3, rfl, hr8, hcan3, hbd3, hmk3⟩ := hRw12
      refine wlg 16 17 rfl rfl rfl rfl rfl rfl rfl rfl (wo_cq rfl rfl rfl rfl rfl rfl rfl cf21 S12 (sameTerms_q l2 l3 (hr6.mono (Hp.le_un _ _)) (hr8.mono (Hp.le_un _ _)) ((can_ext hcan2 hcan3 (hmk2.trans hmk3.symm))) S12.lend) ?_)
      rintro _ w13 S13 rfl; clear S12
      refine wlo 17 18 rfl rfl rfl (wo_run rfl rfl (run_pickT rfl rfl rfl) (wla 18 19 rfl rfl rfl rfl rfl rfl rfl (wl_end rfl (nmk [2] rfl (nm_thn (ws_ret hC [_] rfl rfl ⟨rfl, trivial⟩ ?_))))))
      refine ⟨_, rfl, _, (((((hle1.trans hle2).trans hle6).trans hle7).trans hle8).trans hle9).trans hle10, (S13.pick [] [] (by decide) trivial), ?_⟩
      show Value.bool _ = _
      refine congrArg Value.bool ?_
      first | rfl | (rw [decide_eq_true_iff]; omega) | (simp_all; done)
     ·replace hg48 := of_decide_eq_false hg48
      exfalso; first | omega | (simp_all; done) | contradiction
    ·replace hg44 := of_decide_eq_false hg44
     exfalso; first | omega | (simp_all; done) | contradiction
end Go.Proofs.YthppkofceancjaaGreat
namespace Go.Proofs.YthppkofceancjaaGreat
open Go.ChangeShapes Go.WideShapes Go.ChangeAt Go.RowKit Go.Joins Go.Deep
theorem sized_in {H : Type} {P : Program} {ts : List TypeId} {ds : List (DataW H)} (h : (DataW.weightsEach P ts ds).all (· ≤ reachBytes) = true) {j i : Nat} {t e : TypeId} {f : Field} {fs : Array Field} {parts : List (DataW H)} {elems spare : List (DataW H)}
    (ht : ts[j]? = some t) (hd : ds[j]? = some (.agg parts)) (hu : P.underlying t = some (.struct fs)) (hf : fs.toList[i]? = some f) (hp : parts[i]? = some (.slice elems spare)) (he : P.underlying f.type = some (.slice e)) :
    (elems.length + spare.length) * P.bytesOf e ≤ reachBytes := by
  have m1 := DataW.weights_mem_each (P := P) (ts := fs.toList.map (·.type)) (j := i) (t := f.type) (by rw [List.getElem?_map, hf]; rfl) hp ((elems.length + spare.length) * P.bytesOf e) (by simp [DataW.weights, he])
  have m2 := DataW.weights_mem_each (P := P) ht hd ((elems.length + spare.length) * P.bytesOf e) (by simp only [DataW.weights, hu]; exact m1)
  simpa using List.all_eq_true.1 h _ m2
theorem len5 (l : List Cr) : (l.flatMap codCr.f).length = l.length * 5 := by
  induction l with
  | nil => rfl
  | cons x l ih => rw [List.flatMap_cons, List.length_append, ih, codCr.hf, List.length_cons]; show 5 + _ = _; omega
theorem take1 {l : List Value} {j : Nat} {u : Value} (h : (l.drop j).take 1 = [u]) : l[j]? = some u := by
  have := congrArg (fun z => z[0]?) h
  simpa [List.getElem?_take, List.getElem?_drop] using this
theorem pick {α : Type} [Inhabited α] {m : Nat} {Q : Nat → α → Prop} (h : ∀ i, i < m → ∃ x, Q i x) : ∃ F : Nat → α, ∀ i, i < m → Q i (F i) :=
  ⟨fun i => if hi : i < m then (h i hi).choose else default, fun i hi => by
    show Q i (if hi : i < m then (h i hi).choose else default)
    rw [dif_pos hi]; exact (h i hi).choose_spec⟩
section
variable {H : Type} {enc : TypeId × Value → H} {w : World}
theorem f_int {n j : Nat} {cs : List Value} {y : DataW H × List MemPlace} (h : DataW.trod enc Tryz.prog w 0 (fun _ => true) true n 3 ((cs.drop j).take (Tryz.prog.cellsOf 3)) = some y) : ∃ a, cs[j]? = some (.int .i64 a) := by
  obtain ⟨a, e, _⟩ := DataW.trod_int Tryz.underlying3 h
  rw [show Tryz.prog.cellsOf 3 = 1 by kernel_rfl] at e
  exact ⟨a, take1 e⟩
theorem f_bool {n j : Nat} {cs : List Value} {y : DataW H × List MemPlace} (h : DataW.trod enc Tryz.prog w 0 (fun _ => true) true n 4 ((cs.drop j).take (Tryz.prog.cellsOf 4)) = some y) : ∃ a, cs[j]? = some (.bool a) := by
  obtain ⟨a, e, _⟩ := DataW.trod_bool Tryz.underlying4 h
  rw [show Tryz.prog.cellsOf 4 = 1 by kernel_rfl] at e
  exact ⟨a, take1 e⟩
set_option maxRecDepth 100000 in
theorem open_cr {n : Nat} {cs : List Value} {x : DataW H × List MemPlace} (h : DataW.trod enc Tryz.prog w 0 (fun _ => true) true n 77 cs = some x) : ∃ c : Cr, ∀ j u, j < 5 → (crF c)[j]? = some u → cs[j]? = some u := by
  obtain ⟨xs, k, _, _, _, hl, hf⟩ := DataW.trod_struct Tryz.underlying77 h
  match xs, hl with
  | [y0, y1, y2, y3, y4], _ =>
    have g0 := hf 0 _ rfl
    have g1 := hf 1 _ rfl
    have g2 := hf 2 _ rfl
    have g3 := hf 3 _ rfl
    have g4 := hf 4 _ rfl
    obtain ⟨n0, e0⟩ := f_int (j := 0) (y := y0) g0
    obtain ⟨n1, e1⟩ := f_int (j := 1) (y := y1) g1
    obtain ⟨n2, e2⟩ := f_int (j := 2) (y := y2) g2
    obtain ⟨n3, e3⟩ := f_int (j := 3) (y := y3) g3
    obtain ⟨n4, e4⟩ := f_bool (j := 4) (y := y4) g4
    refine ⟨⟨n0, n1, n2, n3, n4⟩, fun j u hj hu => ?_⟩
    match j, hj with
    | 0, _ => simp [crF] at hu; subst hu; exact e0
    | 1, _ => simp [crF] at hu; subst hu; exact e1
    | 2, _ => simp [crF] at hu; subst hu; exact e2
    | 3, _ => simp [crF] at hu; subst hu; exact e3
    | 4, _ => simp [crF] at hu; subst hu; exact e4
set_option maxRecDepth 100000 in
theorem open_Dg {v : Value} {d : DataW H} {p : List MemPlace} {b0 : Nat} (hv : Value.okWide Tryz.prog w .any b0 24 v) (h : DataW.Trod enc Tryz.prog w 0 (fun _ => true) true 24 v d p) (hlt : ∀ x ∈ p, x.block < w.heap.size)
    {ts : List TypeId} {ds : List (DataW H)} (hsz : (DataW.weightsEach Tryz.prog ts ds).all (· ≤ reachBytes) = true) {j : Nat} (hj : ts[j]? = some 24) (hd : ds[j]? = some d) :
    ∃ g : Dg, IsDg w w.heap.size v g := by
  obtain ⟨v0, v1, y0, y1, n, rfl, rfl, rfl, t0, t1⟩ := open_agg2 Tryz.underlying24 (by kernel_rfl) (by kernel_rfl) hv h
  obtain ⟨l, e1, _, _⟩ := DataW.trod_int Tryz.underlying3 t1
  injection e1 with e1
  subst e1
  have hs := fun es sp (hp : y0.1 = .slice es sp) => sized_in hsz hj hd Tryz.underlying24 (i := 0) rfl (by rw [List.getElem?_cons_zero, hp]) Tryz.underlying22
  rcases open_slice Tryz.underlying22 t0 with ⟨hcs, hx⟩ | ⟨a, len, cap, m, k, D, Pl, hcs, hb, hl, hm, hmm, hx, hi⟩
  · injection hcs with hcs
    subst hcs
    exact ⟨⟨[], l⟩, none, 0, rfl, Nat.le_refl _, Rd.nil_⟩
  · injection hcs with hcs
    subst hcs
    have hk : Tryz.prog.cellsOf 77 = 5 := by kernel_rfl
    have hby : Tryz.prog.bytesOf 77 = 40 := by kernel_rfl
    have hs := hs _ _ (by rw [hx])
    rw [hby] at hs
    simp only [if_true] at hmm
    subst hmm
    simp only [List.length_map, List.length_range, reachBytes] at hs
    obtain ⟨F, hF⟩ := pick (m := m) (Q := fun i (c : Cr) => ∀ j u, j < 5 → (crF c)[j]? = some u → w.cell? (a.add (i * 5 + j)) = some u) (fun i him => by
      obtain ⟨cs', hc, ht'⟩ := hi i him
      rw [hk] at hc
      obtain ⟨c, hc'⟩ := open_cr ht'
      obtain ⟨_, hcl, hat⟩ := World.cells?_some hc
      refine ⟨c, fun j u hj hu => ?_⟩
      rw [← Go.Deep.add_add, hat j hj]
      exact hc' j u hj hu)
    have hlen : ((List.range len).map F).length = len := by simp
    refine ⟨⟨(List.range len).map F, l⟩, some a, m, by rw [hlen], by rw [hlen]; exact hl, ?_⟩
    refine ⟨len5 _, by show _ * 40 ≤ _; rw [hlen]; omega, fun h0 => ?_⟩
    rw [hlen] at h0
    obtain ⟨b, off, spot⟩ := a
    have hspot : spot = none := by simpa [Addr.add] using World.cell?_spot (hF 0 (by omega) 0 _ (by omega) rfl)
    subst hspot
    refine ⟨b, off, rfl, hlt (.cell b off) (List.mem_append_left _ (by rw [hx]; exact List.mem_append_left _ (MemPlace.mem_row.2 ⟨0, by rw [hk]; omega, by simp⟩))), fun i u hu => ?_⟩
    have hil : i < len * 5 := by
      have := (List.getElem?_eq_some_iff.1 hu).1
      rw [len5, hlen] at this
      exact this
    have hu' := hu
    rw [show i = (i / 5) * 5 + i % 5 by omega] at hu'
    rw [show (5 : Nat) = codCr.k from rfl, flat_get codCr.hf (by rw [hlen]; show i / 5 < len; omega) (by show i % 5 < 5; omega)] at hu'
    have := hF (i / 5) (by omega) (i % 5) u (by omega) (by simpa [codCr] using hu')
    rw [show (i / 5) * 5 + i % 5 = i by omega] at this
    rcases Nat.eq_zero_or_pos i with h1 | h1
    · subst h1; simpa [Addr.add] using this
    · simpa [Addr.add, show ¬ i = 0 by omega] using this
end
end Go.Proofs.YthppkofceancjaaGreat
namespace Go.Proofs.YthppkofceancjaaGreat
open Go.ChangeShapes Go.WideShapes Go.ChangeAt Go.RowKit
theorem RdA.of_sl {α : Type} {C : Cd α} {w : World} {B c : Nat} {A : Option Addr} {xs : List α} (hc : xs.length ≤ c) (hk : 0 < C.k) (h : Sl w B C.k C.u8 A xs.length (xs.flatMap C.f)) : RdA C (hp w) A c xs := by
  refine ⟨hc, h.2.1, fun h0 => ?_⟩
  obtain ⟨b, off, rfl, _, hat⟩ := h.2.2 h0
  refine ⟨rfl, ?_⟩
  have hlen : 0 < (xs.flatMap C.f).length := by rw [flat_len C.hf]; exact Nat.mul_pos h0 hk
  have h1 := hat 0 _ (List.getElem?_eq_getElem hlen)
  show ∃ cs T fz, w.heap[b]? = some (.cells cs T fz) ∧ ∀ j u, (xs.flatMap C.f)[j]? = some u → cs[off + j]? = some u
  unfold World.cell? at h1
  split at h1
  · rename_i cs T fz hb
    refine ⟨cs, T, fz, hb, fun j u hu => ?_⟩
    have := hat j u hu
    rw [cell_of_row w b _ cs T fz hb] at this
    exact this
  · cases h1
theorem IsDg.rd {w : World} {B : Nat} {v : Value} {d : Dg} (h : IsDg w B v d) : ∃ A c, v = .agg [.slice A d.crs.length c, .int .i64 d.loops].toArray ∧ RdA cdCr (hp w) A c d.crs := by
  obtain ⟨A, c, rfl, hc, h⟩ := h
  exact ⟨A, c, rfl, RdA.of_sl (C := cdCr) hc (by decide) h⟩
end Go.Proofs.YthppkofceancjaaGreat
namespace Go.Proofs.YthppkofceancjaaGreat
open Go.ChangeShapes Go.WideShapes Go.ChangeAt Go.RowKit
theorem lawHomflyTells (u : Value) (a : Dg) (W : World) (ha : IsDg W W.heap.size u a) :
    Calls Tryz.prog 6 #[u] W fun e W' => e = .returned (.bool true) ∧ Below W.heap.size W W' := by
  obtain ⟨A, c, rfl, ha'⟩ := ha.rd
  exact law_of_ct (HomflyTells_t a ha' (SH.start W))
set_option maxRecDepth 100000 in
theorem homflyTells_lifted (os : Os) (started : os.Started) (H : Type) (enc : TypeId × Value → H) :
    ReturnsInHanded {} Tryz.checked os 6 .any (Rows.homflyTellsSpec.pre6 enc Tryz.prog Tryz.f6 Rows.homflyTellsRow.domain false) (Rows.homflyTellsSpec.post enc Tryz.prog Tryz.f6 false true false false) := by
  refine law_lift (C := Tryz.checked) (tb := 4) (by kernel_rfl) started (by kernel_rfl) Tryz.func6
    (ChangeSpec.witness6 (enc := enc) (C := Tryz.checked) false ⟨#[], #[.agg #[.slice none 0 0, .int .i64 0]], []⟩ 8 (by kernel_rfl) (by kernel_rfl) (by kernel_rfl) (by kernel_rfl))
    rfl (by kernel_rfl) (by kernel_rfl) rfl Tryz.underlying4 ?_ ?_
  · intro ds hds
    match ds, hds with
    | [d0], _ => rfl
  · intro W base args ds p hval hA _ hlt hsz
    rw [Tryz.params6] at hA hval hsz
    obtain ⟨v0, vs0, d0, ds0, p0, q0, hargs, rfl, rfl, h0, r0⟩ := trodAll_cons hA
    obtain ⟨rfl, rfl, rfl⟩ := trodAll_nil r0
    obtain rfl : args = #[v0] := by cases args; simp_all
    obtain ⟨a0, i0⟩ := open_Dg (hval 0 24 v0 rfl rfl) h0 (fun x hx => hlt x (by simp [hx])) hsz (j := 0) rfl rfl
    exact lawHomflyTells v0 a0 W i0
theorem homflyTells_holds : Rows.HomflyTellsSaid :=
  OpenClaim.holds_of_wide 6 Tryz.f6 rfl rfl rfl rfl rfl rfl rfl ⟨rfl, rfl, rfl, rfl, rfl⟩ rfl rfl rfl rfl rfl (by kernel_rfl) Tryz.func6 (by kernel_rfl)
    (of_decide_eq_true (by kernel_rfl)) (by unfold Func.isWrapper; first | (rw [if_pos (by decide +kernel)]; kernel_rfl) | (rw [if_neg (by decide +kernel)]; exact ⟨rfl, rfl⟩))
    (fun os started H enc _ => homflyTells_lifted os started H enc)
#print axioms homflyTells_holds
end Go.Proofs.YthppkofceancjaaGreat
