/- Walks printed by eng.py. -/
import Derived.Test.YthfiblbkkjcliaaB1
set_option linter.unusedSimpArgs false
set_option linter.unusedVariables false
namespace Go.Proofs.Ythfiblbkkjcliaa
open Go.ChangeShapes Go.WideShapes Go.ChangeAt Go.RowKit
/-- A list of numbers is told. -/
def IsE (xs : List Int) (u : Value) (M : Hp) : Prop := ∃ A c, u = .slice A xs.length c ∧ RdA cdInt M A c xs
/-- One letter behind a word. -/
def pushW (xs : List Int) (a : Int) : List Int := if 0 < xs.length ∧ ga xs (xs.length - 1) = -a then xs.take (xs.length - 1) else xs ++ [a]
/-- Letters are small. -/
def smW (xs : List Int) : Prop := ∀ i, i < xs.length → -100 < ga xs i ∧ ga xs i < 100
def gluW (xs ys : List Int) : List Int := ys.foldl pushW xs
def invW (xs : List Int) : List Int := xs.reverse.map (- ·)
theorem pushW_len (xs : List Int) (a : Int) : (pushW xs a).length ≤ xs.length + 1 := by
  unfold pushW; split
  · simp; omega
  · simp
theorem gluW_len (xs ys : List Int) : (gluW xs ys).length ≤ xs.length + ys.length := by
  unfold gluW
  induction ys generalizing xs with
  | nil => simp
  | cons y ys ih => have h1 := ih (pushW xs y); have h2 := pushW_len xs y; simp only [List.foldl_cons, List.length_cons]; omega
theorem gluW_take (xs ys : List Int) (k : Nat) (h : k < ys.length) : gluW xs (ys.take (k + 1)) = pushW (gluW xs (ys.take k)) (ga ys k) := by
  unfold gluW; rw [take_ga ys k h, List.foldl_append]; rfl
theorem nil_of_none {N : Hp} {A : Option Addr} {c : Nat} {s : List Int} (h : RdA cdInt N A c s) (hn : Option.isNone A = true) : s = [] := by
  cases s with
  | nil => rfl
  | cons y ys => have := (h.2.2 (by simp)).1; rw [this] at hn; cases hn
theorem smW.take_ {xs : List Int} (h : smW xs) (k : Nat) : smW (xs.take k) := fun i hi => by
  rw [List.length_take] at hi; rw [ga_take _ _ _ (by omega)]; exact h i (by omega)
theorem smW.snoc_ {xs : List Int} (h : smW xs) {a : Int} (ha : -100 < a ∧ a < 100) : smW (xs ++ [a]) := fun i hi => by
  rw [List.length_append, List.length_singleton] at hi
  by_cases h1 : i < xs.length
  · rw [ga_append_left _ _ _ h1]; exact h i h1
  · rw [ga_append_right _ _ _ (by omega), show i - xs.length = 0 by omega]; exact ha
theorem smW.push_ {xs : List Int} (h : smW xs) {a : Int} (ha : -100 < a ∧ a < 100) : smW (pushW xs a) := by
  unfold pushW; split
  · exact h.take_ _
  · exact h.snoc_ ha
def totW (l : List (List Int)) : Nat := (l.map List.length).sum
def prodW (l : List (List Int)) : List Int := l.foldl gluW []
theorem totW_take (l : List (List Int)) (i : Nat) (h : i < l.length) : totW (l.take i) + (ga l i).length = totW (l.take (i + 1)) := by
  unfold totW; rw [take_ga _ _ h]; simp
theorem totW_le (l : List (List Int)) (i : Nat) : totW (l.take i) ≤ totW l := by
  have h : totW (l.take i) + totW (l.drop i) = totW l := by
    unfold totW; rw [← List.sum_append, ← List.map_append, List.take_append_drop]
  omega
theorem prodW_take (l : List (List Int)) (i : Nat) (h : i < l.length) : prodW (l.take (i + 1)) = gluW (prodW (l.take i)) (ga l i) := by
  unfold prodW; rw [take_ga _ _ h, List.foldl_append]; rfl
theorem prodW_len (l : List (List Int)) : (prodW l).length ≤ totW l := by
  have h : ∀ (l : List (List Int)) (xs : List Int), (l.foldl gluW xs).length ≤ xs.length + totW l := by
    intro l
    induction l with
    | nil => intro xs; simp [totW]
    | cons y ys ih =>
      intro xs
      have h1 := ih (gluW xs y)
      have h2 := gluW_len xs y
      have h3 : totW (y :: ys) = y.length + totW ys := by simp [totW]
      simp only [List.foldl_cons]; omega
  have := h l []
  simpa [prodW] using this
theorem invW_len (xs : List Int) : (invW xs).length = xs.length := by simp [invW]
theorem invW_ga (xs : List Int) (i : Nat) (h : i < xs.length) : ga (invW xs) i = - ga xs (xs.length - 1 - i) := by
  unfold invW
  rw [ga_map _ _ _ (by simpa using h), ga_eq (by simpa using h), ga_eq (by omega)]; simp

noncomputable def IndexP_n0 : Code := Try.f41.body.getD .skip
noncomputable def IndexP_n1 : Code := cL IndexP_n0
noncomputable def IndexP_n2 : Code := cR IndexP_n0
noncomputable def IndexP_n3 : Code := cL IndexP_n2
noncomputable def IndexP_n4 : Code := cR IndexP_n2
noncomputable def IndexP_n5 : Code := cL IndexP_n3
noncomputable def IndexP_n6 : Code := cR IndexP_n3
noncomputable def IndexP_n7 : Code := cL IndexP_n6
noncomputable def IndexP_n8 : Code := cL IndexP_n7
noncomputable def IndexP_n9 : Code := cL IndexP_n8
noncomputable def IndexP_n10 : Code := cR IndexP_n8
noncomputable def IndexP_n11 : Code := cL IndexP_n10
noncomputable def IndexP_n12 : Code := cR IndexP_n10
noncomputable def IndexP_n13 : Code := cL IndexP_n11
noncomputable def IndexP_n14 : Code := cR IndexP_n11
noncomputable def IndexP_n15 : Code := cL IndexP_n12
noncomputable def IndexP_n16 : Code := cR IndexP_n12
noncomputable def IndexP_n17 : Code := cL IndexP_n15
noncomputable def IndexP_n18 : Code := cL IndexP_n17
noncomputable def IndexP_n19 : Code := cR IndexP_n17
noncomputable def IndexP_n20 : Code := cL IndexP_n19
noncomputable def IndexP_n21 : Code := cR IndexP_n19
noncomputable def IndexP_n22 : Code := cL IndexP_n21
noncomputable def IndexP_n23 : Code := cR IndexP_n21
noncomputable def IndexP_n24 : Code := cL IndexP_n22
noncomputable def IndexP_n25 : Code := cR IndexP_n22
noncomputable def IndexP_n26 : Code := cL IndexP_n4
noncomputable def IndexP_n27 : Code := cR IndexP_n4
set_option maxRecDepth 10000 in
theorem IndexP_q {w : World} {M : Hp} {X : Fr} (s : List Int) {sA : Option Addr} {sc : Nat} (v : Int) (hs : RdA cdInt (M.un X.h) sA sc s) (S : SH w M X []) : Cq Try.prog 41 [.slice sA s.length sc, .int .i64 v] w M X (fun u => u = .int .i64 (idxF (fun x => decide (x = v)) s)) := by
  unfold Cq
  have rmhs : s.length * 8 ≤ 140737488355328 := hs.room
  refine calls_in (b := IndexP_n0) Try.func41 rfl Try.ntmps41 rfl (fun C hC => ?_)
  refine ws_sub [(0, _), (1, _)] ⟨rfl, rfl, trivial⟩ ?_
  refine ws_seqN IndexP_n1 IndexP_n2 rfl rfl rfl ?_
  refine ws_region rfl ?_
  refine wl_op (k := 0) (k' := 1) rfl rfl rfl (wo_run rfl rfl (run_assign rfl rfl) ?_)
  refine wl_end rfl ?_
  refine nm_sub [(0, _), (1, _)] ⟨rfl, rfl, trivial⟩ ?_
  refine nm_thn ?_
  refine ws_seqN IndexP_n3 IndexP_n4 rfl rfl rfl ?_
  refine ws_seqN IndexP_n5 IndexP_n6 rfl rfl rfl ?_
  refine ws_region rfl ?_
  refine wl_op (k := 0) (k' := 1) rfl rfl rfl (wo_run rfl rfl (run_move rfl rfl) ?_)
  refine wl_op (k := 1) (k' := 2) rfl rfl rfl (wo_run rfl rfl (run_len rfl rfl rfl rfl rfl rfl Try.underlying50) ?_)
  refine wl_op (k := 2) (k' := 3) rfl rfl rfl (wo_run rfl rfl (run_move rfl rfl) ?_)
  refine wl_end rfl ?_
  refine nm_sub [(0, _), (1, _), (7, _), (8, _)] ⟨rfl, rfl, rfl, rfl, trivial⟩ ?_
  refine nm_thn ?_
  refine ws_blockN IndexP_n7 0 rfl rfl rfl ?_
  refine ws_loopE (fun mx_ ax_ wx_ => ∃ (k : Nat), mx_ = s.length - k ∧ Env 19 [(0, .slice sA s.length sc), (1, .int .i64 v), (7, .int .i64 (s.length : Int)), (8, .int .i64 (k : Int))] ax_ ∧ SH wx_ M X [] ∧ k ≤ s.length ∧ (∀ j, j < k → ga s j ≠ v)) rfl ?_ ?_
  · intro ax_ hax_
    refine ⟨_, ⟨0, rfl, hax_.sub ⟨rfl, rfl, rfl, rfl, trivial⟩, S.pick [] [] (by decide) trivial, ?hq1f0, ?hq1f1⟩⟩
    case hq1f0 => omega
    case hq1f1 => (intro j hj; omega)
  · rintro m1 a1 w1 ⟨k, rfl, he1, S1, hk, hno⟩
    clear S
    refine ws_in he1 (c := IndexP_n8) rfl ?_
    clear he1 a1
    refine ws_seqN IndexP_n9 IndexP_n10 rfl rfl rfl ?_
    refine ws_region rfl ?_
    refine wl_op (k := 0) (k' := 1) rfl rfl rfl (wo_run rfl rfl (run_lss rfl rfl rfl) ?_)
    refine wl_end rfl ?_
    refine nm_thn ?_
    refine ws_seqN IndexP_n11 IndexP_n12 rfl rfl rfl ?_
    refine ws_condN IndexP_n13 IndexP_n14 rfl rfl rfl rfl (fun hb9 => ?_) (fun hb9 => ?_)
    · have hb9 := of_decide_eq_true hb9
      refine ws_skip rfl ?_
      refine nm_sub [(0, _), (1, _), (7, _), (8, _)] ⟨rfl, rfl, rfl, rfl, trivial⟩ ?_
      refine nm_thn ?_
      refine ws_seqN IndexP_n15 IndexP_n16 rfl rfl rfl ?_
      refine ws_blockN IndexP_n17 1 rfl rfl rfl ?_
      refine ws_seqN IndexP_n18 IndexP_n19 rfl rfl rfl ?_
      refine ws_region rfl ?_
      refine wl_op (k := 0) (k' := 1) rfl rfl rfl (wo_run rfl rfl (run_move rfl rfl) ?_)
      refine wl_op (k := 1) (k' := 2) rfl rfl rfl (wo_run rfl rfl (run_assign rfl rfl) ?_)
      refine wl_end rfl ?_
      refine nm_sub [(0, _), (1, _), (7, _), (8, _), (5, _)] ⟨rfl, rfl, rfl, rfl, rfl, trivial⟩ ?_
      refine nm_thn ?_
      refine ws_seqN IndexP_n20 IndexP_n21 rfl rfl rfl ?_
      refine ws_region rfl ?_
      refine wl_op (k := 0) (k' := 1) rfl rfl rfl (wo_run rfl rfl (run_move rfl rfl) ?_)
      refine wl_op (k := 1) (k' := 2) rfl rfl rfl (wo_run rfl rfl (run_move rfl rfl) ?_)
      refine wl_op (k := 2) (k' := 3) rfl rfl rfl (wo_run rfl rfl (run_move rfl rfl) ?_)
      refine wl_op (k := 3) (k' := 4) rfl rfl rfl (wo_run rfl rfl (run_indexM (C := cdInt) k rfl rfl rfl sl50 (by first | rfl | omega) hs (by first | omega | (simp only [List.length_set, List.length_append, List.length_replicate, List.length_singleton, List.length_cons, List.length_nil]; omega))) ?_)
      refine wl_op (k := 4) (k' := 5) rfl rfl rfl (wo_run rfl rfl (run_load1 rfl rfl Try.underlying3 rfl (hs.cell S1.um (i := k) (by first | omega | (simp only [List.length_set, List.length_append, List.length_replicate, List.length_singleton, List.length_cons, List.length_nil]; omega)) 0 rfl rfl)) ?_)
      refine wl_op (k := 5) (k' := 6) rfl rfl rfl (wo_run rfl rfl (run_eql rfl rfl rfl) ?_)
      refine wl_end rfl ?_
      refine nm_sub [(0, _), (1, _), (7, _), (8, _), (5, _), (16, _)] ⟨rfl, rfl, rfl, rfl, rfl, rfl, trivial⟩ ?_
      refine nm_thn ?_
      refine ws_condN IndexP_n22 IndexP_n23 rfl rfl rfl rfl (fun hb16 => ?_) (fun hb16 => ?_)
      · have hb16 := of_decide_eq_true hb16
        refine ws_seqN IndexP_n24 IndexP_n25 rfl rfl rfl ?_
        refine ws_region rfl ?_
        refine wl_op (k := 0) (k' := 1) rfl rfl rfl (wo_run rfl rfl (run_move rfl rfl) ?_)
        refine wl_op (k := 1) (k' := 2) rfl rfl rfl (wo_run rfl rfl (run_assign rfl rfl) ?_)
        refine wl_end rfl ?_
        refine nm_sub [(4, _)] ⟨rfl, trivial⟩ ?_
        refine nm_thn ?_
        refine ws_ret hC [_] rfl rfl ⟨rfl, trivial⟩ ?_
        exact ⟨_, rfl, (S1.pick [] [] (by decide) trivial), (by rw [idxF_hit (k := k) (by omega) (by rw [decide_eq_true_iff]; omega) (fun j hj => decide_eq_false (hno j hj))]; rfl)⟩
      · have hb16 := of_decide_eq_false hb16
        refine ws_skip rfl ?_
        refine nm_blk ?_
        refine nm_sub [(0, _), (1, _), (7, _), (8, _)] ⟨rfl, rfl, rfl, rfl, trivial⟩ ?_
        refine nm_thn ?_
        refine ws_region rfl ?_
        refine wl_op (k := 0) (k' := 1) rfl rfl rfl (wo_run rfl rfl (run_add rfl rfl rfl (by first | omega | (simp only [List.length_set, List.length_append, List.length_replicate, List.length_singleton, List.length_cons, List.length_nil]; omega))) ?_)
        refine wl_op (k := 1) (k' := 2) rfl rfl rfl (wo_run rfl rfl (run_move rfl rfl) ?_)
        refine wl_end rfl ?_
        refine nm_lp ?_
        intro ax_ hax_
        refine ⟨_, ?hq2m, ⟨k + 1, rfl, hax_.sub ⟨rfl, rfl, rfl, rfl, trivial⟩, S1.pick [] [] (by decide) trivial, ?hq2f0, ?hq2f1⟩⟩
        case hq2f0 => first | assumption | omega
        case hq2f1 => (intro j hj; by_cases h : j = k; (subst h; omega); exact hno j (by omega))
        case hq2m => omega
    · have hb9 := of_decide_eq_false hb9
      refine ws_exit rfl rfl ?_
      refine nm_sub [] trivial ?_
      refine nm_thn ?_
      refine ws_seqN IndexP_n26 IndexP_n27 rfl rfl rfl ?_
      refine ws_region rfl ?_
      refine wl_op (k := 0) (k' := 1) rfl rfl rfl (wo_run rfl rfl (run_assign rfl rfl) ?_)
      refine wl_end rfl ?_
      refine nm_thn ?_
      refine ws_ret hC [_] rfl rfl ⟨rfl, trivial⟩ ?_
      exact ⟨_, rfl, (S1.pick [] [] (by decide) trivial), (by rw [idxF_none (fun j hj => decide_eq_false (hno j (by omega)))]; rfl)⟩

noncomputable def abs_n0 : Code := Try.f29.body.getD .skip
noncomputable def abs_n1 : Code := cL abs_n0
noncomputable def abs_n2 : Code := cR abs_n0
noncomputable def abs_n3 : Code := cL abs_n2
noncomputable def abs_n4 : Code := cR abs_n2
noncomputable def abs_n5 : Code := cL abs_n3
noncomputable def abs_n6 : Code := cR abs_n3
noncomputable def abs_n7 : Code := cL abs_n6
noncomputable def abs_n8 : Code := cR abs_n6
noncomputable def abs_n9 : Code := cL abs_n7
noncomputable def abs_n10 : Code := cR abs_n7
noncomputable def abs_n11 : Code := cL abs_n4
noncomputable def abs_n12 : Code := cR abs_n4
set_option maxRecDepth 10000 in
theorem abs_q {w : World} {M : Hp} {X : Fr} (a : Int) (ha : -9223372036854775808 < a) (S : SH w M X []) : Cq Try.prog 29 [.int .i64 a] w M X (fun u => u = .int .i64 (max a (-a))) := by
  unfold Cq
  refine calls_in (b := abs_n0) Try.func29 rfl Try.ntmps29 rfl (fun C hC => ?_)
  refine ws_sub [(0, _)] ⟨rfl, trivial⟩ ?_
  refine ws_seqN abs_n1 abs_n2 rfl rfl rfl ?_
  refine ws_region rfl ?_
  refine wl_op (k := 0) (k' := 1) rfl rfl rfl (wo_run rfl rfl (run_assign rfl rfl) ?_)
  refine wl_end rfl ?_
  refine nm_sub [(0, _)] ⟨rfl, trivial⟩ ?_
  refine nm_thn ?_
  refine ws_seqN abs_n3 abs_n4 rfl rfl rfl ?_
  refine ws_seqN abs_n5 abs_n6 rfl rfl rfl ?_
  refine ws_region rfl ?_
  refine wl_op (k := 0) (k' := 1) rfl rfl rfl (wo_run rfl rfl (run_move rfl rfl) ?_)
  refine wl_op (k := 1) (k' := 2) rfl rfl rfl (wo_run rfl rfl (run_lss rfl rfl rfl) ?_)
  refine wl_end rfl ?_
  refine nm_sub [(0, _), (4, _)] ⟨rfl, rfl, trivial⟩ ?_
  refine nm_thn ?_
  refine ws_condN abs_n7 abs_n8 rfl rfl rfl rfl (fun hb4 => ?_) (fun hb4 => ?_)
  · have hb4 := of_decide_eq_true hb4
    refine ws_seqN abs_n9 abs_n10 rfl rfl rfl ?_
    refine ws_region rfl ?_
    refine wl_op (k := 0) (k' := 1) rfl rfl rfl (wo_run rfl rfl (run_move rfl rfl) ?_)
    refine wl_op (k := 1) (k' := 2) rfl rfl rfl (wo_run rfl rfl (run_neg rfl rfl (by first | omega | (simp only [List.length_set, List.length_append, List.length_replicate, List.length_singleton, List.length_cons, List.length_nil]; omega))) ?_)
    refine wl_op (k := 2) (k' := 3) rfl rfl rfl (wo_run rfl rfl (run_assign rfl rfl) ?_)
    refine wl_end rfl ?_
    refine nm_sub [(2, _)] ⟨rfl, trivial⟩ ?_
    refine nm_thn ?_
    refine ws_ret hC [_] rfl rfl ⟨rfl, trivial⟩ ?_
    exact ⟨_, rfl, (S.pick [] [] (by decide) trivial), (by show Value.int _ _ = Value.int _ _; congr 1; omega)⟩
  · have hb4 := of_decide_eq_false hb4
    refine ws_skip rfl ?_
    refine nm_sub [(0, _)] ⟨rfl, trivial⟩ ?_
    refine nm_thn ?_
    refine ws_seqN abs_n11 abs_n12 rfl rfl rfl ?_
    refine ws_region rfl ?_
    refine wl_op (k := 0) (k' := 1) rfl rfl rfl (wo_run rfl rfl (run_move rfl rfl) ?_)
    refine wl_op (k := 1) (k' := 2) rfl rfl rfl (wo_run rfl rfl (run_assign rfl rfl) ?_)
    refine wl_end rfl ?_
    refine nm_sub [(2, _)] ⟨rfl, trivial⟩ ?_
    refine nm_thn ?_
    refine ws_ret hC [_] rfl rfl ⟨rfl, trivial⟩ ?_
    exact ⟨_, rfl, (S.pick [] [] (by decide) trivial), (by show Value.int _ _ = Value.int _ _; congr 1; omega)⟩

noncomputable def reciprocal_n0 : Code := Try.f27.body.getD .skip
noncomputable def reciprocal_n1 : Code := cL reciprocal_n0
noncomputable def reciprocal_n2 : Code := cR reciprocal_n0
noncomputable def reciprocal_n3 : Code := cL reciprocal_n2
noncomputable def reciprocal_n4 : Code := cR reciprocal_n2
noncomputable def reciprocal_n5 : Code := cL reciprocal_n4
noncomputable def reciprocal_n6 : Code := cR reciprocal_n4
noncomputable def reciprocal_n7 : Code := cL reciprocal_n5
noncomputable def reciprocal_n8 : Code := cR reciprocal_n5
noncomputable def reciprocal_n9 : Code := cL reciprocal_n8
noncomputable def reciprocal_n10 : Code := cL reciprocal_n9
noncomputable def reciprocal_n11 : Code := cL reciprocal_n10
noncomputable def reciprocal_n12 : Code := cR reciprocal_n10
noncomputable def reciprocal_n13 : Code := cL reciprocal_n12
noncomputable def reciprocal_n14 : Code := cR reciprocal_n12
noncomputable def reciprocal_n15 : Code := cL reciprocal_n13
noncomputable def reciprocal_n16 : Code := cR reciprocal_n13
noncomputable def reciprocal_n17 : Code := cL reciprocal_n14
noncomputable def reciprocal_n18 : Code := cR reciprocal_n14
noncomputable def reciprocal_n19 : Code := cL reciprocal_n17
noncomputable def reciprocal_n20 : Code := cL reciprocal_n19
noncomputable def reciprocal_n21 : Code := cR reciprocal_n19
noncomputable def reciprocal_n22 : Code := cL reciprocal_n6
noncomputable def reciprocal_n23 : Code := cR reciprocal_n6
set_option maxRecDepth 10000 in
theorem reciprocal_t {w : World} {M : Hp} {X : Fr} (s : List Int) {sA : Option Addr} {sc : Nat} (hs : RdA cdInt (M.un X.h) sA sc s) (hv : smW s) (S : SH w M X []) : Ct Try.prog 27 [.slice sA s.length sc] w M X (IsE (invW s)) := by
  unfold Ct
  have rmhs : s.length * 8 ≤ 140737488355328 := hs.room
  refine calls_in (b := reciprocal_n0) Try.func27 rfl Try.ntmps27 rfl (fun C hC => ?_)
  refine ws_sub [(0, _)] ⟨rfl, trivial⟩ ?_
  refine ws_seqN reciprocal_n1 reciprocal_n2 rfl rfl rfl ?_
  refine ws_region rfl ?_
  refine wl_op (k := 0) (k' := 1) rfl rfl rfl (wo_run rfl rfl (run_assign rfl rfl) ?_)
  refine wl_end rfl ?_
  refine nm_sub [(0, _)] ⟨rfl, trivial⟩ ?_
  refine nm_thn ?_
  refine ws_seqN reciprocal_n3 reciprocal_n4 rfl rfl rfl ?_
  refine ws_region rfl ?_
  refine wl_op (k := 0) (k' := 1) rfl rfl rfl (wo_run rfl rfl (run_move rfl rfl) ?_)
  refine wl_op (k := 1) (k' := 2) rfl rfl rfl (wo_run rfl rfl (run_len rfl rfl rfl rfl rfl rfl Try.underlying22) ?_)
  refine wl_op (k := 2) (k' := 3) rfl rfl rfl (wo_make (C := cdInt) s.length rfl rfl rfl rfl rfl sl22 (by first | rfl | omega) (by show _ * 8 ≤ _; first | omega | (simp only [List.length_set, List.length_append, List.length_replicate, List.length_singleton, List.length_cons, List.length_nil]; omega)) S ?_)
  intro vr1 w1 S1; clear S
  refine wl_op (k := 3) (k' := 4) rfl rfl rfl (wo_run rfl rfl (run_assign rfl rfl) ?_)
  refine wl_end rfl ?_
  refine nm_sub [(0, _), (3, _)] ⟨rfl, rfl, trivial⟩ ?_
  refine nm_thn ?_
  refine ws_seqN reciprocal_n5 reciprocal_n6 rfl rfl rfl ?_
  refine ws_seqN reciprocal_n7 reciprocal_n8 rfl rfl rfl ?_
  refine ws_region rfl ?_
  refine wl_op (k := 0) (k' := 1) rfl rfl rfl (wo_run rfl rfl (run_move rfl rfl) ?_)
  refine wl_op (k := 1) (k' := 2) rfl rfl rfl (wo_run rfl rfl (run_len rfl rfl rfl rfl rfl rfl Try.underlying22) ?_)
  refine wl_op (k := 2) (k' := 3) rfl rfl rfl (wo_run rfl rfl (run_move rfl rfl) ?_)
  refine wl_end rfl ?_
  refine nm_thn ?_
  refine ws_blockN reciprocal_n9 0 rfl rfl rfl ?_
  refine ws_loopE (fun mx_ ax_ wx_ => ∃ (k : Nat) (acc : List Int) (vro : Value), mx_ = s.length - k ∧ Env 27 [(0, .slice sA s.length sc), (3, vro), (9, .slice sA s.length sc), (10, .int .i64 (s.length : Int)), (11, .int .i64 (k : Int))] ax_ ∧ SH wx_ M X [Rs.row cdInt vro acc] ∧ k ≤ s.length ∧ acc.length = s.length ∧ (∀ j, s.length - k ≤ j → j < s.length → ga acc j = - ga s (s.length - 1 - j))) rfl ?_ ?_
  · intro ax_ hax_
    refine ⟨_, ⟨0, _, _, rfl, hax_.sub ⟨rfl, rfl, rfl, rfl, rfl, trivial⟩, S1.pick [0] [_] (by decide) ⟨rfl, trivial⟩, ?hq1f0, ?hq1f1, ?hq1f2⟩⟩
    case hq1f0 => omega
    case hq1f1 => simp
    case hq1f2 => (intro j h1 h2; omega)
  · rintro m1 a1 w2 ⟨k, acc, vro, rfl, he1, S2, hk, hal, hg⟩
    clear S1
    refine ws_in he1 (c := reciprocal_n10) rfl ?_
    clear he1 a1
    have hmv := fun h => hv k h
    refine ws_seqN reciprocal_n11 reciprocal_n12 rfl rfl rfl ?_
    refine ws_region rfl ?_
    refine wl_op (k := 0) (k' := 1) rfl rfl rfl (wo_run rfl rfl (run_lss rfl rfl rfl) ?_)
    refine wl_end rfl ?_
    refine nm_thn ?_
    refine ws_seqN reciprocal_n13 reciprocal_n14 rfl rfl rfl ?_
    refine ws_condN reciprocal_n15 reciprocal_n16 rfl rfl rfl rfl (fun hb12 => ?_) (fun hb12 => ?_)
    · have hb12 := of_decide_eq_true hb12
      refine ws_skip rfl ?_
      refine nm_sub [(0, _), (3, _), (9, _), (10, _), (11, _)] ⟨rfl, rfl, rfl, rfl, rfl, trivial⟩ ?_
      refine nm_thn ?_
      refine ws_seqN reciprocal_n17 reciprocal_n18 rfl rfl rfl ?_
      refine ws_blockN reciprocal_n19 1 rfl rfl rfl ?_
      refine ws_seqN reciprocal_n20 reciprocal_n21 rfl rfl rfl ?_
      refine ws_region rfl ?_
      refine wl_op (k := 0) (k' := 1) rfl rfl rfl (wo_run rfl rfl (run_move rfl rfl) ?_)
      refine wl_op (k := 1) (k' := 2) rfl rfl rfl (wo_run rfl rfl (run_indexM (C := cdInt) k rfl rfl rfl sl22 (by first | rfl | omega) hs (by first | omega | (simp only [List.length_set, List.length_append, List.length_replicate, List.length_singleton, List.length_cons, List.length_nil]; omega))) ?_)
      refine wl_op (k := 2) (k' := 3) rfl rfl rfl (wo_run rfl rfl (run_load1 rfl rfl Try.underlying3 rfl (hs.cell S2.um (i := k) (by first | omega | (simp only [List.length_set, List.length_append, List.length_replicate, List.length_singleton, List.length_cons, List.length_nil]; omega)) 0 rfl rfl)) ?_)
      refine wl_op (k := 3) (k' := 4) rfl rfl rfl (wo_run rfl rfl (run_assign rfl rfl) ?_)
      refine wl_op (k := 4) (k' := 5) rfl rfl rfl (wo_run rfl rfl (run_assign rfl rfl) ?_)
      refine wl_end rfl ?_
      refine nm_sub [(0, _), (3, _), (9, _), (10, _), (11, _), (4, _), (5, _)] ⟨rfl, rfl, rfl, rfl, rfl, rfl, rfl, trivial⟩ ?_
      refine nm_thn ?_
      refine ws_region rfl ?_
      refine wl_op (k := 0) (k' := 1) rfl rfl rfl (wo_run rfl rfl (run_move rfl rfl) ?_)
      refine wl_op (k := 1) (k' := 2) rfl rfl rfl (wo_run rfl rfl (run_move rfl rfl) ?_)
      refine wl_op (k := 2) (k' := 3) rfl rfl rfl (wo_run rfl rfl (run_len rfl rfl rfl rfl rfl rfl Try.underlying22) ?_)
      refine wl_op (k := 3) (k' := 4) rfl rfl rfl (wo_run rfl rfl (run_sub rfl rfl rfl (by first | omega | (simp only [List.length_set, List.length_append, List.length_replicate, List.length_singleton, List.length_cons, List.length_nil]; omega))) ?_)
      refine wl_op (k := 4) (k' := 5) rfl rfl rfl (wo_run rfl rfl (run_move rfl rfl) ?_)
      refine wl_op (k := 5) (k' := 6) rfl rfl rfl (wo_run rfl rfl (run_sub rfl rfl rfl (by first | omega | (simp only [List.length_set, List.length_append, List.length_replicate, List.length_singleton, List.length_cons, List.length_nil]; omega))) ?_)
      refine wl_op (k := 6) (k' := 7) rfl rfl rfl (wo_run rfl rfl (run_move rfl rfl) ?_)
      refine wl_op (k := 7) (k' := 8) rfl rfl rfl (wo_run rfl rfl (run_neg rfl rfl (by first | omega | (simp only [List.length_set, List.length_append, List.length_replicate, List.length_singleton, List.length_cons, List.length_nil]; omega))) ?_)
      refine wl_op (k := 8) (k' := 9) rfl rfl rfl (wo_run rfl rfl (run_indexR (C := cdInt) (i := 0) ((((s.length : Int) - 1) - (k : Int)).toNat) rfl rfl rfl sl22 S2 rfl (by first | rfl | omega) (by first | omega | (simp only [List.length_set, List.length_append, List.length_replicate, List.length_singleton, List.length_cons, List.length_nil]; omega))) ?_)
      refine wl_op (k := 9) (k' := 10) rfl rfl rfl (wo_storeR (C := cdInt) (i := 0) (e := (((s.length : Int) - 1) - (k : Int)).toNat) (j := 0) (us := [_]) (H' := [_]) (-(ga s k)) rfl rfl S2 rfl (by first | omega | (simp only [List.length_set, List.length_append, List.length_replicate, List.length_singleton, List.length_cons, List.length_nil]; omega)) rfl rfl rfl sz3 rfl rfl rfl rfl ?_)
      intro w3 S3; clear S2
      refine wl_end rfl ?_
      refine nm_blk ?_
      refine nm_sub [(0, _), (3, _), (9, _), (10, _), (11, _)] ⟨rfl, rfl, rfl, rfl, rfl, trivial⟩ ?_
      refine nm_thn ?_
      refine ws_region rfl ?_
      refine wl_op (k := 0) (k' := 1) rfl rfl rfl (wo_run rfl rfl (run_add rfl rfl rfl (by first | omega | (simp only [List.length_set, List.length_append, List.length_replicate, List.length_singleton, List.length_cons, List.length_nil]; omega))) ?_)
      refine wl_op (k := 1) (k' := 2) rfl rfl rfl (wo_run rfl rfl (run_move rfl rfl) ?_)
      refine wl_end rfl ?_
      refine nm_lp ?_
      intro ax_ hax_
      refine ⟨_, ?hq2m, ⟨k + 1, _, _, rfl, hax_.sub ⟨rfl, rfl, rfl, rfl, rfl, trivial⟩, S3.pick [0] [_] (by decide) ⟨rfl, trivial⟩, ?hq2f0, ?hq2f1, ?hq2f2⟩⟩
      case hq2f0 => first | assumption | omega
      case hq2f1 => simpa using hal
      case hq2f2 => (intro j h1 h2; rw [ga_set _ _ _ _ (by omega)]; split; (rename_i e; rw [show s.length - 1 - j = k by omega]); exact hg j (by omega) h2)
      case hq2m => omega
    · have hb12 := of_decide_eq_false hb12
      refine ws_exit rfl rfl ?_
      refine nm_sub [(3, _)] ⟨rfl, trivial⟩ ?_
      refine nm_thn ?_
      refine ws_seqN reciprocal_n22 reciprocal_n23 rfl rfl rfl ?_
      refine ws_region rfl ?_
      refine wl_op (k := 0) (k' := 1) rfl rfl rfl (wo_run rfl rfl (run_move rfl rfl) ?_)
      refine wl_op (k := 1) (k' := 2) rfl rfl rfl (wo_run rfl rfl (run_assign rfl rfl) ?_)
      refine wl_end rfl ?_
      refine nm_sub [(2, _)] ⟨rfl, trivial⟩ ?_
      refine nm_thn ?_
      obtain ⟨M1, hle2, S4, ⟨A1, c1, e1, hr1⟩⟩ := S2.pubrow (i := 0) (H' := [_]) rfl rfl (by show _ * 8 ≤ _; first | omega | (simp only [List.length_set, List.length_append, List.length_replicate, List.length_singleton, List.length_cons, List.length_nil]; omega))
      clear S2; subst e1
      replace hs := hs.mono (Hp.un_mono hle2 S4.mx)
      refine ws_ret hC [_] rfl rfl ⟨rfl, trivial⟩ ?_
      refine ⟨_, rfl, _, hle2, (S4.pick [] [] (by decide) trivial), ?_⟩
      have e : acc = invW s := ga_ext (by rw [hal, invW_len]) fun i hi => by rw [invW_ga _ _ (by omega)]; exact hg i (by omega) (by omega)
      subst e
      exact ⟨_, _, rfl, hr1⟩

noncomputable def recip_n0 : Code := Try.f31.body.getD .skip
noncomputable def recip_n1 : Code := cL recip_n0
noncomputable def recip_n2 : Code := cR recip_n0
noncomputable def recip_n3 : Code := cL recip_n2
noncomputable def recip_n4 : Code := cR recip_n2
noncomputable def recip_n5 : Code := cL recip_n4
noncomputable def recip_n6 : Code := cR recip_n4
noncomputable def recip_n7 : Code := cL recip_n5
noncomputable def recip_n8 : Code := cR recip_n5
noncomputable def recip_n9 : Code := cL recip_n8
noncomputable def recip_n10 : Code := cL recip_n9
noncomputable def recip_n11 : Code := cL recip_n10
noncomputable def recip_n12 : Code := cR recip_n10
noncomputable def recip_n13 : Code := cL recip_n11
noncomputable def recip_n14 : Code := cR recip_n11
noncomputable def recip_n15 : Code := cL recip_n14
noncomputable def recip_n16 : Code := cR recip_n14
noncomputable def recip_n17 : Code := cL recip_n12
noncomputable def recip_n18 : Code := cR recip_n12
noncomputable def recip_n19 : Code := cL recip_n17
noncomputable def recip_n20 : Code := cL recip_n6
noncomputable def recip_n21 : Code := cR recip_n6
set_option maxRecDepth 10000 in
theorem recip_t {w : World} {M : Hp} {X : Fr} (s : List Int) {sA : Option Addr} {sc : Nat} (hs : RdA cdInt (M.un X.h) sA sc s) (hv : smW s) (S : SH w M X []) : Ct Try.prog 31 [.slice sA s.length sc] w M X (IsE (invW s)) := by
  unfold Ct
  have rmhs : s.length * 8 ≤ 140737488355328 := hs.room
  refine calls_in (b := recip_n0) Try.func31 rfl Try.ntmps31 rfl (fun C hC => ?_)
  refine ws_sub [(0, _)] ⟨rfl, trivial⟩ ?_
  refine ws_seqN recip_n1 recip_n2 rfl rfl rfl ?_
  refine ws_region rfl ?_
  refine wl_op (k := 0) (k' := 1) rfl rfl rfl (wo_run rfl rfl (run_assign rfl rfl) ?_)
  refine wl_end rfl ?_
  refine nm_sub [(0, _)] ⟨rfl, trivial⟩ ?_
  refine nm_thn ?_
  refine ws_seqN recip_n3 recip_n4 rfl rfl rfl ?_
  refine ws_region rfl ?_
  refine wl_op (k := 0) (k' := 1) rfl rfl rfl (wo_run rfl rfl (run_assign rfl rfl) ?_)
  refine wl_end rfl ?_
  refine nm_thn ?_
  refine ws_seqN recip_n5 recip_n6 rfl rfl rfl ?_
  refine ws_seqN recip_n7 recip_n8 rfl rfl rfl ?_
  refine ws_region rfl ?_
  refine wl_op (k := 0) (k' := 1) rfl rfl rfl (wo_run rfl rfl (run_move rfl rfl) ?_)
  refine wl_op (k := 1) (k' := 2) rfl rfl rfl (wo_run rfl rfl (run_len rfl rfl rfl rfl rfl rfl Try.underlying22) ?_)
  refine wl_op (k := 2) (k' := 3) rfl rfl rfl (wo_run rfl rfl (run_sub rfl rfl rfl (by first | omega | (simp only [List.length_set, List.length_append, List.length_replicate, List.length_singleton, List.length_cons, List.length_nil]; omega))) ?_)
  refine wl_eq 7 (.int .i64 ((s.length : Int) - 1 - ((0 : Nat) : Int))) rfl (int_eq (by omega)) ?_
  refine wl_op (k := 3) (k' := 4) rfl rfl rfl (wo_run rfl rfl (run_assign rfl rfl) ?_)
  refine wl_end rfl ?_
  refine nm_sub [(0, _), (3, _), (4, _)] ⟨rfl, rfl, rfl, trivial⟩ ?_
  refine nm_thn ?_
  refine ws_blockN recip_n9 0 rfl rfl rfl ?_
  have S1 := S.nilrow cdInt; clear S
  refine ws_loopE (fun mx_ ax_ wx_ => ∃ (k : Nat) (acc : List Int) (vro : Value), mx_ = s.length - k ∧ Env 21 [(0, .slice sA s.length sc), (3, vro), (4, .int .i64 ((s.length : Int) - 1 - (k : Int)))] ax_ ∧ SH wx_ M X [Rs.row cdInt vro acc] ∧ k ≤ s.length ∧ acc = (invW s).take k) rfl ?_ ?_
  · intro ax_ hax_
    refine ⟨_, ⟨0, _, _, rfl, hax_.sub ⟨rfl, rfl, rfl, trivial⟩, S1.pick [0] [_] (by decide) ⟨rfl, trivial⟩, ?hq1f0, ?hq1f1⟩⟩
    case hq1f0 => omega
    case hq1f1 => rfl
  · rintro m1 a1 w1 ⟨k, acc, vro, rfl, he1, S2, hk, hal⟩
    clear S1
    refine ws_in he1 (c := recip_n10) rfl ?_
    clear he1 a1
    have hll : acc.length = k := by rw [hal]; simp [invW]; omega
    have hmv := fun h => hv (s.length - 1 - k) h
    refine ws_seqN recip_n11 recip_n12 rfl rfl rfl ?_
    refine ws_seqN recip_n13 recip_n14 rfl rfl rfl ?_
    refine ws_region rfl ?_
    refine wl_op (k := 0) (k' := 1) rfl rfl rfl (wo_run rfl rfl (run_move rfl rfl) ?_)
    refine wl_op (k := 1) (k' := 2) rfl rfl rfl (wo_run rfl rfl (run_geq rfl rfl rfl) ?_)
    refine wl_end rfl ?_
    refine nm_sub [(0, _), (3, _), (4, _), (9, _)] ⟨rfl, rfl, rfl, rfl, trivial⟩ ?_
    refine nm_thn ?_
    refine ws_condN recip_n15 recip_n16 rfl rfl rfl rfl (fun hb9 => ?_) (fun hb9 => ?_)
    · have hb9 := of_decide_eq_true hb9
      refine ws_skip rfl ?_
      refine nm_sub [(0, _), (3, _), (4, _)] ⟨rfl, rfl, rfl, trivial⟩ ?_
      refine nm_thn ?_
      refine ws_seqN recip_n17 recip_n18 rfl rfl rfl ?_
      refine ws_blockN recip_n19 1 rfl rfl rfl ?_
      refine ws_region rfl ?_
      refine wl_eq 4 (.int .i64 ((s.length - 1 - k : Nat) : Int)) rfl (int_eq (by omega)) ?_
      refine wl_op (k := 0) (k' := 1) rfl rfl rfl (wo_run rfl rfl (run_move rfl rfl) ?_)
      refine wl_op (k := 1) (k' := 2) rfl rfl rfl (wo_run rfl rfl (run_move rfl rfl) ?_)
      refine wl_op (k := 2) (k' := 3) rfl rfl rfl (wo_run rfl rfl (run_move rfl rfl) ?_)
      refine wl_op (k := 3) (k' := 4) rfl rfl rfl (wo_run rfl rfl (run_indexM (C := cdInt) (s.length - 1 - k) rfl rfl rfl sl22 (by first | rfl | omega) hs (by first | omega | (simp only [List.length_set, List.length_append, List.length_replicate, List.length_singleton, List.length_cons, List.length_nil]; omega))) ?_)
      refine wl_op (k := 4) (k' := 5) rfl rfl rfl (wo_run rfl rfl (run_load1 rfl rfl Try.underlying3 rfl (hs.cell S2.um (i := s.length - 1 - k) (by first | omega | (simp only [List.length_set, List.length_append, List.length_replicate, List.length_singleton, List.length_cons, List.length_nil]; omega)) 0 rfl rfl)) ?_)
      refine wl_op (k := 5) (k' := 6) rfl rfl rfl (wo_run rfl rfl (run_neg rfl rfl (by first | omega | (simp only [List.length_set, List.length_append, List.length_replicate, List.length_singleton, List.length_cons, List.length_nil]; omega))) ?_)
      refine wl_op (k := 6) (k' := 7) rfl rfl rfl (wo_buildSlice1 (C := cdInt) (l := [_]) rfl rfl rfl rfl sl22 rfl rfl rfl rfl S2 ?_)
      intro gb1 w2 S3; clear S2
      refine wl_op (k := 7) (k' := 8) rfl rfl rfl (wo_append1 (C := cdInt) (i := 1) (q := 0) (-(ga s (s.length - 1 - k))) rfl rfl rfl rfl rfl rfl rfl rfl sl22 S3 rfl rfl rfl (by show (_ + 1) * 8 ≤ _; first | omega | (simp only [List.length_set, List.length_append, List.length_replicate, List.length_singleton, List.length_cons, List.length_nil]; omega)) ?_)
      intro vro1 w3 S4; clear S3
      have S5 := S4.pick [1] [_] (by decide) ⟨rfl, trivial⟩; clear S4
      refine wl_op (k := 8) (k' := 9) rfl rfl rfl (wo_run rfl rfl (run_assign rfl rfl) ?_)
      refine wl_end rfl ?_
      refine nm_blk ?_
      refine nm_sub [(0, _), (3, _), (4, _)] ⟨rfl, rfl, rfl, trivial⟩ ?_
      refine nm_thn ?_
      refine ws_region rfl ?_
      refine wl_op (k := 0) (k' := 1) rfl rfl rfl (wo_run rfl rfl (run_move rfl rfl) ?_)
      refine wl_op (k := 1) (k' := 2) rfl rfl rfl (wo_run rfl rfl (run_sub rfl rfl rfl (by first | omega | (simp only [List.length_set, List.length_append, List.length_replicate, List.length_singleton, List.length_cons, List.length_nil]; omega))) ?_)
      refine wl_eq 11 (.int .i64 ((s.length : Int) - 1 - ((k + 1 : Nat) : Int))) rfl (int_eq (by omega)) ?_
      refine wl_op (k := 2) (k' := 3) rfl rfl rfl (wo_run rfl rfl (run_assign rfl rfl) ?_)
      refine wl_end rfl ?_
      refine nm_lp ?_
      intro ax_ hax_
      refine ⟨_, ?hq2m, ⟨k + 1, _, _, rfl, hax_.sub ⟨rfl, rfl, rfl, trivial⟩, S5.pick [0] [_] (by decide) ⟨rfl, trivial⟩, ?hq2f0, ?hq2f1⟩⟩
      case hq2f0 => first | assumption | omega
      case hq2f1 => (rw [take_ga _ _ (by rw [invW_len]; omega), hal, invW_ga _ _ (by omega)])
      case hq2m => omega
    · have hb9 := of_decide_eq_false hb9
      refine ws_exit rfl rfl ?_
      refine nm_sub [(3, _)] ⟨rfl, trivial⟩ ?_
      refine nm_thn ?_
      refine ws_seqN recip_n20 recip_n21 rfl rfl rfl ?_
      refine ws_region rfl ?_
      refine wl_op (k := 0) (k' := 1) rfl rfl rfl (wo_run rfl rfl (run_move rfl rfl) ?_)
      refine wl_op (k := 1) (k' := 2) rfl rfl rfl (wo_run rfl rfl (run_assign rfl rfl) ?_)
      refine wl_end rfl ?_
      refine nm_sub [(2, _)] ⟨rfl, trivial⟩ ?_
      refine nm_thn ?_
      obtain ⟨M1, hle2, S6, ⟨A1, c1, e1, hr1⟩⟩ := S2.pubrow (i := 0) (H' := [_]) rfl rfl (by show _ * 8 ≤ _; first | omega | (simp only [List.length_set, List.length_append, List.length_replicate, List.length_singleton, List.length_cons, List.length_nil]; omega))
      clear S2; subst e1
      replace hs := hs.mono (Hp.un_mono hle2 S6.mx)
      refine ws_ret hC [_] rfl rfl ⟨rfl, trivial⟩ ?_
      refine ⟨_, rfl, _, hle2, (S6.pick [] [] (by decide) trivial), ?_⟩
      obtain rfl : k = s.length := by omega
      have e : acc = invW s := by rw [hal, ← invW_len s, List.take_length]
      subst e
      exact ⟨_, _, rfl, hr1⟩

noncomputable def CloneI_n0 : Code := Try.f28.body.getD .skip
noncomputable def CloneI_n1 : Code := cL CloneI_n0
noncomputable def CloneI_n2 : Code := cR CloneI_n0
noncomputable def CloneI_n3 : Code := cL CloneI_n2
noncomputable def CloneI_n4 : Code := cR CloneI_n2
noncomputable def CloneI_n5 : Code := cL CloneI_n3
noncomputable def CloneI_n6 : Code := cR CloneI_n3
noncomputable def CloneI_n7 : Code := cL CloneI_n6
noncomputable def CloneI_n8 : Code := cR CloneI_n6
noncomputable def CloneI_n9 : Code := cL CloneI_n7
noncomputable def CloneI_n10 : Code := cR CloneI_n7
noncomputable def CloneI_n11 : Code := cL CloneI_n4
noncomputable def CloneI_n12 : Code := cR CloneI_n4
set_option maxRecDepth 10000 in
theorem CloneI_t {w : World} {M : Hp} {X : Fr} (s : List Int) {sA : Option Addr} {sc : Nat} (hs : RdA cdInt (M.un X.h) sA sc s) (S : SH w M X []) : Ct Try.prog 28 [.slice sA s.length sc] w M X (IsE s) := by
  unfold Ct
  have rmhs : s.length * 8 ≤ 140737488355328 := hs.room
  refine calls_in (b := CloneI_n0) Try.func28 rfl Try.ntmps28 rfl (fun C hC => ?_)
  refine ws_sub [(0, _)] ⟨rfl, trivial⟩ ?_
  refine ws_seqN CloneI_n1 CloneI_n2 rfl rfl rfl ?_
  refine ws_region rfl ?_
  refine wl_op (k := 0) (k' := 1) rfl rfl rfl (wo_run rfl rfl (run_assign rfl rfl) ?_)
  refine wl_end rfl ?_
  refine nm_sub [(0, _)] ⟨rfl, trivial⟩ ?_
  refine nm_thn ?_
  refine ws_seqN CloneI_n3 CloneI_n4 rfl rfl rfl ?_
  refine ws_seqN CloneI_n5 CloneI_n6 rfl rfl rfl ?_
  refine ws_region rfl ?_
  refine wl_op (k := 0) (k' := 1) rfl rfl rfl (wo_run rfl rfl (run_move rfl rfl) ?_)
  refine wl_op (k := 1) (k' := 2) rfl rfl rfl (wo_run rfl rfl (run_eqlNil rfl rfl rfl Try.underlying22) ?_)
  refine wl_end rfl ?_
  refine nm_sub [(0, _), (4, _)] ⟨rfl, rfl, trivial⟩ ?_
  refine nm_thn ?_
  refine ws_condN CloneI_n7 CloneI_n8 rfl rfl rfl rfl (fun hb4 => ?_) (fun hb4 => ?_)
  · refine ws_seqN CloneI_n9 CloneI_n10 rfl rfl rfl ?_
    refine ws_region rfl ?_
    refine wl_op (k := 0) (k' := 1) rfl rfl rfl (wo_run rfl rfl (run_assign rfl rfl) ?_)
    refine wl_end rfl ?_
    refine nm_sub [(2, _)] ⟨rfl, trivial⟩ ?_
    refine nm_thn ?_
    refine ws_ret hC [_] rfl rfl ⟨rfl, trivial⟩ ?_
    refine ⟨_, rfl, _, Hp.le_refl _, (S.pick [] [] (by decide) trivial), ?_⟩
    obtain rfl : s = [] := nil_of_none hs hb4
    exact ⟨_, _, rfl, RdA.nil_⟩
  · refine ws_skip rfl ?_
    refine nm_sub [(0, _)] ⟨rfl, trivial⟩ ?_
    refine nm_thn ?_
    refine ws_seqN CloneI_n11 CloneI_n12 rfl rfl rfl ?_
    refine ws_region rfl ?_
    refine wl_op (k := 0) (k' := 1) rfl rfl rfl (wo_buildSlice0 (C := cdInt) rfl rfl rfl rfl sl22 S ?_)
    intro vr1 w1 S1; clear S
    refine wl_op (k := 1) (k' := 2) rfl rfl rfl (wo_run rfl rfl (run_move rfl rfl) ?_)
    refine wl_op (k := 2) (k' := 3) rfl rfl rfl (wo_appendM (C := cdInt) (i := 0) rfl rfl rfl rfl rfl rfl rfl rfl sl22 S1 rfl hs S1.um (by have h : _ * 8 ≤ _ := hs.room; show (0 + _) * 8 ≤ _; first | omega | (simp only [List.length_set, List.length_append, List.length_replicate, List.length_singleton, List.length_cons, List.length_nil]; omega)) ?_)
    intro vr2 w2 S2; clear S1
    change SH _ _ _ [Rs.row cdInt vr2 s] at S2
    refine wl_op (k := 3) (k' := 4) rfl rfl rfl (wo_run rfl rfl (run_assign rfl rfl) ?_)
    refine wl_end rfl ?_
    refine nm_sub [(2, _)] ⟨rfl, trivial⟩ ?_
    refine nm_thn ?_
    obtain ⟨M1, hle1, S3, ⟨A1, c1, e1, hr1⟩⟩ := S2.pubrow (i := 0) (H' := [_]) rfl rfl (by show _ * 8 ≤ _; first | omega | (simp only [List.length_set, List.length_append, List.length_replicate, List.length_singleton, List.length_cons, List.length_nil]; omega))
    clear S2; subst e1
    replace hs := hs.mono (Hp.un_mono hle1 S3.mx)
    refine ws_ret hC [_] rfl rfl ⟨rfl, trivial⟩ ?_
    refine ⟨_, rfl, _, hle1, (S3.pick [] [] (by decide) trivial), ?_⟩
    exact ⟨_, _, rfl, hr1⟩

noncomputable def glue_n0 : Code := Try.f30.body.getD .skip
noncomputable def glue_n1 : Code := cL glue_n0
noncomputable def glue_n2 : Code := cR glue_n0
noncomputable def glue_n3 : Code := cL glue_n2
noncomputable def glue_n4 : Code := cR glue_n2
noncomputable def glue_n5 : Code := cL glue_n4
noncomputable def glue_n6 : Code := cR glue_n4
noncomputable def glue_n7 : Code := cL glue_n5
noncomputable def glue_n8 : Code := cR glue_n5
noncomputable def glue_n9 : Code := cL glue_n8
noncomputable def glue_n10 : Code := cL glue_n9
noncomputable def glue_n11 : Code := cL glue_n10
noncomputable def glue_n12 : Code := cR glue_n10
noncomputable def glue_n13 : Code := cL glue_n11
noncomputable def glue_n14 : Code := cR glue_n11
noncomputable def glue_n15 : Code := cL glue_n14
noncomputable def glue_n16 : Code := cR glue_n14
noncomputable def glue_n17 : Code := cL glue_n12
noncomputable def glue_n18 : Code := cR glue_n12
noncomputable def glue_n19 : Code := cL glue_n17
noncomputable def glue_n20 : Code := cL glue_n19
noncomputable def glue_n21 : Code := cR glue_n19
noncomputable def glue_n22 : Code := cL glue_n21
noncomputable def glue_n23 : Code := cR glue_n21
noncomputable def glue_n24 : Code := cL glue_n23
noncomputable def glue_n25 : Code := cR glue_n23
noncomputable def glue_n26 : Code := cL glue_n6
noncomputable def glue_n27 : Code := cR glue_n6
set_option maxRecDepth 10000 in
theorem glue_t {w : World} {M : Hp} {X : Fr} (s : List Int) {sA : Option Addr} {sc : Nat} (t : List Int) {tA : Option Addr} {tc : Nat} (hs : RdA cdInt (M.un X.h) sA sc s) (ht : RdA cdInt (M.un X.h) tA tc t) (hs1 : smW s) (ht1 : smW t) (hro : (s.length + t.length) * 8 ≤ 140737488355328) (S : SH w M X []) : Ct Try.prog 30 [.slice sA s.length sc, .slice tA t.length tc] w M X (IsE (gluW s t)) := by
  unfold Ct
  have rmhs : s.length * 8 ≤ 140737488355328 := hs.room
  have rmht : t.length * 8 ≤ 140737488355328 := ht.room
  refine calls_in (b := glue_n0) Try.func30 rfl Try.ntmps30 rfl (fun C hC => ?_)
  refine ws_sub [(0, _), (1, _)] ⟨rfl, rfl, trivial⟩ ?_
  refine ws_seqN glue_n1 glue_n2 rfl rfl rfl ?_
  refine ws_region rfl ?_
  refine wl_op (k := 0) (k' := 1) rfl rfl rfl (wo_run rfl rfl (run_assign rfl rfl) ?_)
  refine wl_end rfl ?_
  refine nm_sub [(0, _), (1, _)] ⟨rfl, rfl, trivial⟩ ?_
  refine nm_thn ?_
  refine ws_seqN glue_n3 glue_n4 rfl rfl rfl ?_
  refine ws_region rfl ?_
  refine wl_op (k := 0) (k' := 1) rfl rfl rfl (wo_run rfl rfl (run_move rfl rfl) ?_)
  have S1 := S.nilrow cdInt; clear S
  refine wl_op (k := 1) (k' := 2) rfl rfl rfl (wo_appendM (C := cdInt) (i := 0) rfl rfl rfl rfl rfl rfl rfl rfl sl22 S1 rfl hs S1.um (by have h : _ * 8 ≤ _ := hs.room; show (0 + _) * 8 ≤ _; first | omega | (simp only [List.length_set, List.length_append, List.length_replicate, List.length_singleton, List.length_cons, List.length_nil]; omega)) ?_)
  intro vr2 w1 S2; clear S1
  change SH _ _ _ [Rs.row cdInt vr2 s] at S2
  refine wl_op (k := 2) (k' := 3) rfl rfl rfl (wo_run rfl rfl (run_assign rfl rfl) ?_)
  refine wl_end rfl ?_
  refine nm_sub [(1, _), (5, _)] ⟨rfl, rfl, trivial⟩ ?_
  refine nm_thn ?_
  refine ws_seqN glue_n5 glue_n6 rfl rfl rfl ?_
  refine ws_seqN glue_n7 glue_n8 rfl rfl rfl ?_
  refine ws_region rfl ?_
  refine wl_op (k := 0) (k' := 1) rfl rfl rfl (wo_run rfl rfl (run_assign rfl rfl) ?_)
  refine wl_end rfl ?_
  refine nm_thn ?_
  refine ws_blockN glue_n9 0 rfl rfl rfl ?_
  refine ws_loopE (fun mx_ ax_ wx_ => ∃ (k : Nat) (acc : List Int) (vro : Value), mx_ = t.length - k ∧ Env 45 [(1, .slice tA t.length tc), (5, vro), (6, .int .i64 (k : Int))] ax_ ∧ SH wx_ M X [Rs.row cdInt vro acc] ∧ k ≤ t.length ∧ acc = gluW s (t.take k) ∧ smW acc) rfl ?_ ?_
  · intro ax_ hax_
    refine ⟨_, ⟨0, _, _, rfl, hax_.sub ⟨rfl, rfl, rfl, trivial⟩, S2.pick [0] [_] (by decide) ⟨rfl, trivial⟩, ?hq1f0, ?hq1f1, ?hq1f2⟩⟩
    case hq1f0 => omega
    case hq1f1 => rfl
    case hq1f2 => simpa using hs1
  · rintro m1 a1 w2 ⟨k, acc, vro, rfl, he1, S3, hk, hal, hsa⟩
    clear S2
    refine ws_in he1 (c := glue_n10) rfl ?_
    clear he1 a1
    have hll : acc.length ≤ s.length + k := by rw [hal]; have h1 := gluW_len s (t.take k); rw [List.length_take] at h1; omega
    have hmv := fun h => ht1 k h
    have hma := fun h => hsa ((acc.length : Int) - 1).toNat h
    refine ws_seqN glue_n11 glue_n12 rfl rfl rfl ?_
    refine ws_seqN glue_n13 glue_n14 rfl rfl rfl ?_
    refine ws_region rfl ?_
    refine wl_op (k := 0) (k' := 1) rfl rfl rfl (wo_run rfl rfl (run_move rfl rfl) ?_)
    refine wl_op (k := 1) (k' := 2) rfl rfl rfl (wo_run rfl rfl (run_move rfl rfl) ?_)
    refine wl_op (k := 2) (k' := 3) rfl rfl rfl (wo_run rfl rfl (run_len rfl rfl rfl rfl rfl rfl Try.underlying22) ?_)
    refine wl_op (k := 3) (k' := 4) rfl rfl rfl (wo_run rfl rfl (run_lss rfl rfl rfl) ?_)
    refine wl_end rfl ?_
    refine nm_sub [(1, _), (5, _), (6, _), (13, _)] ⟨rfl, rfl, rfl, rfl, trivial⟩ ?_
    refine nm_thn ?_
    refine ws_condN glue_n15 glue_n16 rfl rfl rfl rfl (fun hb13 => ?_) (fun hb13 => ?_)
    · have hb13 := of_decide_eq_true hb13
      refine ws_skip rfl ?_
      refine nm_sub [(1, _), (5, _), (6, _)] ⟨rfl, rfl, rfl, trivial⟩ ?_
      refine nm_thn ?_
      refine ws_seqN glue_n17 glue_n18 rfl rfl rfl ?_
      refine ws_blockN glue_n19 1 rfl rfl rfl ?_
      refine ws_seqN glue_n20 glue_n21 rfl rfl rfl ?_
      refine ws_region rfl ?_
      refine wl_op (k := 0) (k' := 1) rfl rfl rfl (wo_run rfl rfl (run_move rfl rfl) ?_)
      refine wl_op (k := 1) (k' := 2) rfl rfl rfl (wo_run rfl rfl (run_lenR (C := cdInt) (i := 0) rfl rfl rfl rfl rfl rfl sl22 S3 rfl) ?_)
      refine wl_op (k := 2) (k' := 3) rfl rfl rfl (wo_run rfl rfl (run_assign rfl rfl) ?_)
      refine wl_end rfl ?_
      refine nm_sub [(1, _), (5, _), (6, _), (7, _)] ⟨rfl, rfl, rfl, rfl, trivial⟩ ?_
      refine nm_thn ?_
      refine ws_seqN glue_n22 glue_n23 rfl rfl rfl ?_
      refine ws_draw rfl (by kernel_rfl) S3 15 rfl ?_
      clear S3
      refine wa_takeP (i := 0) (d := 18) 14 rfl (by kernel_rfl) (by kernel_rfl) (by kernel_rfl) rfl rfl rfl (fun w3 => run_move rfl rfl) ?_
      refine wa_takeP (i := 1) (d := 19) 13 rfl (by kernel_rfl) (by kernel_rfl) (by kernel_rfl) rfl rfl rfl (fun w4 => run_gtr rfl rfl rfl) ?_
      refine wa_takeP (i := 2) (d := 20) 12 rfl (by kernel_rfl) (by kernel_rfl) (by kernel_rfl) rfl rfl rfl (fun w5 => run_move rfl rfl) ?_
      refine wa_split (t := 20) rfl (fun hg20 => ?_) (fun hg20 => ?_)
      · have hg20 := of_decide_eq_true hg20
        refine wa_takeP (i := 3) (d := 21) 11 rfl (by kernel_rfl) (by kernel_rfl) (by kernel_rfl) ⟨_, _, _, rfl, rfl, rfl, rfl⟩ rfl rfl (fun w6 => run_move rfl rfl) ?_
        refine wa_takeP (i := 4) (d := 22) 10 rfl (by kernel_rfl) (by kernel_rfl) (by kernel_rfl) ⟨_, _, _, rfl, rfl, rfl, rfl⟩ rfl rfl (fun w7 => run_move rfl rfl) ?_
        refine wa_takeP (i := 5) (d := 23) 9 rfl (by kernel_rfl) (by kernel_rfl) (by kernel_rfl) ⟨_, _, _, rfl, rfl, rfl, rfl⟩ rfl rfl (fun w8 => run_sub rfl rfl rfl (by first | omega | (simp only [List.length_set, List.length_append, List.length_replicate, List.length_singleton, List.length_cons, List.length_nil]; omega))) ?_
        refine wa_take (i := 6) (d := 24) 8 rfl (by kernel_rfl) (by kernel_rfl) (by kernel_rfl) ⟨_, _, _, rfl, rfl, rfl, rfl⟩ rfl rfl (fun M7 N7 w9 hle8 S10 => .inl (run_indexR (C := cdInt) (i := 0) (((acc.length : Int) - 1).toNat) rfl rfl rfl sl22 S10.suf rfl (by first | rfl | omega) (by first | omega | (simp only [List.length_set, List.length_append, List.length_replicate, List.length_singleton, List.length_cons, List.length_nil]; omega)))) ?_
        refine wa_take (i := 7) (d := 25) 7 rfl (by kernel_rfl) (by kernel_rfl) (by kernel_rfl) ⟨_, _, _, rfl, rfl, rfl, rfl⟩ rfl rfl (fun M8 N8 w10 hle9 S11 => .inl (run_load1 rfl rfl Try.underlying3 rfl (S11.suf.rowc (i := 0) (e := ((acc.length : Int) - 1).toNat) (j := 0) rfl (by first | omega | (simp only [List.length_set, List.length_append, List.length_replicate, List.length_singleton, List.length_cons, List.length_nil]; omega)) rfl rfl))) ?_
        refine wa_takeP (i := 8) (d := 26) 6 rfl (by kernel_rfl) (by kernel_rfl) (by kernel_rfl) ⟨_, _, _, rfl, rfl, rfl, rfl⟩ rfl rfl (fun w11 => run_move rfl rfl) ?_
        refine wa_takeP (i := 9) (d := 27) 5 rfl (by kernel_rfl) (by kernel_rfl) (by kernel_rfl) ⟨_, _, _, rfl, rfl, rfl, rfl⟩ rfl rfl (fun w12 => run_move rfl rfl) ?_
        refine wa_take (i := 10) (d := 28) 4 rfl (by kernel_rfl) (by kernel_rfl) (by kernel_rfl) ⟨_, _, _, rfl, rfl, rfl, rfl⟩ rfl rfl (fun M11 N11 w13 hle12 S14 => .inl (run_indexM (C := cdInt) k rfl rfl rfl sl22 (by first | rfl | omega) (ht.mono (Hp.un_mono hle12 S14.mx)) (by first | omega | (simp only [List.length_set, List.length_append, List.length_replicate, List.length_singleton, List.length_cons, List.length_nil]; omega)))) ?_
        refine wa_take (i := 11) (d := 29) 3 rfl (by kernel_rfl) (by kernel_rfl) (by kernel_rfl) ⟨_, _, _, rfl, rfl, rfl, rfl⟩ rfl rfl (fun M12 N12 w14 hle13 S15 => .inl (run_load1 rfl rfl Try.underlying3 rfl ((ht.mono (Hp.un_mono hle13 S15.mx)).cell S15.um (i := k) (by first | omega | (simp only [List.length_set, List.length_append, List.length_replicate, List.length_singleton, List.length_cons, List.length_nil]; omega)) 0 rfl rfl))) ?_
        refine wa_takeP (i := 12) (d := 30) 2 rfl (by kernel_rfl) (by kernel_rfl) (by kernel_rfl) ⟨_, _, _, rfl, rfl, rfl, rfl⟩ rfl rfl (fun w15 => run_add rfl rfl rfl (by first | omega | (simp only [List.length_set, List.length_append, List.length_replicate, List.length_singleton, List.length_cons, List.length_nil]; omega))) ?_
        refine wa_takeP (i := 13) (d := 31) 1 rfl (by kernel_rfl) (by kernel_rfl) (by kernel_rfl) ⟨_, _, _, rfl, rfl, rfl, rfl⟩ rfl rfl (fun w16 => run_eql rfl rfl rfl) ?_
        refine wa_takeP (i := 14) (d := 32) 0 rfl (by kernel_rfl) (by kernel_rfl) (by kernel_rfl) rfl rfl rfl (fun w17 => run_pickT rfl rfl rfl) ?_
        refine wa_end (by kernel_rfl) (fun w18 S19 => ?_)
        refine nm_sub [(1, _), (5, _), (6, _), (7, _), (32, _)] ⟨rfl, rfl, rfl, rfl, rfl, trivial⟩ ?_
        refine nm_thn ?_
        refine ws_condN glue_n24 glue_n25 rfl rfl rfl rfl (fun hb32 => ?_) (fun hb32 => ?_)
        · have hb32 := of_decide_eq_true hb32
          refine ws_region rfl ?_
          refine wl_op (k := 0) (k' := 1) rfl rfl rfl (wo_run rfl rfl (run_move rfl rfl) ?_)
          refine wl_op (k := 1) (k' := 2) rfl rfl rfl (wo_run rfl rfl (run_move rfl rfl) ?_)
          refine wl_op (k := 2) (k' := 3) rfl rfl rfl (wo_run rfl rfl (run_sub rfl rfl rfl (by first | omega | (simp only [List.length_set, List.length_append, List.length_replicate, List.length_singleton, List.length_cons, List.length_nil]; omega))) ?_)
          refine wl_op (k := 3) (k' := 4) rfl rfl rfl (wo_takeR (C := cdInt) (i := 0) (((acc.length : Int) - 1).toNat) rfl rfl rfl rfl rfl sl22 (by first | rfl | omega) (by first | omega | (simp only [List.length_set, List.length_append, List.length_replicate, List.length_singleton, List.length_cons, List.length_nil]; omega)) S19 rfl ?_)
          intro vro1 S20; clear S19
          change SH _ _ _ [Rs.row cdInt vro1 (acc.take (((acc.length : Int) - 1).toNat))] at S20
          refine wl_op (k := 4) (k' := 5) rfl rfl rfl (wo_run rfl rfl (run_assign rfl rfl) ?_)
          refine wl_end rfl ?_
          refine nm_blk ?_
          refine nm_sub [(1, _), (5, _), (6, _)] ⟨rfl, rfl, rfl, trivial⟩ ?_
          refine nm_thn ?_
          refine ws_region rfl ?_
          refine wl_op (k := 0) (k' := 1) rfl rfl rfl (wo_run rfl rfl (run_move rfl rfl) ?_)
          refine wl_op (k := 1) (k' := 2) rfl rfl rfl (wo_run rfl rfl (run_add rfl rfl rfl (by first | omega | (simp only [List.length_set, List.length_append, List.length_replicate, List.length_singleton, List.length_cons, List.length_nil]; omega))) ?_)
          refine wl_op (k := 2) (k' := 3) rfl rfl rfl (wo_run rfl rfl (run_assign rfl rfl) ?_)
          refine wl_end rfl ?_
          refine nm_lp ?_
          intro ax_ hax_
          refine ⟨_, ?hq2m, ⟨k + 1, _, _, rfl, hax_.sub ⟨rfl, rfl, rfl, trivial⟩, S20.pick [0] [_] (by decide) ⟨rfl, trivial⟩, ?hq2f0, ?hq2f1, ?hq2f2⟩⟩
          case hq2f0 => first | assumption | omega
          case hq2f1 => (rw [gluW_take _ _ _ (by omega), ← hal]; have hto : ((acc.length : Int) - 1).toNat = acc.length - 1 := (by omega); unfold pushW; rw [← hto]; first | rw [if_pos ⟨by omega, by omega⟩] | rw [if_neg (by omega)])
          case hq2f2 => first | exact hsa.take_ _ | exact hsa.snoc_ (by omega)
          case hq2m => omega
        · have hb32 := of_decide_eq_false hb32
          refine ws_region rfl ?_
          refine wl_op (k := 0) (k' := 1) rfl rfl rfl (wo_run rfl rfl (run_move rfl rfl) ?_)
          refine wl_op (k := 1) (k' := 2) rfl rfl rfl (wo_run rfl rfl (run_move rfl rfl) ?_)
          refine wl_op (k := 2) (k' := 3) rfl rfl rfl (wo_run rfl rfl (run_move rfl rfl) ?_)
          refine wl_op (k := 3) (k' := 4) rfl rfl rfl (wo_run rfl rfl (run_indexM (C := cdInt) k rfl rfl rfl sl22 (by first | rfl | omega) ht (by first | omega | (simp only [List.length_set, List.length_append, List.length_replicate, List.length_singleton, List.length_cons, List.length_nil]; omega))) ?_)
          refine wl_op (k := 4) (k' := 5) rfl rfl rfl (wo_run rfl rfl (run_load1 rfl rfl Try.underlying3 rfl (ht.cell S19.um (i := k) (by first | omega | (simp only [List.length_set, List.length_append, List.length_replicate, List.length_singleton, List.length_cons, List.length_nil]; omega)) 0 rfl rfl)) ?_)
          refine wl_op (k := 5) (k' := 6) rfl rfl rfl (wo_buildSlice1 (C := cdInt) (l := [_]) rfl rfl rfl rfl sl22 rfl rfl rfl rfl S19 ?_)
          intro gb1 w19 S21; clear S19
          refine wl_op (k := 6) (k' := 7) rfl rfl rfl (wo_append1 (C := cdInt) (i := 1) (q := 0) (ga t k) rfl rfl rfl rfl rfl rfl rfl rfl sl22 S21 rfl rfl rfl (by show (_ + 1) * 8 ≤ _; first | omega | (simp only [List.length_set, List.length_append, List.length_replicate, List.length_singleton, List.length_cons, List.length_nil]; omega)) ?_)
          intro vro2 w20 S22; clear S21
          have S23 := S22.pick [1] [_] (by decide) ⟨rfl, trivial⟩; clear S22
          refine wl_op (k := 7) (k' := 8) rfl rfl rfl (wo_run rfl rfl (run_assign rfl rfl) ?_)
          refine wl_end rfl ?_
          refine nm_blk ?_
          refine nm_sub [(1, _), (5, _), (6, _)] ⟨rfl, rfl, rfl, trivial⟩ ?_
          refine nm_thn ?_
          refine ws_region rfl ?_
          refine wl_op (k := 0) (k' := 1) rfl rfl rfl (wo_run rfl rfl (run_move rfl rfl) ?_)
          refine wl_op (k := 1) (k' := 2) rfl rfl rfl (wo_run rfl rfl (run_add rfl rfl rfl (by first | omega | (simp only [List.length_set, List.length_append, List.length_replicate, List.length_singleton, List.length_cons, List.length_nil]; omega))) ?_)
          refine wl_op (k := 2) (k' := 3) rfl rfl rfl (wo_run rfl rfl (run_assign rfl rfl) ?_)
          refine wl_end rfl ?_
          refine nm_lp ?_
          intro ax_ hax_
          refine ⟨_, ?hq3m, ⟨k + 1, _, _, rfl, hax_.sub ⟨rfl, rfl, rfl, trivial⟩, S23.pick [0] [_] (by decide) ⟨rfl, trivial⟩, ?hq3f0, ?hq3f1, ?hq3f2⟩⟩
          case hq3f0 => first | assumption | omega
          case hq3f1 => (rw [gluW_take _ _ _ (by omega), ← hal]; have hto : ((acc.length : Int) - 1).toNat = acc.length - 1 := (by omega); unfold pushW; rw [← hto]; first | rw [if_pos ⟨by omega, by omega⟩] | rw [if_neg (by omega)])
          case hq3f2 => first | exact hsa.take_ _ | exact hsa.snoc_ (by omega)
          case hq3m => omega
      · have hg20 := of_decide_eq_false hg20
        refine wa_no (i := 3) (d := 21) 11 rfl (by kernel_rfl) (by kernel_rfl) (by kernel_rfl) ⟨_, _, _, rfl, rfl, rfl, rfl⟩ rfl rfl ?_
        refine wa_no (i := 4) (d := 22) 10 rfl (by kernel_rfl) (by kernel_rfl) (by kernel_rfl) ⟨_, _, _, rfl, rfl, rfl, rfl⟩ rfl rfl ?_
        refine wa_no (i := 5) (d := 23) 9 rfl (by kernel_rfl) (by kernel_rfl) (by kernel_rfl) ⟨_, _, _, rfl, rfl, rfl, rfl⟩ rfl rfl ?_
        refine wa_no (i := 6) (d := 24) 8 rfl (by kernel_rfl) (by kernel_rfl) (by kernel_rfl) ⟨_, _, _, rfl, rfl, rfl, rfl⟩ rfl rfl ?_
        refine wa_no (i := 7) (d := 25) 7 rfl (by kernel_rfl) (by kernel_rfl) (by kernel_rfl) ⟨_, _, _, rfl, rfl, rfl, rfl⟩ rfl rfl ?_
        refine wa_no (i := 8) (d := 26) 6 rfl (by kernel_rfl) (by kernel_rfl) (by kernel_rfl) ⟨_, _, _, rfl, rfl, rfl, rfl⟩ rfl rfl ?_
        refine wa_no (i := 9) (d := 27) 5 rfl (by kernel_rfl) (by kernel_rfl) (by kernel_rfl) ⟨_, _, _, rfl, rfl, rfl, rfl⟩ rfl rfl ?_
        refine wa_no (i := 10) (d := 28) 4 rfl (by kernel_rfl) (by kernel_rfl) (by kernel_rfl) ⟨_, _, _, rfl, rfl, rfl, rfl⟩ rfl rfl ?_
        refine wa_no (i := 11) (d := 29) 3 rfl (by kernel_rfl) (by kernel_rfl) (by kernel_rfl) ⟨_, _, _, rfl, rfl, rfl, rfl⟩ rfl rfl ?_
        refine wa_no (i := 12) (d := 30) 2 rfl (by kernel_rfl) (by kernel_rfl) (by kernel_rfl) ⟨_, _, _, rfl, rfl, rfl, rfl⟩ rfl rfl ?_
        refine wa_no (i := 13) (d := 31) 1 rfl (by kernel_rfl) (by kernel_rfl) (by kernel_rfl) ⟨_, _, _, rfl, rfl, rfl, rfl⟩ rfl rfl ?_
        refine wa_takeP (i := 14) (d := 32) 0 rfl (by kernel_rfl) (by kernel_rfl) (by kernel_rfl) rfl rfl rfl (fun w21 => run_pickF rfl rfl rfl) ?_
        refine wa_end (by kernel_rfl) (fun w22 S25 => ?_)
        refine nm_sub [(1, _), (5, _), (6, _), (7, _), (32, _)] ⟨rfl, rfl, rfl, rfl, rfl, trivial⟩ ?_
        refine nm_thn ?_
        refine ws_condFN glue_n25 rfl rfl rfl ?_
        refine ws_region rfl ?_
        refine wl_op (k := 0) (k' := 1) rfl rfl rfl (wo_run rfl rfl (run_move rfl rfl) ?_)
        refine wl_op (k := 1) (k' := 2) rfl rfl rfl (wo_run rfl rfl (run_move rfl rfl) ?_)
        refine wl_op (k := 2) (k' := 3) rfl rfl rfl (wo_run rfl rfl (run_move rfl rfl) ?_)
        refine wl_op (k := 3) (k' := 4) rfl rfl rfl (wo_run rfl rfl (run_indexM (C := cdInt) k rfl rfl rfl sl22 (by first | rfl | omega) ht (by first | omega | (simp only [List.length_set, List.length_append, List.length_replicate, List.length_singleton, List.length_cons, List.length_nil]; omega))) ?_)
        refine wl_op (k := 4) (k' := 5) rfl rfl rfl (wo_run rfl rfl (run_load1 rfl rfl Try.underlying3 rfl (ht.cell S25.um (i := k) (by first | omega | (simp only [List.length_set, List.length_append, List.length_replicate, List.length_singleton, List.length_cons, List.length_nil]; omega)) 0 rfl rfl)) ?_)
        refine wl_op (k := 5) (k' := 6) rfl rfl rfl (wo_buildSlice1 (C := cdInt) (l := [_]) rfl rfl rfl rfl sl22 rfl rfl rfl rfl S25 ?_)
        intro gb2 w23 S26; clear S25
        refine wl_op (k := 6) (k' := 7) rfl rfl rfl (wo_append1 (C := cdInt) (i := 1) (q := 0) (ga t k) rfl rfl rfl rfl rfl rfl rfl rfl sl22 S26 rfl rfl rfl (by show (_ + 1) * 8 ≤ _; first | omega | (simp only [List.length_set, List.length_append, List.length_replicate, List.length_singleton, List.length_cons, List.length_nil]; omega)) ?_)
        intro vro3 w24 S27; clear S26
        have S28 := S27.pick [1] [_] (by decide) ⟨rfl, trivial⟩; clear S27
        refine wl_op (k := 7) (k' := 8) rfl rfl rfl (wo_run rfl rfl (run_assign rfl rfl) ?_)
        refine wl_end rfl ?_
        refine nm_blk ?_
        refine nm_sub [(1, _), (5, _), (6, _)] ⟨rfl, rfl, rfl, trivial⟩ ?_
        refine nm_thn ?_
        refine ws_region rfl ?_
        refine wl_op (k := 0) (k' := 1) rfl rfl rfl (wo_run rfl rfl (run_move rfl rfl) ?_)
        refine wl_op (k := 1) (k' := 2) rfl rfl rfl (wo_run rfl rfl (run_add rfl rfl rfl (by first | omega | (simp only [List.length_set, List.length_append, List.length_replicate, List.length_singleton, List.length_cons, List.length_nil]; omega))) ?_)
        refine wl_op (k := 2) (k' := 3) rfl rfl rfl (wo_run rfl rfl (run_assign rfl rfl) ?_)
        refine wl_end rfl ?_
        refine nm_lp ?_
        intro ax_ hax_
        refine ⟨_, ?hq4m, ⟨k + 1, _, _, rfl, hax_.sub ⟨rfl, rfl, rfl, trivial⟩, S28.pick [0] [_] (by decide) ⟨rfl, trivial⟩, ?hq4f0, ?hq4f1, ?hq4f2⟩⟩
        case hq4f0 => first | assumption | omega
        case hq4f1 => (rw [gluW_take _ _ _ (by omega), ← hal]; have hto : ((acc.length : Int) - 1).toNat = acc.length - 1 := (by omega); unfold pushW; rw [← hto]; first | rw [if_pos ⟨by omega, by omega⟩] | rw [if_neg (by omega)])
        case hq4f2 => first | exact hsa.take_ _ | exact hsa.snoc_ (by omega)
        case hq4m => omega
    · have hb13 := of_decide_eq_false hb13
      refine ws_exit rfl rfl ?_
      refine nm_sub [(5, _)] ⟨rfl, trivial⟩ ?_
      refine nm_thn ?_
      refine ws_seqN glue_n26 glue_n27 rfl rfl rfl ?_
      refine ws_region rfl ?_
      refine wl_op (k := 0) (k' := 1) rfl rfl rfl (wo_run rfl rfl (run_move rfl rfl) ?_)
      refine wl_op (k := 1) (k' := 2) rfl rfl rfl (wo_run rfl rfl (run_assign rfl rfl) ?_)
      refine wl_end rfl ?_
      refine nm_sub [(4, _)] ⟨rfl, trivial⟩ ?_
      refine nm_thn ?_
      obtain ⟨M17, hle18, S29, ⟨A1, c1, e1, hr1⟩⟩ := S3.pubrow (i := 0) (H' := [_]) rfl rfl (by show _ * 8 ≤ _; first | omega | (simp only [List.length_set, List.length_append, List.length_replicate, List.length_singleton, List.length_cons, List.length_nil]; omega))
      clear S3; subst e1
      replace hs := hs.mono (Hp.un_mono hle18 S29.mx)
      replace ht := ht.mono (Hp.un_mono hle18 S29.mx)
      refine ws_ret hC [_] rfl rfl ⟨rfl, trivial⟩ ?_
      refine ⟨_, rfl, _, hle18, (S29.pick [] [] (by decide) trivial), ?_⟩
      obtain rfl : k = t.length := by omega
      have e : acc = gluW s t := by rw [hal, List.take_length]
      subst e
      exact ⟨_, _, rfl, hr1⟩

noncomputable def product_n0 : Code := Try.f26.body.getD .skip
noncomputable def product_n1 : Code := cL product_n0
noncomputable def product_n2 : Code := cR product_n0
noncomputable def product_n3 : Code := cL product_n2
noncomputable def product_n4 : Code := cR product_n2
noncomputable def product_n5 : Code := cL product_n4
noncomputable def product_n6 : Code := cR product_n4
noncomputable def product_n7 : Code := cL product_n5
noncomputable def product_n8 : Code := cR product_n5
noncomputable def product_n9 : Code := cL product_n8
noncomputable def product_n10 : Code := cL product_n9
noncomputable def product_n11 : Code := cL product_n10
noncomputable def product_n12 : Code := cR product_n10
noncomputable def product_n13 : Code := cL product_n12
noncomputable def product_n14 : Code := cR product_n12
noncomputable def product_n15 : Code := cL product_n13
noncomputable def product_n16 : Code := cR product_n13
noncomputable def product_n17 : Code := cL product_n14
noncomputable def product_n18 : Code := cR product_n14
noncomputable def product_n19 : Code := cL product_n17
noncomputable def product_n20 : Code := cL product_n19
noncomputable def product_n21 : Code := cR product_n19
noncomputable def product_n22 : Code := cL product_n21
noncomputable def product_n23 : Code := cR product_n21
noncomputable def product_n24 : Code := cL product_n23
noncomputable def product_n25 : Code := cL product_n24
noncomputable def product_n26 : Code := cL product_n25
noncomputable def product_n27 : Code := cR product_n25
noncomputable def product_n28 : Code := cL product_n27
noncomputable def product_n29 : Code := cR product_n27
noncomputable def product_n30 : Code := cL product_n28
noncomputable def product_n31 : Code := cR product_n28
noncomputable def product_n32 : Code := cL product_n29
noncomputable def product_n33 : Code := cR product_n29
noncomputable def product_n34 : Code := cL product_n32
noncomputable def product_n35 : Code := cL product_n34
noncomputable def product_n36 : Code := cR product_n34
noncomputable def product_n37 : Code := cL product_n36
noncomputable def product_n38 : Code := cR product_n36
noncomputable def product_n39 : Code := cL product_n38
noncomputable def product_n40 : Code := cR product_n38
noncomputable def product_n41 : Code := cL product_n40
noncomputable def product_n42 : Code := cR product_n40
noncomputable def product_n43 : Code := cL product_n6
noncomputable def product_n44 : Code := cR product_n6
set_option maxRecDepth 10000 in
theorem product_t {w : World} {M : Hp} {X : Fr} (l : List (List Int)) {lA : Option Addr} {lc : Nat} {lv : List SlV} (hl : RdA (cdV 22) (M.un X.h) lA lc lv) (hdl : Rd2 cdInt (M.un X.h) lv l) (hl1 : ∀ i, i < l.length → smW (ga l i)) (hro : totW l * 8 ≤ 140737488355328) (S : SH w M X []) : Ct Try.prog 26 [.slice lA lv.length lc] w M X (IsE (prodW l)) := by
  unfold Ct
  have rmhl : lv.length * 24 ≤ 140737488355328 := hl.room
  have hll := hdl.1
  refine calls_in (b := product_n0) Try.func26 rfl Try.ntmps26 rfl (fun C hC => ?_)
  refine ws_sub [(0, _)] ⟨rfl, trivial⟩ ?_
  refine ws_seqN product_n1 product_n2 rfl rfl rfl ?_
  refine ws_region rfl ?_
  refine wl_op (k := 0) (k' := 1) rfl rfl rfl (wo_run rfl rfl (run_assign rfl rfl) ?_)
  refine wl_end rfl ?_
  refine nm_sub [(0, _)] ⟨rfl, trivial⟩ ?_
  refine nm_thn ?_
  refine ws_seqN product_n3 product_n4 rfl rfl rfl ?_
  refine ws_region rfl ?_
  refine wl_op (k := 0) (k' := 1) rfl rfl rfl (wo_run rfl rfl (run_assign rfl rfl) ?_)
  refine wl_end rfl ?_
  refine nm_thn ?_
  refine ws_seqN product_n5 product_n6 rfl rfl rfl ?_
  refine ws_seqN product_n7 product_n8 rfl rfl rfl ?_
  refine ws_region rfl ?_
  refine wl_op (k := 0) (k' := 1) rfl rfl rfl (wo_run rfl rfl (run_move rfl rfl) ?_)
  refine wl_op (k := 1) (k' := 2) rfl rfl rfl (wo_run rfl rfl (run_len rfl rfl rfl rfl rfl rfl Try.underlying27) ?_)
  refine wl_op (k := 2) (k' := 3) rfl rfl rfl (wo_run rfl rfl (run_move rfl rfl) ?_)
  refine wl_end rfl ?_
  refine nm_sub [(3, _), (9, _), (10, _), (11, _)] ⟨rfl, rfl, rfl, rfl, trivial⟩ ?_
  refine nm_thn ?_
  refine ws_blockN product_n9 0 rfl rfl rfl ?_
  have S1 := S.nilrow cdInt; clear S
  refine ws_loopE (fun mx_ ax_ wx_ => ∃ (i : Nat) (acc0 : List Int) (vro : Value), mx_ = l.length - i ∧ Env 46 [(3, vro), (9, .slice lA lv.length lc), (10, .int .i64 (lv.length : Int)), (11, .int .i64 (i : Int))] ax_ ∧ SH wx_ M X [Rs.row cdInt vro acc0] ∧ i ≤ l.length ∧ acc0 = prodW (l.take i) ∧ smW acc0) rfl ?_ ?_
  · intro ax_ hax_
    refine ⟨_, ⟨0, _, _, rfl, hax_.sub ⟨rfl, rfl, rfl, rfl, trivial⟩, S1.pick [0] [_] (by decide) ⟨rfl, trivial⟩, ?hq1f0, ?hq1f1, ?hq1f2⟩⟩
    case hq1f0 => omega
    case hq1f1 => rfl
    case hq1f2 => (intro i hi; simp at hi)
  · rintro m1 a1 w1 ⟨i, acc0, vro, rfl, he1, S2, hi, hal0, hsa0⟩
    clear S1
    refine ws_in he1 (c := product_n10) rfl ?_
    clear he1 a1
    have htl0 := totW_le l i
    have h01 : acc0.length ≤ totW (l.take i) := by rw [hal0]; exact prodW_len _
    refine ws_seqN product_n11 product_n12 rfl rfl rfl ?_
    refine ws_region rfl ?_
    refine wl_op (k := 0) (k' := 1) rfl rfl rfl (wo_run rfl rfl (run_lss rfl rfl rfl) ?_)
    refine wl_end rfl ?_
    refine nm_thn ?_
    refine ws_seqN product_n13 product_n14 rfl rfl rfl ?_
    refine ws_condN product_n15 product_n16 rfl rfl rfl rfl (fun hb12 => ?_) (fun hb12 => ?_)
    · have hb12 := of_decide_eq_true hb12
      refine ws_skip rfl ?_
      refine nm_sub [(3, _), (9, _), (10, _), (11, _)] ⟨rfl, rfl, rfl, rfl, trivial⟩ ?_
      refine nm_thn ?_
      refine ws_seqN product_n17 product_n18 rfl rfl rfl ?_
      refine ws_blockN product_n19 1 rfl rfl rfl ?_
      refine ws_seqN product_n20 product_n21 rfl rfl rfl ?_
      refine ws_region rfl ?_
      refine wl_op (k := 0) (k' := 1) rfl rfl rfl (wo_run rfl rfl (run_indexM (C := (cdV 22)) i rfl rfl rfl sl27 (by first | rfl | omega) hl (by first | omega | (simp only [List.length_set, List.length_append, List.length_replicate, List.length_singleton, List.length_cons, List.length_nil]; omega))) ?_)
      obtain ⟨hn1, hr1⟩ := hdl.2 i (by first | omega | (simp only [List.length_set, List.length_append, List.length_replicate, List.length_singleton, List.length_cons, List.length_nil]; omega))
      refine wl_op (k := 1) (k' := 2) rfl rfl rfl (wo_run rfl rfl (run_load1 rfl rfl Try.underlying22 rfl (hl.cell S2.um (i := i) (by first | omega | (simp only [List.length_set, List.length_append, List.length_replicate, List.length_singleton, List.length_cons, List.length_nil]; omega)) 0 rfl (congrArg (fun n => some (Value.slice _ n _)) hn1))) ?_)
      refine wl_op (k := 2) (k' := 3) rfl rfl rfl (wo_run rfl rfl (run_assign rfl rfl) ?_)
      refine wl_end rfl ?_
      refine nm_sub [(3, _), (9, _), (10, _), (11, _), (5, _)] ⟨rfl, rfl, rfl, rfl, rfl, trivial⟩ ?_
      refine nm_thn ?_
      refine ws_seqN product_n22 product_n23 rfl rfl rfl ?_
      refine ws_region rfl ?_
      refine wl_op (k := 0) (k' := 1) rfl rfl rfl (wo_run rfl rfl (run_move rfl rfl) ?_)
      refine wl_op (k := 1) (k' := 2) rfl rfl rfl (wo_run rfl rfl (run_len rfl rfl rfl rfl rfl rfl Try.underlying22) ?_)
      refine wl_op (k := 2) (k' := 3) rfl rfl rfl (wo_run rfl rfl (run_move rfl rfl) ?_)
      refine wl_end rfl ?_
      refine nm_sub [(3, _), (9, _), (10, _), (11, _), (15, _), (16, _), (17, _)] ⟨rfl, rfl, rfl, rfl, rfl, rfl, rfl, trivial⟩ ?_
      refine nm_thn ?_
      refine ws_blockN product_n24 2 rfl rfl rfl ?_
      refine ws_loopE (fun mx_ ax_ wx_ => ∃ (k : Nat) (acc : List Int) (vro : Value), mx_ = (ga l i).length - k ∧ Env 46 [(3, vro), (9, .slice lA lv.length lc), (10, .int .i64 (lv.length : Int)), (11, .int .i64 (i : Int)), (15, .slice ((ga lv i).A) (ga l i).length ((ga lv i).c)), (16, .int .i64 ((ga l i).length : Int)), (17, .int .i64 (k : Int))] ax_ ∧ SH wx_ M X [Rs.row cdInt vro acc] ∧ k ≤ (ga l i).length ∧ acc = gluW acc0 ((ga l i).take k) ∧ smW acc) rfl ?_ ?_
      · intro ax_ hax_
        refine ⟨_, ⟨0, _, _, rfl, hax_.sub ⟨rfl, rfl, rfl, rfl, rfl, rfl, rfl, trivial⟩, S2.pick [0] [_] (by decide) ⟨rfl, trivial⟩, ?hq2f0, ?hq2f1, ?hq2f2⟩⟩
        case hq2f0 => omega
        case hq2f1 => rfl
        case hq2f2 => exact hsa0
      · rintro m2 a2 w2 ⟨k, acc, vro, rfl, he2, S3, hk, hal, hsa⟩
        clear S2
        refine ws_in he2 (c := product_n25) rfl ?_
        clear he2 a2
        have hlc : acc.length ≤ acc0.length + k := by rw [hal]; have h1 := gluW_len acc0 ((ga l i).take k); rw [List.length_take] at h1; omega
        have hmv := fun h0 => hl1 i h0 k
        have hma := fun h => hsa ((acc.length : Int) - 1).toNat h
        have hti := totW_take l i (by omega)
        have htl := totW_le l (i + 1)
        refine ws_seqN product_n26 product_n27 rfl rfl rfl ?_
        refine ws_region rfl ?_
        refine wl_op (k := 0) (k' := 1) rfl rfl rfl (wo_run rfl rfl (run_lss rfl rfl rfl) ?_)
        refine wl_end rfl ?_
        refine nm_thn ?_
        refine ws_seqN product_n28 product_n29 rfl rfl rfl ?_
        refine ws_condN product_n30 product_n31 rfl rfl rfl rfl (fun hb18 => ?_) (fun hb18 => ?_)
        · have hb18 := of_decide_eq_true hb18
          refine ws_skip rfl ?_
          refine nm_sub [(3, _), (9, _), (10, _), (11, _), (15, _), (16, _), (17, _)] ⟨rfl, rfl, rfl, rfl, rfl, rfl, rfl, trivial⟩ ?_
          refine nm_thn ?_
          refine ws_seqN product_n32 product_n33 rfl rfl rfl ?_
          refine ws_blockN product_n34 3 rfl rfl rfl ?_
          refine ws_seqN product_n35 product_n36 rfl rfl rfl ?_
          refine ws_region rfl ?_
          refine wl_op (k := 0) (k' := 1) rfl rfl rfl (wo_run rfl rfl (run_indexM (C := cdInt) k rfl rfl rfl sl22 (by first | rfl | omega) hr1 (by first | omega | (simp only [List.length_set, List.length_append, List.length_replicate, List.length_singleton, List.length_cons, List.length_nil]; omega))) ?_)
          refine wl_op (k := 1) (k' := 2) rfl rfl rfl (wo_run rfl rfl (run_load1 rfl rfl Try.underlying3 rfl (hr1.cell S3.um (i := k) (by first | omega | (simp only [List.length_set, List.length_append, List.length_replicate, List.length_singleton, List.length_cons, List.length_nil]; omega)) 0 rfl rfl)) ?_)
          refine wl_op (k := 2) (k' := 3) rfl rfl rfl (wo_run rfl rfl (run_assign rfl rfl) ?_)
          refine wl_end rfl ?_
          refine nm_sub [(3, _), (9, _), (10, _), (11, _), (15, _), (16, _), (17, _), (7, _)] ⟨rfl, rfl, rfl, rfl, rfl, rfl, rfl, rfl, trivial⟩ ?_
          refine nm_thn ?_
          refine ws_seqN product_n37 product_n38 rfl rfl rfl ?_
          refine ws_region rfl ?_
          refine wl_op (k := 0) (k' := 1) rfl rfl rfl (wo_run rfl rfl (run_move rfl rfl) ?_)
          refine wl_op (k := 1) (k' := 2) rfl rfl rfl (wo_run rfl rfl (run_lenR (C := cdInt) (i := 0) rfl rfl rfl rfl rfl rfl sl22 S3 rfl) ?_)
          refine wl_op (k := 2) (k' := 3) rfl rfl rfl (wo_run rfl rfl (run_assign rfl rfl) ?_)
          refine wl_end rfl ?_
          refine nm_sub [(3, _), (9, _), (10, _), (11, _), (15, _), (16, _), (17, _), (7, _), (8, _)] ⟨rfl, rfl, rfl, rfl, rfl, rfl, rfl, rfl, rfl, trivial⟩ ?_
          refine nm_thn ?_
          refine ws_seqN product_n39 product_n40 rfl rfl rfl ?_
          refine ws_region rfl ?_
          refine wl_op (k := 0) (k' := 1) rfl rfl rfl (wo_run rfl rfl (run_move rfl rfl) ?_)
          refine wl_op (k := 1) (k' := 2) rfl rfl rfl (wo_run rfl rfl (run_gtr rfl rfl rfl) ?_)
          refine wl_op (k := 2) (k' := 3) rfl rfl rfl (wo_run rfl rfl (run_move rfl rfl) ?_)
          refine wl_split (t := 25) rfl (fun hg25 => ?_) (fun hg25 => ?_)
          · have hg25 := of_decide_eq_true hg25
            refine wl_opG (k := 3) (k' := 4) rfl rfl ⟨_, _, _, rfl, rfl, rfl, rfl⟩ rfl (wo_run rfl rfl (run_move rfl rfl) ?_)
            refine wl_opG (k := 4) (k' := 5) rfl rfl ⟨_, _, _, rfl, rfl, rfl, rfl⟩ rfl (wo_run rfl rfl (run_move rfl rfl) ?_)
            refine wl_opG (k := 5) (k' := 6) rfl rfl ⟨_, _, _, rfl, rfl, rfl, rfl⟩ rfl (wo_run rfl rfl (run_sub rfl rfl rfl (by first | omega | (simp only [List.length_set, List.length_append, List.length_replicate, List.length_singleton, List.length_cons, List.length_nil]; omega))) ?_)
            refine wl_opG (k := 6) (k' := 7) rfl rfl ⟨_, _, _, rfl, rfl, rfl, rfl⟩ rfl (wo_run rfl rfl (run_indexR (C := cdInt) (i := 0) (((acc.length : Int) - 1).toNat) rfl rfl rfl sl22 S3 rfl (by first | rfl | omega) (by first | omega | (simp only [List.length_set, List.length_append, List.length_replicate, List.length_singleton, List.length_cons, List.length_nil]; omega))) ?_)
            refine wl_opG (k := 7) (k' := 8) rfl rfl ⟨_, _, _, rfl, rfl, rfl, rfl⟩ rfl (wo_run rfl rfl (run_load1 rfl rfl Try.underlying3 rfl (S3.rowc (i := 0) (e := ((acc.length : Int) - 1).toNat) (j := 0) rfl (by first | omega | (simp only [List.length_set, List.length_append, List.length_replicate, List.length_singleton, List.length_cons, List.length_nil]; omega)) rfl rfl)) ?_)
            refine wl_opG (k := 8) (k' := 9) rfl rfl ⟨_, _, _, rfl, rfl, rfl, rfl⟩ rfl (wo_run rfl rfl (run_move rfl rfl) ?_)
            refine wl_opG (k := 9) (k' := 10) rfl rfl ⟨_, _, _, rfl, rfl, rfl, rfl⟩ rfl (wo_run rfl rfl (run_neg rfl rfl (by first | omega | (simp only [List.length_set, List.length_append, List.length_replicate, List.length_singleton, List.length_cons, List.length_nil]; omega))) ?_)
            refine wl_opG (k := 10) (k' := 11) rfl rfl ⟨_, _, _, rfl, rfl, rfl, rfl⟩ rfl (wo_run rfl rfl (run_eql rfl rfl rfl) ?_)
            refine wl_op (k := 11) (k' := 12) rfl rfl rfl (wo_run rfl rfl (run_pickT rfl rfl rfl) ?_)
            refine wl_end rfl ?_
            refine nm_sub [(3, _), (9, _), (10, _), (11, _), (15, _), (16, _), (17, _), (7, _), (8, _), (34, _)] ⟨rfl, rfl, rfl, rfl, rfl, rfl, rfl, rfl, rfl, rfl, trivial⟩ ?_
            refine nm_thn ?_
            refine ws_condN product_n41 product_n42 rfl rfl rfl rfl (fun hb34 => ?_) (fun hb34 => ?_)
            · have hb34 := of_decide_eq_true hb34
              refine ws_region rfl ?_
              refine wl_op (k := 0) (k' := 1) rfl rfl rfl (wo_run rfl rfl (run_move rfl rfl) ?_)
              refine wl_op (k := 1) (k' := 2) rfl rfl rfl (wo_run rfl rfl (run_move rfl rfl) ?_)
              refine wl_op (k := 2) (k' := 3) rfl rfl rfl (wo_run rfl rfl (run_sub rfl rfl rfl (by first | omega | (simp only [List.length_set, List.length_append, List.length_replicate, List.length_singleton, List.length_cons, List.length_nil]; omega))) ?_)
              refine wl_op (k := 3) (k' := 4) rfl rfl rfl (wo_takeR (C := cdInt) (i := 0) (((acc.length : Int) - 1).toNat) rfl rfl rfl rfl rfl sl22 (by first | rfl | omega) (by first | omega | (simp only [List.length_set, List.length_append, List.length_replicate, List.length_singleton, List.length_cons, List.length_nil]; omega)) S3 rfl ?_)
              intro vro1 S4; clear S3
              change SH _ _ _ [Rs.row cdInt vro1 (acc.take (((acc.length : Int) - 1).toNat))] at S4
              refine wl_op (k := 4) (k' := 5) rfl rfl rfl (wo_run rfl rfl (run_assign rfl rfl) ?_)
              refine wl_end rfl ?_
              refine nm_blk ?_
              refine nm_sub [(3, _), (9, _), (10, _), (11, _), (15, _), (16, _), (17, _)] ⟨rfl, rfl, rfl, rfl, rfl, rfl, rfl, trivial⟩ ?_
              refine nm_thn ?_
              refine ws_region rfl ?_
              refine wl_op (k := 0) (k' := 1) rfl rfl rfl (wo_run rfl rfl (run_add rfl rfl rfl (by first | omega | (simp only [List.length_set, List.length_append, List.length_replicate, List.length_singleton, List.length_cons, List.length_nil]; omega))) ?_)
              refine wl_op (k := 1) (k' := 2) rfl rfl rfl (wo_run rfl rfl (run_move rfl rfl) ?_)
              refine wl_end rfl ?_
              refine nm_lp ?_
              intro ax_ hax_
              refine ⟨_, ?hq3m, ⟨k + 1, _, _, rfl, hax_.sub ⟨rfl, rfl, rfl, rfl, rfl, rfl, rfl, trivial⟩, S4.pick [0] [_] (by decide) ⟨rfl, trivial⟩, ?hq3f0, ?hq3f1, ?hq3f2⟩⟩
              case hq3f0 => omega
              case hq3f1 => (rw [gluW_take _ _ _ (by omega), ← hal]; have hto : ((acc.length : Int) - 1).toNat = acc.length - 1 := (by omega); unfold pushW; rw [← hto]; first | rw [if_pos ⟨by omega, by omega⟩] | rw [if_neg (by omega)])
              case hq3f2 => first | exact hsa.take_ _ | exact hsa.snoc_ (by omega)
              case hq3m => omega
            · have hb34 := of_decide_eq_false hb34
              refine ws_region rfl ?_
              refine wl_op (k := 0) (k' := 1) rfl rfl rfl (wo_run rfl rfl (run_move rfl rfl) ?_)
              refine wl_op (k := 1) (k' := 2) rfl rfl rfl (wo_run rfl rfl (run_move rfl rfl) ?_)
              refine wl_op (k := 2) (k' := 3) rfl rfl rfl (wo_buildSlice1 (C := cdInt) (l := [_]) rfl rfl rfl rfl sl22 rfl rfl rfl rfl S3 ?_)
              intro gb1 w3 S5; clear S3
              refine wl_op (k := 3) (k' := 4) rfl rfl rfl (wo_append1 (C := cdInt) (i := 1) (q := 0) (ga (ga l i) k) rfl rfl rfl rfl rfl rfl rfl rfl sl22 S5 rfl rfl rfl (by show (_ + 1) * 8 ≤ _; first | omega | (simp only [List.length_set, List.length_append, List.length_replicate, List.length_singleton, List.length_cons, List.length_nil]; omega)) ?_)
              intro vro2 w4 S6; clear S5
              have S7 := S6.pick [1] [_] (by decide) ⟨rfl, trivial⟩; clear S6
              refine wl_op (k := 4) (k' := 5) rfl rfl rfl (wo_run rfl rfl (run_assign rfl rfl) ?_)
              refine wl_end rfl ?_
              refine nm_blk ?_
              refine nm_sub [(3, _), (9, _), (10, _), (11, _), (15, _), (16, _), (17, _)] ⟨rfl, rfl, rfl, rfl, rfl, rfl, rfl, trivial⟩ ?_
              refine nm_thn ?_
              refine ws_region rfl ?_
              refine wl_op (k := 0) (k' := 1) rfl rfl rfl (wo_run rfl rfl (run_add rfl rfl rfl (by first | omega | (simp only [List.length_set, List.length_append, List.length_replicate, List.length_singleton, List.length_cons, List.length_nil]; omega))) ?_)
              refine wl_op (k := 1) (k' := 2) rfl rfl rfl (wo_run rfl rfl (run_move rfl rfl) ?_)
              refine wl_end rfl ?_
              refine nm_lp ?_
              intro ax_ hax_
              refine ⟨_, ?hq4m, ⟨k + 1, _, _, rfl, hax_.sub ⟨rfl, rfl, rfl, rfl, rfl, rfl, rfl, trivial⟩, S7.pick [0] [_] (by decide) ⟨rfl, trivial⟩, ?hq4f0, ?hq4f1, ?hq4f2⟩⟩
              case hq4f0 => omega
              case hq4f1 => (rw [gluW_take _ _ _ (by omega), ← hal]; have hto : ((acc.length : Int) - 1).toNat = acc.length - 1 := (by omega); unfold pushW; rw [← hto]; first | rw [if_pos ⟨by omega, by omega⟩] | rw [if_neg (by omega)])
              case hq4f2 => first | exact hsa.take_ _ | exact hsa.snoc_ (by omega)
              case hq4m => omega
          · have hg25 := of_decide_eq_false hg25
            refine wl_no (k := 3) (k' := 4) (d := 26) rfl rfl ⟨_, _, _, rfl, rfl, rfl, rfl⟩ rfl rfl ?_
            refine wl_no (k := 4) (k' := 5) (d := 27) rfl rfl ⟨_, _, _, rfl, rfl, rfl, rfl⟩ rfl rfl ?_
            refine wl_no (k := 5) (k' := 6) (d := 28) rfl rfl ⟨_, _, _, rfl, rfl, rfl, rfl⟩ rfl rfl ?_
            refine wl_no (k := 6) (k' := 7) (d := 29) rfl rfl ⟨_, _, _, rfl, rfl, rfl, rfl⟩ rfl rfl ?_
            refine wl_no (k := 7) (k' := 8) (d := 30) rfl rfl ⟨_, _, _, rfl, rfl, rfl, rfl⟩ rfl rfl ?_
            refine wl_no (k := 8) (k' := 9) (d := 31) rfl rfl ⟨_, _, _, rfl, rfl, rfl, rfl⟩ rfl rfl ?_
            refine wl_no (k := 9) (k' := 10) (d := 32) rfl rfl ⟨_, _, _, rfl, rfl, rfl, rfl⟩ rfl rfl ?_
            refine wl_no (k := 10) (k' := 11) (d := 33) rfl rfl ⟨_, _, _, rfl, rfl, rfl, rfl⟩ rfl rfl ?_
            refine wl_op (k := 11) (k' := 12) rfl rfl rfl (wo_run rfl rfl (run_pickF rfl rfl rfl) ?_)
            refine wl_end rfl ?_
            refine nm_sub [(3, _), (9, _), (10, _), (11, _), (15, _), (16, _), (17, _), (7, _), (8, _), (34, _)] ⟨rfl, rfl, rfl, rfl, rfl, rfl, rfl, rfl, rfl, rfl, trivial⟩ ?_
            refine nm_thn ?_
            refine ws_condFN product_n42 rfl rfl rfl ?_
            refine ws_region rfl ?_
            refine wl_op (k := 0) (k' := 1) rfl rfl rfl (wo_run rfl rfl (run_move rfl rfl) ?_)
            refine wl_op (k := 1) (k' := 2) rfl rfl rfl (wo_run rfl rfl (run_move rfl rfl) ?_)
            refine wl_op (k := 2) (k' := 3) rfl rfl rfl (wo_buildSlice1 (C := cdInt) (l := [_]) rfl rfl rfl rfl sl22 rfl rfl rfl rfl S3 ?_)
            intro gb2 w5 S8; clear S3
            refine wl_op (k := 3) (k' := 4) rfl rfl rfl (wo_append1 (C := cdInt) (i := 1) (q := 0) (ga (ga l i) k) rfl rfl rfl rfl rfl rfl rfl rfl sl22 S8 rfl rfl rfl (by show (_ + 1) * 8 ≤ _; first | omega | (simp only [List.length_set, List.length_append, List.length_replicate, List.length_singleton, List.length_cons, List.length_nil]; omega)) ?_)
            intro vro3 w6 S9; clear S8
            have S10 := S9.pick [1] [_] (by decide) ⟨rfl, trivial⟩; clear S9
            refine wl_op (k := 4) (k' := 5) rfl rfl rfl (wo_run rfl rfl (run_assign rfl rfl) ?_)
            refine wl_end rfl ?_
            refine nm_blk ?_
            refine nm_sub [(3, _), (9, _), (10, _), (11, _), (15, _), (16, _), (17, _)] ⟨rfl, rfl, rfl, rfl, rfl, rfl, rfl, trivial⟩ ?_
            refine nm_thn ?_
            refine ws_region rfl ?_
            refine wl_op (k := 0) (k' := 1) rfl rfl rfl (wo_run rfl rfl (run_add rfl rfl rfl (by first | omega | (simp only [List.length_set, List.length_append, List.length_replicate, List.length_singleton, List.length_cons, List.length_nil]; omega))) ?_)
            refine wl_op (k := 1) (k' := 2) rfl rfl rfl (wo_run rfl rfl (run_move rfl rfl) ?_)
            refine wl_end rfl ?_
            refine nm_lp ?_
            intro ax_ hax_
            refine ⟨_, ?hq5m, ⟨k + 1, _, _, rfl, hax_.sub ⟨rfl, rfl, rfl, rfl, rfl, rfl, rfl, trivial⟩, S10.pick [0] [_] (by decide) ⟨rfl, trivial⟩, ?hq5f0, ?hq5f1, ?hq5f2⟩⟩
            case hq5f0 => omega
            case hq5f1 => (rw [gluW_take _ _ _ (by omega), ← hal]; have hto : ((acc.length : Int) - 1).toNat = acc.length - 1 := (by omega); unfold pushW; rw [← hto]; first | rw [if_pos ⟨by omega, by omega⟩] | rw [if_neg (by omega)])
            case hq5f2 => first | exact hsa.take_ _ | exact hsa.snoc_ (by omega)
            case hq5m => omega
        · have hb18 := of_decide_eq_false hb18
          refine ws_exit rfl rfl ?_
          refine nm_blk ?_
          refine nm_sub [(3, _), (9, _), (10, _), (11, _)] ⟨rfl, rfl, rfl, rfl, trivial⟩ ?_
          refine nm_thn ?_
          refine ws_region rfl ?_
          refine wl_op (k := 0) (k' := 1) rfl rfl rfl (wo_run rfl rfl (run_add rfl rfl rfl (by first | omega | (simp only [List.length_set, List.length_append, List.length_replicate, List.length_singleton, List.length_cons, List.length_nil]; omega))) ?_)
          refine wl_op (k := 1) (k' := 2) rfl rfl rfl (wo_run rfl rfl (run_move rfl rfl) ?_)
          refine wl_end rfl ?_
          refine nm_lp ?_
          intro ax_ hax_
          refine ⟨_, ?hq6m, ⟨i + 1, _, _, rfl, hax_.sub ⟨rfl, rfl, rfl, rfl, trivial⟩, S3.pick [0] [_] (by decide) ⟨rfl, trivial⟩, ?hq6f0, ?hq6f1, ?hq6f2⟩⟩
          case hq6f0 => omega
          case hq6f1 => (rw [prodW_take _ _ (by omega), hal, ← hal0, show k = (ga l i).length by omega, List.take_length])
          case hq6f2 => exact hsa
          case hq6m => omega
    · have hb12 := of_decide_eq_false hb12
      refine ws_exit rfl rfl ?_
      refine nm_sub [(3, _)] ⟨rfl, trivial⟩ ?_
      refine nm_thn ?_
      refine ws_seqN product_n43 product_n44 rfl rfl rfl ?_
      refine ws_region rfl ?_
      refine wl_op (k := 0) (k' := 1) rfl rfl rfl (wo_run rfl rfl (run_move rfl rfl) ?_)
      refine wl_op (k := 1) (k' := 2) rfl rfl rfl (wo_run rfl rfl (run_assign rfl rfl) ?_)
      refine wl_end rfl ?_
      refine nm_sub [(2, _)] ⟨rfl, trivial⟩ ?_
      refine nm_thn ?_
      obtain ⟨M1, hle3, S11, ⟨A1, c1, e1, hr2⟩⟩ := S2.pubrow (i := 0) (H' := [_]) rfl rfl (by show _ * 8 ≤ _; first | omega | (simp only [List.length_set, List.length_append, List.length_replicate, List.length_singleton, List.length_cons, List.length_nil]; omega))
      clear S2; subst e1
      replace hl := hl.mono (Hp.un_mono hle3 S11.mx)
      replace hdl := hdl.mono (Hp.un_mono hle3 S11.mx)
      refine ws_ret hC [_] rfl rfl ⟨rfl, trivial⟩ ?_
      refine ⟨_, rfl, _, hle3, (S11.pick [] [] (by decide) trivial), ?_⟩
      obtain rfl : i = l.length := by omega
      have e : acc0 = prodW l := by rw [hal0, List.take_length]
      subst e
      exact ⟨_, _, rfl, hr2⟩

end Go.Proofs.Ythfiblbkkjcliaa
