/- Walks printed by eng.py. -/
import Derived.Test.YtlbpgnimpcflaaaQ4
import Derived.Test.YtlbpgnimpcflaaaE8
set_option linter.unusedSimpArgs false
set_option linter.unusedVariables false
namespace Go.Proofs.Ytlbpgnimpcflaaa
open Go.ChangeShapes Go.WideShapes Go.ChangeAt Go.RowKit
/-- Of each arc its strand. -/
def putR (i : Nat) (l ps : List Int) : Nat → List Int
  | 0 => ps
  | k + 1 => (putR i l ps k).set (ga l k).toNat (i : Int)
def prtN (d : Dg) : Nat → List Int
  | 0 => List.replicate (2 * d.crs.length + 1) 0
  | i + 1 => putR i (ga (strandsL d) i) (prtN d i) (ga (strandsL d) i).length
def prtL (d : Dg) : List Int := prtN d (strandsL d).length
theorem putR_len (i : Nat) (l ps : List Int) (k : Nat) : (putR i l ps k).length = ps.length := by
  induction k with
  | zero => rfl
  | succ k ih => rw [putR, List.length_set, ih]
theorem prtN_len (d : Dg) (i : Nat) : (prtN d i).length = 2 * d.crs.length + 1 := by
  induction i with
  | zero => exact List.length_replicate
  | succ i ih => rw [prtN, putR_len, ih]
theorem ringF_rng {nx : Nat → Nat} {N : Nat} (hnx : ∀ x, 1 ≤ x → x ≤ N → 1 ≤ nx x ∧ nx x ≤ N) (seen : List Bool) (x : Nat) (acc : List Int) (hx : 1 ≤ x ∧ x ≤ N) (ha : ∀ y ∈ acc, 1 ≤ y ∧ y ≤ (N : Int)) : ∀ y ∈ (ringF nx seen x acc).2, 1 ≤ y ∧ y ≤ (N : Int) := by
  induction hk : free seen using Nat.strongRecOn generalizing seen x acc with
  | _ k ih =>
    by_cases h : x < seen.length ∧ ga seen x = false
    · rw [ringF_go h.1 h.2]
      have := free_set h.1 h.2
      refine ih (free (seen.set x true)) (by omega) _ _ _ (hnx x hx.1 hx.2) (fun y hy => ?_) rfl
      rcases List.mem_append.1 hy with hy | hy
      · exact ha y hy
      · rw [List.mem_singleton] at hy; omega
    · rw [ringF]
      simp only [h, dite_false]
      exact ha
theorem ringsF_rng {nx : Nat → Nat} {N : Nat} (hnx : ∀ x, 1 ≤ x → x ≤ N → 1 ≤ nx x ∧ nx x ≤ N) (K A : Nat) (hA : A ≤ N) : ∀ r ∈ (ringsF nx K A).2, ∀ y ∈ r, 1 ≤ y ∧ y ≤ (N : Int) := by
  induction A with
  | zero => intro r hr; simp [ringsF] at hr
  | succ A ih =>
    by_cases h : ga (ringsF nx K A).1 (A + 1) = true
    · rw [ringsF_skip h]; exact ih (by omega)
    · rw [ringsF_ring (by simpa using h)]
      intro r hr
      rcases List.mem_append.1 hr with hr | hr
      · exact ih (by omega) r hr
      · rw [List.mem_singleton] at hr
        subst hr
        exact ringF_rng hnx _ _ _ (by omega) (by simp)
theorem strands_rng {d : Dg} (h : arcsB d = true) {i : Nat} (hi : i < (strandsL d).length) : ∀ y ∈ ga (strandsL d) i, 1 ≤ y ∧ y ≤ ((2 * d.crs.length : Nat) : Int) :=
  ringsF_rng (fun x h1 h2 => (nextN_eq h h1 h2).2) _ _ (Nat.le_refl _) _ (by rw [ga_eq hi]; exact List.getElem_mem hi)

noncomputable def within_n0 : Code := Try.f65.body.getD .skip
noncomputable def within_n1 : Code := cL within_n0
noncomputable def within_n2 : Code := cR within_n0
noncomputable def within_n3 : Code := cL within_n2
noncomputable def within_n4 : Code := cR within_n2
noncomputable def within_n5 : Code := cL within_n3
noncomputable def within_n6 : Code := cR within_n3
noncomputable def within_n7 : Code := cL within_n6
noncomputable def within_n8 : Code := cL within_n7
noncomputable def within_n9 : Code := cL within_n8
noncomputable def within_n10 : Code := cR within_n8
noncomputable def within_n11 : Code := cL within_n9
noncomputable def within_n12 : Code := cR within_n9
noncomputable def within_n13 : Code := cL within_n12
noncomputable def within_n14 : Code := cR within_n12
noncomputable def within_n15 : Code := cL within_n10
noncomputable def within_n16 : Code := cR within_n10
noncomputable def within_n17 : Code := cL within_n15
noncomputable def within_n18 : Code := cL within_n17
noncomputable def within_n19 : Code := cR within_n17
noncomputable def within_n20 : Code := cL within_n19
noncomputable def within_n21 : Code := cR within_n19
noncomputable def within_n22 : Code := cL within_n20
noncomputable def within_n23 : Code := cR within_n20
noncomputable def within_n24 : Code := cL within_n4
noncomputable def within_n25 : Code := cR within_n4
set_option maxRecDepth 10000 in
theorem within_q {w : World} {M : Hp} {X : Fr} (l : List Int) {lA : Option Addr} {lc : Nat} (x : Int) (hl : RdA cdInt (M.un X.h) lA lc l) (S : SH w M X []) : Cq Try.prog 65 [.slice lA l.length lc, .int .i64 x] w M X (fun u => u = .bool (l.contains x)) := by
  unfold Cq
  have rmhl : l.length * 8 ≤ 140737488355328 := hl.room
  refine calls_in (b := within_n0) Try.func65 rfl Try.ntmps65 rfl (fun C hC => ?_)
  refine ws_sub [(0, _), (1, _)] ⟨rfl, rfl, trivial⟩ ?_
  refine ws_seqN within_n1 within_n2 rfl rfl rfl ?_
  refine ws_region rfl ?_
  refine wl_op (k := 0) (k' := 1) rfl rfl rfl (wo_run rfl rfl (run_assign rfl rfl) ?_)
  refine wl_end rfl ?_
  refine nm_sub [(0, _), (1, _)] ⟨rfl, rfl, trivial⟩ ?_
  refine nm_thn ?_
  refine ws_seqN within_n3 within_n4 rfl rfl rfl ?_
  refine ws_seqN within_n5 within_n6 rfl rfl rfl ?_
  refine ws_region rfl ?_
  refine wl_op (k := 0) (k' := 1) rfl rfl rfl (wo_run rfl rfl (run_assign rfl rfl) ?_)
  refine wl_end rfl ?_
  refine nm_thn ?_
  refine ws_blockN within_n7 0 rfl rfl rfl ?_
  refine ws_loopE (fun mx_ ax_ wx_ => ∃ (i : Nat), mx_ = l.length - i ∧ Env 18 [(0, .slice lA l.length lc), (1, .int .i64 x), (5, .int .i64 (i : Int))] ax_ ∧ SH wx_ M X [] ∧ i ≤ l.length ∧ (∀ j, j < i → ga l j ≠ x)) rfl ?_ ?_
  · intro ax_ hax_
    refine ⟨_, ⟨0, rfl, hax_.sub ⟨rfl, rfl, rfl, trivial⟩, S.pick [] [] (by decide) trivial, ?hq1f0, ?hq1f1⟩⟩
    case hq1f0 => omega
    case hq1f1 => (intro j hj; omega)
  · rintro m1 a1 w1 ⟨i, rfl, he1, S1, hi, hno⟩
    clear S
    refine ws_in he1 (c := within_n8) rfl ?_
    clear he1 a1
    refine ws_seqN within_n9 within_n10 rfl rfl rfl ?_
    refine ws_seqN within_n11 within_n12 rfl rfl rfl ?_
    refine ws_region rfl ?_
    refine wl_op (k := 0) (k' := 1) rfl rfl rfl (wo_run rfl rfl (run_move rfl rfl) ?_)
    refine wl_op (k := 1) (k' := 2) rfl rfl rfl (wo_run rfl rfl (run_move rfl rfl) ?_)
    refine wl_op (k := 2) (k' := 3) rfl rfl rfl (wo_run rfl rfl (run_len rfl rfl rfl rfl rfl rfl Try.underlying44) ?_)
    refine wl_op (k := 3) (k' := 4) rfl rfl rfl (wo_run rfl rfl (run_lss rfl rfl rfl) ?_)
    refine wl_end rfl ?_
    refine nm_sub [(0, _), (1, _), (5, _), (9, _)] ⟨rfl, rfl, rfl, rfl, trivial⟩ ?_
    refine nm_thn ?_
    refine ws_condN within_n13 within_n14 rfl rfl rfl rfl (fun hb9 => ?_) (fun hb9 => ?_)
    · have hb9 := of_decide_eq_true hb9
      refine ws_skip rfl ?_
      refine nm_sub [(0, _), (1, _), (5, _)] ⟨rfl, rfl, rfl, trivial⟩ ?_
      refine nm_thn ?_
      refine ws_seqN within_n15 within_n16 rfl rfl rfl ?_
      refine ws_blockN within_n17 1 rfl rfl rfl ?_
      refine ws_seqN within_n18 within_n19 rfl rfl rfl ?_
      refine ws_region rfl ?_
      refine wl_op (k := 0) (k' := 1) rfl rfl rfl (wo_run rfl rfl (run_move rfl rfl) ?_)
      refine wl_op (k := 1) (k' := 2) rfl rfl rfl (wo_run rfl rfl (run_move rfl rfl) ?_)
      refine wl_op (k := 2) (k' := 3) rfl rfl rfl (wo_run rfl rfl (run_indexM (C := cdInt) i rfl rfl rfl sl44 (by first | rfl | omega) hl (by first | omega | (simp only [List.length_set, List.length_append, List.length_replicate, List.length_singleton, List.length_cons, List.length_nil]; omega))) ?_)
      refine wl_op (k := 3) (k' := 4) rfl rfl rfl (wo_run rfl rfl (run_load1 rfl rfl Try.underlying3 rfl (hl.cell S1.um (i := i) (by first | omega | (simp only [List.length_set, List.length_append, List.length_replicate, List.length_singleton, List.length_cons, List.length_nil]; omega)) 0 rfl rfl)) ?_)
      refine wl_op (k := 4) (k' := 5) rfl rfl rfl (wo_run rfl rfl (run_move rfl rfl) ?_)
      refine wl_op (k := 5) (k' := 6) rfl rfl rfl (wo_run rfl rfl (run_eql rfl rfl rfl) ?_)
      refine wl_end rfl ?_
      refine nm_sub [(0, _), (1, _), (5, _), (17, _)] ⟨rfl, rfl, rfl, rfl, trivial⟩ ?_
      refine nm_thn ?_
      refine ws_condN within_n20 within_n21 rfl rfl rfl rfl (fun hb17 => ?_) (fun hb17 => ?_)
      · have hb17 := of_decide_eq_true hb17
        refine ws_seqN within_n22 within_n23 rfl rfl rfl ?_
        refine ws_region rfl ?_
        refine wl_op (k := 0) (k' := 1) rfl rfl rfl (wo_run rfl rfl (run_assign rfl rfl) ?_)
        refine wl_end rfl ?_
        refine nm_sub [(4, _)] ⟨rfl, trivial⟩ ?_
        refine nm_thn ?_
        refine ws_ret hC [_] rfl rfl ⟨rfl, trivial⟩ ?_
        exact ⟨_, rfl, (S1.pick [] [] (by decide) trivial), (by show Value.bool _ = _; refine congrArg Value.bool ?_; symm; first | (rw [List.contains_iff_mem]; exact (by assumption : ga l i = x) ▸ ga_mem (by omega)) | (rw [Bool.eq_false_iff, Ne, List.contains_iff_mem]; intro hm; obtain ⟨j, hj, e⟩ := List.mem_iff_getElem.1 hm; exact hno j (by omega) (by rw [ga_eq hj]; exact e)))⟩
      · have hb17 := of_decide_eq_false hb17
        refine ws_skip rfl ?_
        refine nm_blk ?_
        refine nm_sub [(0, _), (1, _), (5, _)] ⟨rfl, rfl, rfl, trivial⟩ ?_
        refine nm_thn ?_
        refine ws_region rfl ?_
        refine wl_op (k := 0) (k' := 1) rfl rfl rfl (wo_run rfl rfl (run_move rfl rfl) ?_)
        refine wl_op (k := 1) (k' := 2) rfl rfl rfl (wo_run rfl rfl (run_add rfl rfl rfl (by first | omega | (simp only [List.length_set, List.length_append, List.length_replicate, List.length_singleton, List.length_cons, List.length_nil]; omega))) ?_)
        refine wl_op (k := 2) (k' := 3) rfl rfl rfl (wo_run rfl rfl (run_assign rfl rfl) ?_)
        refine wl_end rfl ?_
        refine nm_lp ?_
        intro ax_ hax_
        refine ⟨_, ?hq2m, ⟨i + 1, rfl, hax_.sub ⟨rfl, rfl, rfl, trivial⟩, S1.pick [] [] (by decide) trivial, ?hq2f0, ?hq2f1⟩⟩
        case hq2f0 => omega
        case hq2f1 => (intro j hj; by_cases e : j = i; (subst e; assumption); exact hno j (by omega))
        case hq2m => omega
    · have hb9 := of_decide_eq_false hb9
      refine ws_exit rfl rfl ?_
      refine nm_sub [] trivial ?_
      refine nm_thn ?_
      refine ws_seqN within_n24 within_n25 rfl rfl rfl ?_
      refine ws_region rfl ?_
      refine wl_op (k := 0) (k' := 1) rfl rfl rfl (wo_run rfl rfl (run_assign rfl rfl) ?_)
      refine wl_end rfl ?_
      refine nm_thn ?_
      refine ws_ret hC [_] rfl rfl ⟨rfl, trivial⟩ ?_
      exact ⟨_, rfl, (S1.pick [] [] (by decide) trivial), (by show Value.bool _ = _; refine congrArg Value.bool ?_; symm; first | (rw [List.contains_iff_mem]; exact (by assumption : ga l i = x) ▸ ga_mem (by omega)) | (rw [Bool.eq_false_iff, Ne, List.contains_iff_mem]; intro hm; obtain ⟨j, hj, e⟩ := List.mem_iff_getElem.1 hm; exact hno j (by omega) (by rw [ga_eq hj]; exact e)))⟩

noncomputable def sameInts_n0 : Code := Try.f22.body.getD .skip
noncomputable def sameInts_n1 : Code := cL sameInts_n0
noncomputable def sameInts_n2 : Code := cR sameInts_n0
noncomputable def sameInts_n3 : Code := cL sameInts_n2
noncomputable def sameInts_n4 : Code := cR sameInts_n2
noncomputable def sameInts_n5 : Code := cL sameInts_n3
noncomputable def sameInts_n6 : Code := cR sameInts_n3
noncomputable def sameInts_n7 : Code := cL sameInts_n6
noncomputable def sameInts_n8 : Code := cR sameInts_n6
noncomputable def sameInts_n9 : Code := cL sameInts_n4
noncomputable def sameInts_n10 : Code := cR sameInts_n4
noncomputable def sameInts_n11 : Code := cL sameInts_n9
noncomputable def sameInts_n12 : Code := cR sameInts_n9
noncomputable def sameInts_n13 : Code := cL sameInts_n12
noncomputable def sameInts_n14 : Code := cL sameInts_n13
noncomputable def sameInts_n15 : Code := cL sameInts_n14
noncomputable def sameInts_n16 : Code := cR sameInts_n14
noncomputable def sameInts_n17 : Code := cL sameInts_n15
noncomputable def sameInts_n18 : Code := cR sameInts_n15
noncomputable def sameInts_n19 : Code := cL sameInts_n18
noncomputable def sameInts_n20 : Code := cR sameInts_n18
noncomputable def sameInts_n21 : Code := cL sameInts_n16
noncomputable def sameInts_n22 : Code := cR sameInts_n16
noncomputable def sameInts_n23 : Code := cL sameInts_n21
noncomputable def sameInts_n24 : Code := cL sameInts_n23
noncomputable def sameInts_n25 : Code := cR sameInts_n23
noncomputable def sameInts_n26 : Code := cL sameInts_n25
noncomputable def sameInts_n27 : Code := cR sameInts_n25
noncomputable def sameInts_n28 : Code := cL sameInts_n10
noncomputable def sameInts_n29 : Code := cR sameInts_n10
set_option maxRecDepth 10000 in
theorem sameInts_q {w : World} {M : Hp} {X : Fr} (p : List Int) {pA : Option Addr} {pc : Nat} (q : List Int) {qA : Option Addr} {qc : Nat} (hp : RdA cdInt (M.un X.h) pA pc p) (hq : RdA cdInt (M.un X.h) qA qc q) (he : p = q) (S : SH w M X []) : Cq Try.prog 22 [.slice pA p.length pc, .slice qA q.length qc] w M X (fun u => u = .bool true) := by
  unfold Cq
  have rmhp : p.length * 8 ≤ 140737488355328 := hp.room
  have rmhq : q.length * 8 ≤ 140737488355328 := hq.room
  have hle : p.length = q.length := by rw [he]
  refine calls_in (b := sameInts_n0) Try.func22 rfl Try.ntmps22 rfl (fun C hC => ?_)
  refine ws_sub [(0, _), (1, _)] ⟨rfl, rfl, trivial⟩ ?_
  refine ws_seqN sameInts_n1 sameInts_n2 rfl rfl rfl ?_
  refine ws_region rfl ?_
  refine wl_op (k := 0) (k' := 1) rfl rfl rfl (wo_run rfl rfl (run_assign rfl rfl) ?_)
  refine wl_end rfl ?_
  refine nm_sub [(0, _), (1, _)] ⟨rfl, rfl, trivial⟩ ?_
  refine nm_thn ?_
  refine ws_seqN sameInts_n3 sameInts_n4 rfl rfl rfl ?_
  refine ws_seqN sameInts_n5 sameInts_n6 rfl rfl rfl ?_
  refine ws_region rfl ?_
  refine wl_op (k := 0) (k' := 1) rfl rfl rfl (wo_run rfl rfl (run_move rfl rfl) ?_)
  refine wl_op (k := 1) (k' := 2) rfl rfl rfl (wo_run rfl rfl (run_len rfl rfl rfl rfl rfl rfl Try.underlying44) ?_)
  refine wl_op (k := 2) (k' := 3) rfl rfl rfl (wo_run rfl rfl (run_move rfl rfl) ?_)
  refine wl_op (k := 3) (k' := 4) rfl rfl rfl (wo_run rfl rfl (run_len rfl rfl rfl rfl rfl rfl Try.underlying44) ?_)
  refine wl_op (k := 4) (k' := 5) rfl rfl rfl (wo_run rfl rfl (run_neq rfl rfl rfl) ?_)
  refine wl_end rfl ?_
  refine nm_sub [(0, _), (1, _), (10, _)] ⟨rfl, rfl, rfl, trivial⟩ ?_
  refine nm_thn ?_
  refine ws_condN sameInts_n7 sameInts_n8 rfl rfl rfl rfl (fun hb10 => ?_) (fun hb10 => ?_)
  · have hb10 := of_decide_eq_true hb10
    exfalso; omega
  · have hb10 := of_decide_eq_false hb10
    refine ws_skip rfl ?_
    refine nm_sub [(0, _), (1, _)] ⟨rfl, rfl, trivial⟩ ?_
    refine nm_thn ?_
    refine ws_seqN sameInts_n9 sameInts_n10 rfl rfl rfl ?_
    refine ws_seqN sameInts_n11 sameInts_n12 rfl rfl rfl ?_
    refine ws_region rfl ?_
    refine wl_op (k := 0) (k' := 1) rfl rfl rfl (wo_run rfl rfl (run_assign rfl rfl) ?_)
    refine wl_end rfl ?_
    refine nm_thn ?_
    refine ws_blockN sameInts_n13 0 rfl rfl rfl ?_
    refine ws_loopE (fun mx_ ax_ wx_ => ∃ (k : Nat), mx_ = p.length - k ∧ Env 26 [(0, .slice pA p.length pc), (1, .slice qA q.length qc), (5, .int .i64 (k : Int))] ax_ ∧ SH wx_ M X [] ∧ k ≤ p.length) rfl ?_ ?_
    · intro ax_ hax_
      refine ⟨_, ⟨0, rfl, hax_.sub ⟨rfl, rfl, rfl, trivial⟩, S.pick [] [] (by decide) trivial, ?hq1f0⟩⟩
      case hq1f0 => omega
    · rintro m1 a1 w1 ⟨k, rfl, he1, S1, hk⟩
      clear S
      refine ws_in he1 (c := sameInts_n14) rfl ?_
      clear he1 a1
      refine ws_seqN sameInts_n15 sameInts_n16 rfl rfl rfl ?_
      refine ws_seqN sameInts_n17 sameInts_n18 rfl rfl rfl ?_
      refine ws_region rfl ?_
      refine wl_op (k := 0) (k' := 1) rfl rfl rfl (wo_run rfl rfl (run_move rfl rfl) ?_)
      refine wl_op (k := 1) (k' := 2) rfl rfl rfl (wo_run rfl rfl (run_move rfl rfl) ?_)
      refine wl_op (k := 2) (k' := 3) rfl rfl rfl (wo_run rfl rfl (run_len rfl rfl rfl rfl rfl rfl Try.underlying44) ?_)
      refine wl_op (k := 3) (k' := 4) rfl rfl rfl (wo_run rfl rfl (run_lss rfl rfl rfl) ?_)
      refine wl_end rfl ?_
      refine nm_sub [(0, _), (1, _), (5, _), (14, _)] ⟨rfl, rfl, rfl, rfl, trivial⟩ ?_
      refine nm_thn ?_
      refine ws_condN sameInts_n19 sameInts_n20 rfl rfl rfl rfl (fun hb14 => ?_) (fun hb14 => ?_)
      · have hb14 := of_decide_eq_true hb14
        refine ws_skip rfl ?_
        refine nm_sub [(0, _), (1, _), (5, _)] ⟨rfl, rfl, rfl, trivial⟩ ?_
        refine nm_thn ?_
        refine ws_seqN sameInts_n21 sameInts_n22 rfl rfl rfl ?_
        refine ws_blockN sameInts_n23 1 rfl rfl rfl ?_
        refine ws_seqN sameInts_n24 sameInts_n25 rfl rfl rfl ?_
        refine ws_draw rfl (by kernel_rfl) S1 9 rfl ?_
        clear S1
        refine wa_takeP (i := 0) (d := 17) 8 rfl (by kernel_rfl) (by kernel_rfl) (by kernel_rfl) rfl rfl rfl (fun w2 => run_move rfl rfl) ?_
        refine wa_takeP (i := 1) (d := 18) 7 rfl (by kernel_rfl) (by kernel_rfl) (by kernel_rfl) rfl rfl rfl (fun w3 => run_move rfl rfl) ?_
        refine wa_take (i := 2) (d := 19) 6 rfl (by kernel_rfl) (by kernel_rfl) (by kernel_rfl) rfl rfl rfl (fun M3 N3 w4 hle4 S4 => .inl (run_indexM (C := cdInt) k rfl rfl rfl sl44 (by first | rfl | omega) (hp.mono (Hp.un_mono hle4 S4.mx)) (by first | omega | (simp only [List.length_set, List.length_append, List.length_replicate, List.length_singleton, List.length_cons, List.length_nil]; omega)))) ?_
        refine wa_take (i := 3) (d := 20) 5 rfl (by kernel_rfl) (by kernel_rfl) (by kernel_rfl) rfl rfl rfl (fun M4 N4 w5 hle5 S5 => .inl (run_load1 rfl rfl Try.underlying3 rfl ((hp.mono (Hp.un_mono hle5 S5.mx)).cell S5.um (i := k) (by first | omega | (simp only [List.length_set, List.length_append, List.length_replicate, List.length_singleton, List.length_cons, List.length_nil]; omega)) 0 rfl rfl))) ?_
        refine wa_takeP (i := 4) (d := 21) 4 rfl (by kernel_rfl) (by kernel_rfl) (by kernel_rfl) rfl rfl rfl (fun w6 => run_move rfl rfl) ?_
        refine wa_takeP (i := 5) (d := 22) 3 rfl (by kernel_rfl) (by kernel_rfl) (by kernel_rfl) rfl rfl rfl (fun w7 => run_move rfl rfl) ?_
        refine wa_take (i := 6) (d := 23) 2 rfl (by kernel_rfl) (by kernel_rfl) (by kernel_rfl) rfl rfl rfl (fun M7 N7 w8 hle8 S8 => .inl (run_indexM (C := cdInt) k rfl rfl rfl sl44 (by first | rfl | omega) (hq.mono (Hp.un_mono hle8 S8.mx)) (by first | omega | (simp only [List.length_set, List.length_append, List.length_replicate, List.length_singleton, List.length_cons, List.length_nil]; omega)))) ?_
        refine wa_take (i := 7) (d := 24) 1 rfl (by kernel_rfl) (by kernel_rfl) (by kernel_rfl) rfl rfl rfl (fun M8 N8 w9 hle9 S9 => .inl (run_load1 rfl rfl Try.underlying3 rfl ((hq.mono (Hp.un_mono hle9 S9.mx)).cell S9.um (i := k) (by first | omega | (simp only [List.length_set, List.length_append, List.length_replicate, List.length_singleton, List.length_cons, List.length_nil]; omega)) 0 rfl rfl))) ?_
        refine wa_takeP (i := 8) (d := 25) 0 rfl (by kernel_rfl) (by kernel_rfl) (by kernel_rfl) rfl rfl rfl (fun w10 => run_neq rfl rfl rfl) ?_
        refine wa_end (by kernel_rfl) (fun w11 S11 => ?_)
        refine nm_sub [(0, _), (1, _), (5, _), (25, _)] ⟨rfl, rfl, rfl, rfl, trivial⟩ ?_
        refine nm_thn ?_
        refine ws_condN sameInts_n26 sameInts_n27 rfl rfl rfl rfl (fun hb25 => ?_) (fun hb25 => ?_)
        · have hb25 := of_decide_eq_true hb25
          exfalso; exact hb25 (by rw [he])
        · have hb25 := of_decide_eq_false hb25
          refine ws_skip rfl ?_
          refine nm_blk ?_
          refine nm_sub [(0, _), (1, _), (5, _)] ⟨rfl, rfl, rfl, trivial⟩ ?_
          refine nm_thn ?_
          refine ws_region rfl ?_
          refine wl_op (k := 0) (k' := 1) rfl rfl rfl (wo_run rfl rfl (run_move rfl rfl) ?_)
          refine wl_op (k := 1) (k' := 2) rfl rfl rfl (wo_run rfl rfl (run_add rfl rfl rfl (by first | omega | (simp only [List.length_set, List.length_append, List.length_replicate, List.length_singleton, List.length_cons, List.length_nil]; omega))) ?_)
          refine wl_op (k := 2) (k' := 3) rfl rfl rfl (wo_run rfl rfl (run_assign rfl rfl) ?_)
          refine wl_end rfl ?_
          refine nm_lp ?_
          intro ax_ hax_
          refine ⟨_, ?hq2m, ⟨k + 1, rfl, hax_.sub ⟨rfl, rfl, rfl, trivial⟩, S11.pick [] [] (by decide) trivial, ?hq2f0⟩⟩
          case hq2f0 => omega
          case hq2m => omega
      · have hb14 := of_decide_eq_false hb14
        refine ws_exit rfl rfl ?_
        refine nm_sub [] trivial ?_
        refine nm_thn ?_
        refine ws_seqN sameInts_n28 sameInts_n29 rfl rfl rfl ?_
        refine ws_region rfl ?_
        refine wl_op (k := 0) (k' := 1) rfl rfl rfl (wo_run rfl rfl (run_assign rfl rfl) ?_)
        refine wl_end rfl ?_
        refine nm_thn ?_
        refine ws_ret hC [_] rfl rfl ⟨rfl, trivial⟩ ?_
        exact ⟨_, rfl, (S1.pick [] [] (by decide) trivial), rfl⟩

noncomputable def sameTables_n0 : Code := Try.f48.body.getD .skip
noncomputable def sameTables_n1 : Code := cL sameTables_n0
noncomputable def sameTables_n2 : Code := cR sameTables_n0
noncomputable def sameTables_n3 : Code := cL sameTables_n2
noncomputable def sameTables_n4 : Code := cR sameTables_n2
noncomputable def sameTables_n5 : Code := cL sameTables_n3
noncomputable def sameTables_n6 : Code := cR sameTables_n3
noncomputable def sameTables_n7 : Code := cL sameTables_n6
noncomputable def sameTables_n8 : Code := cR sameTables_n6
noncomputable def sameTables_n9 : Code := cL sameTables_n4
noncomputable def sameTables_n10 : Code := cR sameTables_n4
noncomputable def sameTables_n11 : Code := cL sameTables_n9
noncomputable def sameTables_n12 : Code := cR sameTables_n9
noncomputable def sameTables_n13 : Code := cL sameTables_n12
noncomputable def sameTables_n14 : Code := cL sameTables_n13
noncomputable def sameTables_n15 : Code := cL sameTables_n14
noncomputable def sameTables_n16 : Code := cR sameTables_n14
noncomputable def sameTables_n17 : Code := cL sameTables_n15
noncomputable def sameTables_n18 : Code := cR sameTables_n15
noncomputable def sameTables_n19 : Code := cL sameTables_n18
noncomputable def sameTables_n20 : Code := cR sameTables_n18
noncomputable def sameTables_n21 : Code := cL sameTables_n16
noncomputable def sameTables_n22 : Code := cR sameTables_n16
noncomputable def sameTables_n23 : Code := cL sameTables_n21
noncomputable def sameTables_n24 : Code := cL sameTables_n23
noncomputable def sameTables_n25 : Code := cR sameTables_n23
noncomputable def sameTables_n26 : Code := cL sameTables_n25
noncomputable def sameTables_n27 : Code := cR sameTables_n25
noncomputable def sameTables_n28 : Code := cL sameTables_n10
noncomputable def sameTables_n29 : Code := cR sameTables_n10
set_option maxRecDepth 10000 in
theorem sameTables_q {w : World} {M : Hp} {X : Fr} (p : List (List Int)) {pA : Option Addr} {pc : Nat} {pv : List SlV} (q : List (List Int)) {qA : Option Addr} {qc : Nat} {qv : List SlV} (hp : RdA (cdV 44) (M.un X.h) pA pc pv) (hdp : Rd2 cdInt (M.un X.h) pv p) (hq : RdA (cdV 44) (M.un X.h) qA qc qv) (hdq : Rd2 cdInt (M.un X.h) qv q) (he : p = q) (S : SH w M X []) : Cq Try.prog 48 [.slice pA pv.length pc, .slice qA qv.length qc] w M X (fun u => u = .bool true) := by
  unfold Cq
  have rmhp : pv.length * 24 ≤ 140737488355328 := hp.room
  have rmhq : qv.length * 24 ≤ 140737488355328 := hq.room
  have hle : p.length = q.length := by rw [he]
  have hlp := hdp.1
  have hlq := hdq.1
  refine calls_in (b := sameTables_n0) Try.func48 rfl Try.ntmps48 rfl (fun C hC => ?_)
  refine ws_sub [(0, _), (1, _)] ⟨rfl, rfl, trivial⟩ ?_
  refine ws_seqN sameTables_n1 sameTables_n2 rfl rfl rfl ?_
  refine ws_region rfl ?_
  refine wl_op (k := 0) (k' := 1) rfl rfl rfl (wo_run rfl rfl (run_assign rfl rfl) ?_)
  refine wl_end rfl ?_
  refine nm_sub [(0, _), (1, _)] ⟨rfl, rfl, trivial⟩ ?_
  refine nm_thn ?_
  refine ws_seqN sameTables_n3 sameTables_n4 rfl rfl rfl ?_
  refine ws_seqN sameTables_n5 sameTables_n6 rfl rfl rfl ?_
  refine ws_region rfl ?_
  refine wl_op (k := 0) (k' := 1) rfl rfl rfl (wo_run rfl rfl (run_move rfl rfl) ?_)
  refine wl_op (k := 1) (k' := 2) rfl rfl rfl (wo_run rfl rfl (run_len rfl rfl rfl rfl rfl rfl Try.underlying37) ?_)
  refine wl_op (k := 2) (k' := 3) rfl rfl rfl (wo_run rfl rfl (run_move rfl rfl) ?_)
  refine wl_op (k := 3) (k' := 4) rfl rfl rfl (wo_run rfl rfl (run_len rfl rfl rfl rfl rfl rfl Try.underlying37) ?_)
  refine wl_op (k := 4) (k' := 5) rfl rfl rfl (wo_run rfl rfl (run_neq rfl rfl rfl) ?_)
  refine wl_end rfl ?_
  refine nm_sub [(0, _), (1, _), (10, _)] ⟨rfl, rfl, rfl, trivial⟩ ?_
  refine nm_thn ?_
  refine ws_condN sameTables_n7 sameTables_n8 rfl rfl rfl rfl (fun hb10 => ?_) (fun hb10 => ?_)
  · have hb10 := of_decide_eq_true hb10
    exfalso; omega
  · have hb10 := of_decide_eq_false hb10
    refine ws_skip rfl ?_
    refine nm_sub [(0, _), (1, _)] ⟨rfl, rfl, trivial⟩ ?_
    refine nm_thn ?_
    refine ws_seqN sameTables_n9 sameTables_n10 rfl rfl rfl ?_
    refine ws_seqN sameTables_n11 sameTables_n12 rfl rfl rfl ?_
    refine ws_region rfl ?_
    refine wl_op (k := 0) (k' := 1) rfl rfl rfl (wo_run rfl rfl (run_assign rfl rfl) ?_)
    refine wl_end rfl ?_
    refine nm_thn ?_
    refine ws_blockN sameTables_n13 0 rfl rfl rfl ?_
    refine ws_loopE (fun mx_ ax_ wx_ => ∃ (k : Nat), mx_ = pv.length - k ∧ Env 27 [(0, .slice pA pv.length pc), (1, .slice qA qv.length qc), (5, .int .i64 (k : Int))] ax_ ∧ SH wx_ M X [] ∧ k ≤ pv.length) rfl ?_ ?_
    · intro ax_ hax_
      refine ⟨_, ⟨0, rfl, hax_.sub ⟨rfl, rfl, rfl, trivial⟩, S.pick [] [] (by decide) trivial, ?hq1f0⟩⟩
      case hq1f0 => omega
    · rintro m1 a1 w1 ⟨k, rfl, he1, S1, hk⟩
      clear S
      refine ws_in he1 (c := sameTables_n14) rfl ?_
      clear he1 a1
      refine ws_seqN sameTables_n15 sameTables_n16 rfl rfl rfl ?_
      refine ws_seqN sameTables_n17 sameTables_n18 rfl rfl rfl ?_
      refine ws_region rfl ?_
      refine wl_op (k := 0) (k' := 1) rfl rfl rfl (wo_run rfl rfl (run_move rfl rfl) ?_)
      refine wl_op (k := 1) (k' := 2) rfl rfl rfl (wo_run rfl rfl (run_move rfl rfl) ?_)
      refine wl_op (k := 2) (k' := 3) rfl rfl rfl (wo_run rfl rfl (run_len rfl rfl rfl rfl rfl rfl Try.underlying37) ?_)
      refine wl_op (k := 3) (k' := 4) rfl rfl rfl (wo_run rfl rfl (run_lss rfl rfl rfl) ?_)
      refine wl_end rfl ?_
      refine nm_sub [(0, _), (1, _), (5, _), (14, _)] ⟨rfl, rfl, rfl, rfl, trivial⟩ ?_
      refine nm_thn ?_
      refine ws_condN sameTables_n19 sameTables_n20 rfl rfl rfl rfl (fun hb14 => ?_) (fun hb14 => ?_)
      · have hb14 := of_decide_eq_true hb14
        refine ws_skip rfl ?_
        refine nm_sub [(0, _), (1, _), (5, _)] ⟨rfl, rfl, rfl, trivial⟩ ?_
        refine nm_thn ?_
        refine ws_seqN sameTables_n21 sameTables_n22 rfl rfl rfl ?_
        refine ws_blockN sameTables_n23 1 rfl rfl rfl ?_
        refine ws_seqN sameTables_n24 sameTables_n25 rfl rfl rfl ?_
        refine ws_draw rfl (by kernel_rfl) S1 10 rfl ?_
        clear S1
        refine wa_takeP (i := 0) (d := 17) 9 rfl (by kernel_rfl) (by kernel_rfl) (by kernel_rfl) rfl rfl rfl (fun w2 => run_move rfl rfl) ?_
        refine wa_takeP (i := 1) (d := 18) 8 rfl (by kernel_rfl) (by kernel_rfl) (by kernel_rfl) rfl rfl rfl (fun w3 => run_move rfl rfl) ?_
        refine wa_take (i := 2) (d := 19) 7 rfl (by kernel_rfl) (by kernel_rfl) (by kernel_rfl) rfl rfl rfl (fun M3 N3 w4 hle4 S4 => .inl (run_indexM (C := (cdV 44)) k rfl rfl rfl sl37 (by first | rfl | omega) (hp.mono (Hp.un_mono hle4 S4.mx)) (by first | omega | (simp only [List.length_set, List.length_append, List.length_replicate, List.length_singleton, List.length_cons, List.length_nil]; omega)))) ?_
        obtain ⟨hn1, hr1⟩ := hdp.2 k (by first | omega | (simp only [List.length_set, List.length_append, List.length_replicate, List.length_singleton, List.length_cons, List.length_nil]; omega))
        have rmhr1 : (ga p k).length * 8 ≤ 140737488355328 := hr1.room
        refine wa_take (i := 3) (d := 20) 6 rfl (by kernel_rfl) (by kernel_rfl) (by kernel_rfl) rfl rfl rfl (fun M4 N4 w5 hle5 S5 => .inl (run_load1 rfl rfl Try.underlying44 rfl ((hp.mono (Hp.un_mono hle5 S5.mx)).cell S5.um (i := k) (by first | omega | (simp only [List.length_set, List.length_append, List.length_replicate, List.length_singleton, List.length_cons, List.length_nil]; omega)) 0 rfl (congrArg (fun n => some (Value.slice _ n _)) hn1)))) ?_
        refine wa_takeP (i := 4) (d := 21) 5 rfl (by kernel_rfl) (by kernel_rfl) (by kernel_rfl) rfl rfl rfl (fun w6 => run_move rfl rfl) ?_
        refine wa_takeP (i := 5) (d := 22) 4 rfl (by kernel_rfl) (by kernel_rfl) (by kernel_rfl) rfl rfl rfl (fun w7 => run_move rfl rfl) ?_
        refine wa_take (i := 6) (d := 23) 3 rfl (by kernel_rfl) (by kernel_rfl) (by kernel_rfl) rfl rfl rfl (fun M7 N7 w8 hle8 S8 => .inl (run_indexM (C := (cdV 44)) k rfl rfl rfl sl37 (by first | rfl | omega) (hq.mono (Hp.un_mono hle8 S8.mx)) (by first | omega | (simp only [List.length_set, List.length_append, List.length_replicate, List.length_singleton, List.length_cons, List.length_nil]; omega)))) ?_
        obtain ⟨hn2, hr2⟩ := hdq.2 k (by first | omega | (simp only [List.length_set, List.length_append, List.length_replicate, List.length_singleton, List.length_cons, List.length_nil]; omega))
        have rmhr2 : (ga q k).length * 8 ≤ 140737488355328 := hr2.room
        refine wa_take (i := 7) (d := 24) 2 rfl (by kernel_rfl) (by kernel_rfl) (by kernel_rfl) rfl rfl rfl (fun M8 N8 w9 hle9 S9 => .inl (run_load1 rfl rfl Try.underlying44 rfl ((hq.mono (Hp.un_mono hle9 S9.mx)).cell S9.um (i := k) (by first | omega | (simp only [List.length_set, List.length_append, List.length_replicate, List.length_singleton, List.length_cons, List.length_nil]; omega)) 0 rfl (congrArg (fun n => some (Value.slice _ n _)) hn2)))) ?_
        refine wa_take (i := 8) (d := 25) 1 rfl (by kernel_rfl) (by kernel_rfl) (by kernel_rfl) rfl rfl rfl (fun M9 N9 w10 hle10 S10 => yield_cq rfl rfl rfl rfl rfl cf22 S10 (sameInts_q (ga p k) (ga q k) ((hr1.mono (Hp.un_mono hle10 S10.mx)).mono S10.un_XH) ((hr2.mono (Hp.un_mono hle10 S10.mx)).mono S10.un_XH) ((by rw [he])) S10.lend)) ?_
        refine wa_takeP (i := 9) (d := 26) 0 rfl (by kernel_rfl) (by kernel_rfl) (by kernel_rfl) rfl rfl rfl (fun w11 => run_not rfl rfl) ?_
        refine wa_end (by kernel_rfl) (fun w12 S12 => ?_)
        refine nm_sub [(0, _), (1, _), (5, _), (26, _)] ⟨rfl, rfl, rfl, rfl, trivial⟩ ?_
        refine nm_thn ?_
        refine ws_condFN sameTables_n27 rfl rfl rfl ?_
        refine ws_skip rfl ?_
        refine nm_blk ?_
        refine nm_sub [(0, _), (1, _), (5, _)] ⟨rfl, rfl, rfl, trivial⟩ ?_
        refine nm_thn ?_
        refine ws_region rfl ?_
        refine wl_op (k := 0) (k' := 1) rfl rfl rfl (wo_run rfl rfl (run_move rfl rfl) ?_)
        refine wl_op (k := 1) (k' := 2) rfl rfl rfl (wo_run rfl rfl (run_add rfl rfl rfl (by first | omega | (simp only [List.length_set, List.length_append, List.length_replicate, List.length_singleton, List.length_cons, List.length_nil]; omega))) ?_)
        refine wl_op (k := 2) (k' := 3) rfl rfl rfl (wo_run rfl rfl (run_assign rfl rfl) ?_)
        refine wl_end rfl ?_
        refine nm_lp ?_
        intro ax_ hax_
        refine ⟨_, ?hq2m, ⟨k + 1, rfl, hax_.sub ⟨rfl, rfl, rfl, trivial⟩, S12.pick [] [] (by decide) trivial, ?hq2f0⟩⟩
        case hq2f0 => omega
        case hq2m => omega
      · have hb14 := of_decide_eq_false hb14
        refine ws_exit rfl rfl ?_
        refine nm_sub [] trivial ?_
        refine nm_thn ?_
        refine ws_seqN sameTables_n28 sameTables_n29 rfl rfl rfl ?_
        refine ws_region rfl ?_
        refine wl_op (k := 0) (k' := 1) rfl rfl rfl (wo_run rfl rfl (run_assign rfl rfl) ?_)
        refine wl_end rfl ?_
        refine nm_thn ?_
        refine ws_ret hC [_] rfl rfl ⟨rfl, trivial⟩ ?_
        exact ⟨_, rfl, (S1.pick [] [] (by decide) trivial), rfl⟩

noncomputable def Parts_n0 : Code := Try.f64.body.getD .skip
noncomputable def Parts_n1 : Code := cL Parts_n0
noncomputable def Parts_n2 : Code := cR Parts_n0
noncomputable def Parts_n3 : Code := cL Parts_n2
noncomputable def Parts_n4 : Code := cR Parts_n2
noncomputable def Parts_n5 : Code := cL Parts_n4
noncomputable def Parts_n6 : Code := cR Parts_n4
noncomputable def Parts_n7 : Code := cL Parts_n5
noncomputable def Parts_n8 : Code := cR Parts_n5
noncomputable def Parts_n9 : Code := cL Parts_n8
noncomputable def Parts_n10 : Code := cL Parts_n9
noncomputable def Parts_n11 : Code := cL Parts_n10
noncomputable def Parts_n12 : Code := cR Parts_n10
noncomputable def Parts_n13 : Code := cL Parts_n12
noncomputable def Parts_n14 : Code := cR Parts_n12
noncomputable def Parts_n15 : Code := cL Parts_n13
noncomputable def Parts_n16 : Code := cR Parts_n13
noncomputable def Parts_n17 : Code := cL Parts_n14
noncomputable def Parts_n18 : Code := cR Parts_n14
noncomputable def Parts_n19 : Code := cL Parts_n17
noncomputable def Parts_n20 : Code := cL Parts_n19
noncomputable def Parts_n21 : Code := cR Parts_n19
noncomputable def Parts_n22 : Code := cL Parts_n21
noncomputable def Parts_n23 : Code := cR Parts_n21
noncomputable def Parts_n24 : Code := cL Parts_n23
noncomputable def Parts_n25 : Code := cL Parts_n24
noncomputable def Parts_n26 : Code := cL Parts_n25
noncomputable def Parts_n27 : Code := cR Parts_n25
noncomputable def Parts_n28 : Code := cL Parts_n27
noncomputable def Parts_n29 : Code := cR Parts_n27
noncomputable def Parts_n30 : Code := cL Parts_n28
noncomputable def Parts_n31 : Code := cR Parts_n28
noncomputable def Parts_n32 : Code := cL Parts_n29
noncomputable def Parts_n33 : Code := cR Parts_n29
noncomputable def Parts_n34 : Code := cL Parts_n32
noncomputable def Parts_n35 : Code := cL Parts_n34
noncomputable def Parts_n36 : Code := cR Parts_n34
noncomputable def Parts_n37 : Code := cL Parts_n6
noncomputable def Parts_n38 : Code := cR Parts_n6
set_option maxHeartbeats 1000000 in
set_option maxRecDepth 10000 in
theorem Parts_t {w : World} {M : Hp} {X : Fr} (d : Dg) {gsh : Nat} {cA iA oA : Option Addr} {cc ic oc : Nat} (hsb : BxM (M.un X.h) gsh 81 [.slice cA d.crs.length cc, .int .i64 d.loops, .slice iA (tabL d false (4 * d.crs.length)).length ic, .slice oA (tabL d true (4 * d.crs.length)).length oc]) (hsc : RdA cdCr (M.un X.h) cA cc d.crs) (hsi : RdA cdPl (M.un X.h) iA ic (tabL d false (4 * d.crs.length))) (hso : RdA cdPl (M.un X.h) oA oc (tabL d true (4 * d.crs.length))) (hn : d.crs.length ≤ 16) (hab : arcsB d = true) (S : SH w M X []) : Ct Try.prog 64 [.pointer (some ⟨gsh, 0, none⟩)] w M X (fun u N => ∃ A c, u = .slice A (prtL d).length c ∧ RdA cdInt N A c (prtL d)) := by
  unfold Ct
  refine calls_in (b := Parts_n0) Try.func64 rfl Try.ntmps64 rfl (fun C hC => ?_)
  refine ws_sub [(0, _)] ⟨rfl, trivial⟩ ?_
  refine ws_seqN Parts_n1 Parts_n2 rfl rfl rfl ?_
  refine ws_region rfl ?_
  refine wl_op (k := 0) (k' := 1) rfl rfl rfl (wo_run rfl rfl (run_assign rfl rfl) ?_)
  refine wl_end rfl ?_
  refine nm_sub [(0, _)] ⟨rfl, trivial⟩ ?_
  refine nm_thn ?_
  refine ws_seqN Parts_n3 Parts_n4 rfl rfl rfl ?_
  refine ws_region rfl ?_
  refine wl_op (k := 0) (k' := 1) rfl rfl rfl (wo_run rfl rfl (run_move rfl rfl) ?_)
  refine wl_op (k := 1) (k' := 2) rfl rfl rfl (wo_cq rfl rfl rfl rfl rfl rfl rfl cf55 S (Arcs_q d  (hsb.mono S.un_XH) (hsc.mono S.un_XH) (hsi.mono S.un_XH) (hso.mono S.un_XH) (by omega) S.lend) ?_)
  rintro _ w1 S1 rfl; clear S
  refine wl_op (k := 2) (k' := 3) rfl rfl rfl (wo_run rfl rfl (run_add rfl rfl rfl (by first | omega | (simp only [List.length_set, List.length_append, List.length_replicate, List.length_singleton, List.length_cons, List.length_nil]; omega))) ?_)
  refine wl_op (k := 3) (k' := 4) rfl rfl rfl (wo_make (C := cdInt) ((2 * (d.crs.length : Int)).toNat + 1) rfl rfl rfl rfl rfl sl44 (by first | rfl | omega) (by show _ * 8 ≤ _; first | omega | (simp only [List.length_set, List.length_append, List.length_replicate, List.length_singleton, List.length_cons, List.length_nil]; omega)) S1 ?_)
  intro vr1 w2 S2; clear S1
  refine wl_op (k := 4) (k' := 5) rfl rfl rfl (wo_run rfl rfl (run_assign rfl rfl) ?_)
  refine wl_end rfl ?_
  refine nm_sub [(0, _), (3, _)] ⟨rfl, rfl, trivial⟩ ?_
  refine nm_thn ?_
  refine ws_seqN Parts_n5 Parts_n6 rfl rfl rfl ?_
  refine ws_seqN Parts_n7 Parts_n8 rfl rfl rfl ?_
  refine ws_region rfl ?_
  refine wl_op (k := 0) (k' := 1) rfl rfl rfl (wo_run rfl rfl (run_move rfl rfl) ?_)
  refine wl_op (k := 1) (k' := 2) rfl rfl rfl (wo_ct rfl rfl rfl rfl rfl rfl rfl cf59 S2 (Strands_t d (hsb.mono S2.un_XH) (hsc.mono S2.un_XH) (hsi.mono S2.un_XH) (hso.mono S2.un_XH) hn hab S2.lend) ?_)
  intro vw3 w3 M1 hle1 S3 hRw3; clear S2
  replace hsb := hsb.mono (Hp.un_mono hle1 S3.mx)
  replace hsc := hsc.mono (Hp.un_mono hle1 S3.mx)
  replace hsi := hsi.mono (Hp.un_mono hle1 S3.mx)
  replace hso := hso.mono (Hp.un_mono hle1 S3.mx)
  obtain ⟨A1, c1, vs1, rfl, hr1, hd1⟩ := hRw3
  have hlenstrandsL := hd1.1
  refine wl_op (k := 2) (k' := 3) rfl rfl rfl (wo_run rfl rfl (run_len rfl rfl rfl rfl rfl rfl Try.underlying37) ?_)
  refine wl_op (k := 3) (k' := 4) rfl rfl rfl (wo_run rfl rfl (run_move rfl rfl) ?_)
  refine wl_end rfl ?_
  refine nm_sub [(3, _), (13, _), (14, _), (15, _)] ⟨rfl, rfl, rfl, rfl, trivial⟩ ?_
  refine nm_thn ?_
  refine ws_blockN Parts_n9 0 rfl rfl rfl ?_
  refine ws_loopE (fun mx_ ax_ wx_ => ∃ (i : Nat) (ps : List Int) (vrp : Value), mx_ = (strandsL d).length - i ∧ Env 33 [(3, vrp), (13, .slice A1 vs1.length c1), (14, .int .i64 (vs1.length : Int)), (15, .int .i64 (i : Int))] ax_ ∧ SH wx_ M1 X [Rs.row cdInt vrp ps] ∧ i ≤ (strandsL d).length ∧ ps = prtN d i) rfl ?_ ?_
  · intro ax_ hax_
    refine ⟨_, ⟨0, _, _, rfl, hax_.sub ⟨rfl, rfl, rfl, rfl, trivial⟩, S3.pick [0] [_] (by decide) ⟨rfl, trivial⟩, ?hq1f0, ?hq1f1⟩⟩
    case hq1f0 => omega
    case hq1f1 => rfl
  · rintro m1 a1 w4 ⟨i, ps, vrp, rfl, he1, S4, hi, hps⟩
    clear S3
    refine ws_in he1 (c := Parts_n10) rfl ?_
    clear he1 a1
    have hsm : (strandsL d).length ≤ 2 * d.crs.length := rings_many _ _ _
    refine ws_seqN Parts_n11 Parts_n12 rfl rfl rfl ?_
    refine ws_region rfl ?_
    refine wl_op (k := 0) (k' := 1) rfl rfl rfl (wo_run rfl rfl (run_lss rfl rfl rfl) ?_)
    refine wl_end rfl ?_
    refine nm_thn ?_
    refine ws_seqN Parts_n13 Parts_n14 rfl rfl rfl ?_
    refine ws_condN Parts_n15 Parts_n16 rfl rfl rfl rfl (fun hb16 => ?_) (fun hb16 => ?_)
    · have hb16 := of_decide_eq_true hb16
      refine ws_skip rfl ?_
      refine nm_sub [(3, _), (13, _), (14, _), (15, _)] ⟨rfl, rfl, rfl, rfl, trivial⟩ ?_
      refine nm_thn ?_
      refine ws_seqN Parts_n17 Parts_n18 rfl rfl rfl ?_
      refine ws_blockN Parts_n19 1 rfl rfl rfl ?_
      refine ws_seqN Parts_n20 Parts_n21 rfl rfl rfl ?_
      refine ws_region rfl ?_
      refine wl_op (k := 0) (k' := 1) rfl rfl rfl (wo_run rfl rfl (run_move rfl rfl) ?_)
      refine wl_op (k := 1) (k' := 2) rfl rfl rfl (wo_run rfl rfl (run_indexM (C := (cdV 44)) i rfl rfl rfl sl37 (by first | rfl | omega) hr1 (by first | omega | (simp only [List.length_set, List.length_append, List.length_replicate, List.length_singleton, List.length_cons, List.length_nil]; omega))) ?_)
      obtain ⟨hn1, hr2⟩ := hd1.2 i (by first | omega | (simp only [List.length_set, List.length_append, List.length_replicate, List.length_singleton, List.length_cons, List.length_nil]; omega))
      have rmhr2 : (ga (strandsL d) i).length * 8 ≤ 140737488355328 := hr2.room
      refine wl_op (k := 2) (k' := 3) rfl rfl rfl (wo_run rfl rfl (run_load1 rfl rfl Try.underlying44 rfl (hr1.cell S4.m (i := i) (by first | omega | (simp only [List.length_set, List.length_append, List.length_replicate, List.length_singleton, List.length_cons, List.length_nil]; omega)) 0 rfl (congrArg (fun n => some (Value.slice _ n _)) hn1))) ?_)
      refine wl_op (k := 3) (k' := 4) rfl rfl rfl (wo_run rfl rfl (run_assign rfl rfl) ?_)
      refine wl_op (k := 4) (k' := 5) rfl rfl rfl (wo_run rfl rfl (run_assign rfl rfl) ?_)
      refine wl_end rfl ?_
      refine nm_sub [(3, _), (13, _), (14, _), (15, _), (4, _), (5, _)] ⟨rfl, rfl, rfl, rfl, rfl, rfl, trivial⟩ ?_
      refine nm_thn ?_
      refine ws_seqN Parts_n22 Parts_n23 rfl rfl rfl ?_
      refine ws_region rfl ?_
      refine wl_op (k := 0) (k' := 1) rfl rfl rfl (wo_run rfl rfl (run_move rfl rfl) ?_)
      refine wl_op (k := 1) (k' := 2) rfl rfl rfl (wo_run rfl rfl (run_len rfl rfl rfl rfl rfl rfl Try.underlying44) ?_)
      refine wl_op (k := 2) (k' := 3) rfl rfl rfl (wo_run rfl rfl (run_move rfl rfl) ?_)
      refine wl_end rfl ?_
      refine nm_sub [(3, _), (13, _), (14, _), (15, _), (4, _), (20, _), (21, _), (22, _)] ⟨rfl, rfl, rfl, rfl, rfl, rfl, rfl, rfl, trivial⟩ ?_
      refine nm_thn ?_
      refine ws_blockN Parts_n24 2 rfl rfl rfl ?_
      refine ws_loopE (fun mx_ ax_ wx_ => ∃ (k : Nat) (ps2 : List Int) (vrp2 : Value), mx_ = (ga (strandsL d) i).length - k ∧ Env 33 [(3, vrp2), (13, .slice A1 vs1.length c1), (14, .int .i64 (vs1.length : Int)), (15, .int .i64 (i : Int)), (4, .int .i64 (i : Int)), (20, .slice ((ga vs1 i).A) (ga (strandsL d) i).length ((ga vs1 i).c)), (21, .int .i64 ((ga (strandsL d) i).length : Int)), (22, .int .i64 (k : Int))] ax_ ∧ SH wx_ M1 X [Rs.row cdInt vrp2 ps2] ∧ k ≤ (ga (strandsL d) i).length ∧ ps2 = putR i (ga (strandsL d) i) ps k) rfl ?_ ?_
      · intro ax_ hax_
        refine ⟨_, ⟨0, _, _, rfl, hax_.sub ⟨rfl, rfl, rfl, rfl, rfl, rfl, rfl, rfl, trivial⟩, S4.pick [0] [_] (by decide) ⟨rfl, trivial⟩, ?hq2f0, ?hq2f1⟩⟩
        case hq2f0 => omega
        case hq2f1 => rfl
      · rintro m2 a2 w5 ⟨k, ps2, vrp2, rfl, he2, S5, hk, hps2⟩
        clear S4
        refine ws_in he2 (c := Parts_n25) rfl ?_
        clear he2 a2
        have hpl : ps2.length = 2 * d.crs.length + 1 := by rw [hps2, putR_len, hps, prtN_len]
        refine ws_seqN Parts_n26 Parts_n27 rfl rfl rfl ?_
        refine ws_region rfl ?_
        refine wl_op (k := 0) (k' := 1) rfl rfl rfl (wo_run rfl rfl (run_lss rfl rfl rfl) ?_)
        refine wl_end rfl ?_
        refine nm_thn ?_
        refine ws_seqN Parts_n28 Parts_n29 rfl rfl rfl ?_
        refine ws_condN Parts_n30 Parts_n31 rfl rfl rfl rfl (fun hb23 => ?_) (fun hb23 => ?_)
        · have hb23 := of_decide_eq_true hb23
          have hrg := strands_rng hab (i := i) (by omega) (ga (ga (strandsL d) i) k) (ga_mem (by omega))
          refine ws_skip rfl ?_
          refine nm_sub [(3, _), (13, _), (14, _), (15, _), (4, _), (20, _), (21, _), (22, _)] ⟨rfl, rfl, rfl, rfl, rfl, rfl, rfl, rfl, trivial⟩ ?_
          refine nm_thn ?_
          refine ws_seqN Parts_n32 Parts_n33 rfl rfl rfl ?_
          refine ws_blockN Parts_n34 3 rfl rfl rfl ?_
          refine ws_seqN Parts_n35 Parts_n36 rfl rfl rfl ?_
          refine ws_region rfl ?_
          refine wl_op (k := 0) (k' := 1) rfl rfl rfl (wo_run rfl rfl (run_indexM (C := cdInt) k rfl rfl rfl sl44 (by first | rfl | omega) hr2 (by first | omega | (simp only [List.length_set, List.length_append, List.length_replicate, List.length_singleton, List.length_cons, List.length_nil]; omega))) ?_)
          refine wl_op (k := 1) (k' := 2) rfl rfl rfl (wo_run rfl rfl (run_load1 rfl rfl Try.underlying3 rfl (hr2.cell S5.m (i := k) (by first | omega | (simp only [List.length_set, List.length_append, List.length_replicate, List.length_singleton, List.length_cons, List.length_nil]; omega)) 0 rfl rfl)) ?_)
          refine wl_op (k := 2) (k' := 3) rfl rfl rfl (wo_run rfl rfl (run_assign rfl rfl) ?_)
          refine wl_end rfl ?_
          refine nm_sub [(3, _), (13, _), (14, _), (15, _), (4, _), (20, _), (21, _), (22, _), (7, _)] ⟨rfl, rfl, rfl, rfl, rfl, rfl, rfl, rfl, rfl, trivial⟩ ?_
          refine nm_thn ?_
          refine ws_region rfl ?_
          refine wl_op (k := 0) (k' := 1) rfl rfl rfl (wo_run rfl rfl (run_move rfl rfl) ?_)
          refine wl_op (k := 1) (k' := 2) rfl rfl rfl (wo_run rfl rfl (run_move rfl rfl) ?_)
          refine wl_op (k := 2) (k' := 3) rfl rfl rfl (wo_run rfl rfl (run_move rfl rfl) ?_)
          refine wl_op (k := 3) (k' := 4) rfl rfl rfl (wo_run rfl rfl (run_indexR (C := cdInt) (i := 0) ((ga (ga (strandsL d) i) k).toNat) rfl rfl rfl sl44 S5 rfl (by first | rfl | omega) (by first | omega | (simp only [List.length_set, List.length_append, List.length_replicate, List.length_singleton, List.length_cons, List.length_nil]; omega))) ?_)
          refine wl_op (k := 4) (k' := 5) rfl rfl rfl (wo_storeR (C := cdInt) (i := 0) (e := (ga (ga (strandsL d) i) k).toNat) (j := 0) (us := [_]) (H' := [_]) (i : Int) rfl rfl S5 rfl (by first | omega | (simp only [List.length_set, List.length_append, List.length_replicate, List.length_singleton, List.length_cons, List.length_nil]; omega)) rfl rfl rfl sz3 rfl rfl rfl rfl ?_)
          intro w6 S6; clear S5
          refine wl_end rfl ?_
          refine nm_blk ?_
          refine nm_sub [(3, _), (13, _), (14, _), (15, _), (4, _), (20, _), (21, _), (22, _)] ⟨rfl, rfl, rfl, rfl, rfl, rfl, rfl, rfl, trivial⟩ ?_
          refine nm_thn ?_
          refine ws_region rfl ?_
          refine wl_op (k := 0) (k' := 1) rfl rfl rfl (wo_run rfl rfl (run_add rfl rfl rfl (by first | omega | (simp only [List.length_set, List.length_append, List.length_replicate, List.length_singleton, List.length_cons, List.length_nil]; omega))) ?_)
          refine wl_op (k := 1) (k' := 2) rfl rfl rfl (wo_run rfl rfl (run_move rfl rfl) ?_)
          refine wl_end rfl ?_
          refine nm_lp ?_
          intro ax_ hax_
          refine ⟨_, ?hq3m, ⟨k + 1, _, _, rfl, hax_.sub ⟨rfl, rfl, rfl, rfl, rfl, rfl, rfl, rfl, trivial⟩, S6.pick [0] [_] (by decide) ⟨rfl, trivial⟩, ?hq3f0, ?hq3f1⟩⟩
          case hq3f0 => omega
          case hq3f1 => (rw [hps2]; rfl)
          case hq3m => omega
        · have hb23 := of_decide_eq_false hb23
          refine ws_exit rfl rfl ?_
          refine nm_blk ?_
          refine nm_sub [(3, _), (13, _), (14, _), (15, _)] ⟨rfl, rfl, rfl, rfl, trivial⟩ ?_
          refine nm_thn ?_
          refine ws_region rfl ?_
          refine wl_op (k := 0) (k' := 1) rfl rfl rfl (wo_run rfl rfl (run_add rfl rfl rfl (by first | omega | (simp only [List.length_set, List.length_append, List.length_replicate, List.length_singleton, List.length_cons, List.length_nil]; omega))) ?_)
          refine wl_op (k := 1) (k' := 2) rfl rfl rfl (wo_run rfl rfl (run_move rfl rfl) ?_)
          refine wl_end rfl ?_
          refine nm_lp ?_
          intro ax_ hax_
          refine ⟨_, ?hq4m, ⟨i + 1, _, _, rfl, hax_.sub ⟨rfl, rfl, rfl, rfl, trivial⟩, S5.pick [0] [_] (by decide) ⟨rfl, trivial⟩, ?hq4f0, ?hq4f1⟩⟩
          case hq4f0 => omega
          case hq4f1 => (rw [hps2, hps, show k = (ga (strandsL d) i).length by omega]; rfl)
          case hq4m => omega
    · have hb16 := of_decide_eq_false hb16
      refine ws_exit rfl rfl ?_
      refine nm_sub [(3, _)] ⟨rfl, trivial⟩ ?_
      refine nm_thn ?_
      refine ws_seqN Parts_n37 Parts_n38 rfl rfl rfl ?_
      refine ws_region rfl ?_
      refine wl_op (k := 0) (k' := 1) rfl rfl rfl (wo_run rfl rfl (run_move rfl rfl) ?_)
      refine wl_op (k := 1) (k' := 2) rfl rfl rfl (wo_run rfl rfl (run_assign rfl rfl) ?_)
      refine wl_end rfl ?_
      refine nm_sub [(2, _)] ⟨rfl, trivial⟩ ?_
      refine nm_thn ?_
      have hpl : ps.length = 2 * d.crs.length + 1 := by rw [hps, prtN_len]
      obtain ⟨M2, hle4, S7, ⟨A2, c2, e1, hr3⟩⟩ := S4.pubrow (i := 0) (H' := [_]) rfl rfl (by show _ * 8 ≤ _; first | omega | (simp only [List.length_set, List.length_append, List.length_replicate, List.length_singleton, List.length_cons, List.length_nil]; omega))
      clear S4; subst e1
      replace hsb := hsb.mono (Hp.un_mono hle4 S7.mx)
      replace hsc := hsc.mono (Hp.un_mono hle4 S7.mx)
      replace hsi := hsi.mono (Hp.un_mono hle4 S7.mx)
      replace hso := hso.mono (Hp.un_mono hle4 S7.mx)
      replace hr1 := hr1.mono hle4
      replace hd1 := hd1.mono hle4
      refine ws_ret hC [_] rfl rfl ⟨rfl, trivial⟩ ?_
      refine ⟨_, rfl, _, hle1.trans hle4, (S7.pick [] [] (by decide) trivial), ?_⟩
      obtain rfl : i = (strandsL d).length := by omega
      have e2 : prtL d = ps := by unfold prtL; rw [hps]
      rw [e2]
      exact ⟨_, _, rfl, hr3⟩

def errO0 (d : Dg) : Bool := decide (errO d = 0)
def circR (d : Dg) : List (List Int) := if errO d = 0 then circL d else []

noncomputable def WCircles_n0 : Code := Try.f46.body.getD .skip
noncomputable def WCircles_n1 : Code := cL WCircles_n0
noncomputable def WCircles_n2 : Code := cR WCircles_n0
noncomputable def WCircles_n3 : Code := cL WCircles_n2
noncomputable def WCircles_n4 : Code := cR WCircles_n2
noncomputable def WCircles_n5 : Code := cL WCircles_n4
noncomputable def WCircles_n6 : Code := cR WCircles_n4
noncomputable def WCircles_n7 : Code := cL WCircles_n5
noncomputable def WCircles_n8 : Code := cR WCircles_n5
noncomputable def WCircles_n9 : Code := cL WCircles_n8
noncomputable def WCircles_n10 : Code := cR WCircles_n8
noncomputable def WCircles_n11 : Code := cL WCircles_n9
noncomputable def WCircles_n12 : Code := cR WCircles_n9
noncomputable def WCircles_n13 : Code := cL WCircles_n6
noncomputable def WCircles_n14 : Code := cR WCircles_n6
set_option maxRecDepth 10000 in
theorem WCircles_t {w : World} {M : Hp} {X : Fr} (d : Dg) {dcrsA : Option Addr} {dcrsc : Nat} (hdcrs : RdA cdCr (M.un X.h) dcrsA dcrsc d.crs) (S : SH w M X []) : Ct Try.prog 46 [.agg [.slice dcrsA d.crs.length dcrsc, .int .i64 d.loops].toArray] w M X (fun u N => ∃ A c vs, u = .tuple [.slice A vs.length c, .int .i64 (errO d)].toArray ∧ RdA (cdV 44) N A c vs ∧ Rd2 cdInt N vs (circR d)) := by
  unfold Ct
  have rmhdcrs : d.crs.length * 40 ≤ 140737488355328 := hdcrs.room
  refine calls_in (b := WCircles_n0) Try.func46 rfl Try.ntmps46 rfl (fun C hC => ?_)
  refine ws_sub [(0, _)] ⟨rfl, trivial⟩ ?_
  refine ws_seqN WCircles_n1 WCircles_n2 rfl rfl rfl ?_
  refine ws_region rfl ?_
  refine wl_op (k := 0) (k' := 1) rfl rfl rfl (wo_box (l := [_, _]) rfl rfl rfl rfl rfl S ?_)
  intro gb1 w1 S1; clear S
  refine wl_op (k := 1) (k' := 2) rfl rfl rfl (wo_run rfl rfl (run_assign rfl rfl) ?_)
  refine wl_op (k := 2) (k' := 3) rfl rfl rfl (wo_run rfl rfl (run_assign rfl rfl) ?_)
  refine wl_end rfl ?_
  refine nm_sub [(1, _)] ⟨rfl, trivial⟩ ?_
  refine nm_thn ?_
  refine ws_seqN WCircles_n3 WCircles_n4 rfl rfl rfl ?_
  refine ws_region rfl ?_
  refine wl_op (k := 0) (k' := 1) rfl rfl rfl (wo_run rfl rfl (run_loadN (us := [_, _]) rfl rfl Try.underlying27 rfl sz27 (S1.boxcs (i := 0) rfl ⟨rfl, rfl, trivial⟩)) ?_)
  refine wl_op (k := 1) (k' := 2) rfl rfl rfl (wo_ct rfl rfl rfl rfl rfl rfl rfl cf71 S1 (Open_t d (hdcrs.mono S1.un_XH) S1.lend) ?_)
  intro vw2 w2 M1 hle1 S2 hRw2; clear S1
  replace hdcrs := hdcrs.mono (Hp.un_mono hle1 S2.mx)
  rcases hRw2 with ⟨hopn8, rfl⟩ | ⟨hopn8, g1, cA8, iA8, oA8, cc8, ic8, oc8, rfl, hsb8, hsc8, hsi8, hso8⟩
  · refine wl_op (k := 2) (k' := 3) rfl rfl rfl (wo_run rfl rfl (run_move rfl rfl) ?_)
    refine wl_op (k := 3) (k' := 4) rfl rfl rfl (wo_run rfl rfl (run_extract rfl rfl rfl) ?_)
    refine wl_op (k := 4) (k' := 5) rfl rfl rfl (wo_run rfl rfl (run_extract rfl rfl rfl) ?_)
    refine wl_op (k := 5) (k' := 6) rfl rfl rfl (wo_run rfl rfl (run_assign rfl rfl) ?_)
    refine wl_op (k := 6) (k' := 7) rfl rfl rfl (wo_run rfl rfl (run_assign rfl rfl) ?_)
    refine wl_end rfl ?_
    refine nm_sub [(4, _), (5, _)] ⟨rfl, rfl, trivial⟩ ?_
    refine nm_thn ?_
    refine ws_seqN WCircles_n5 WCircles_n6 rfl rfl rfl ?_
    refine ws_seqN WCircles_n7 WCircles_n8 rfl rfl rfl ?_
    refine ws_region rfl ?_
    refine wl_op (k := 0) (k' := 1) rfl rfl rfl (wo_run rfl rfl (run_move rfl rfl) ?_)
    refine wl_op (k := 1) (k' := 2) rfl rfl rfl (wo_run rfl rfl (run_neq rfl rfl rfl) ?_)
    refine wl_end rfl ?_
    refine nm_sub [(4, _), (5, _), (12, _)] ⟨rfl, rfl, rfl, trivial⟩ ?_
    refine nm_thn ?_
    refine ws_condN WCircles_n9 WCircles_n10 rfl rfl rfl rfl (fun hb12 => ?_) (fun hb12 => ?_)
    · have hb12 := of_decide_eq_true hb12
      refine ws_seqN WCircles_n11 WCircles_n12 rfl rfl rfl ?_
      refine ws_region rfl ?_
      refine wl_op (k := 0) (k' := 1) rfl rfl rfl (wo_run rfl rfl (run_move rfl rfl) ?_)
      refine wl_op (k := 1) (k' := 2) rfl rfl rfl (wo_run rfl rfl (run_assign rfl rfl) ?_)
      refine wl_op (k := 2) (k' := 3) rfl rfl rfl (wo_run rfl rfl (run_assign rfl rfl) ?_)
      refine wl_end rfl ?_
      refine nm_sub [(2, _), (3, _)] ⟨rfl, rfl, trivial⟩ ?_
      refine nm_thn ?_
      refine ws_ret hC [_, _] rfl rfl ⟨rfl, rfl, trivial⟩ ?_
      refine ⟨_, rfl, _, hle1, (S2.pick [] [] (by decide) trivial), ?_⟩
      have e1 : circR d = [] := by unfold circR; rw [if_neg hopn8]
      rw [e1]
      exact ⟨none, 0, [], rfl, RdA.nil_, Rd2.nil_⟩
    · have hb12 := of_decide_eq_false hb12
      exfalso; omega
  · obtain ⟨hmo, hpl⟩ := errO_ok hopn8
    obtain ⟨hn, hab, hlo0, hlo1⟩ := mayO hmo
    refine wl_op (k := 2) (k' := 3) rfl rfl rfl (wo_run rfl rfl (run_move rfl rfl) ?_)
    refine wl_op (k := 3) (k' := 4) rfl rfl rfl (wo_run rfl rfl (run_extract rfl rfl rfl) ?_)
    refine wl_op (k := 4) (k' := 5) rfl rfl rfl (wo_run rfl rfl (run_extract rfl rfl rfl) ?_)
    refine wl_op (k := 5) (k' := 6) rfl rfl rfl (wo_run rfl rfl (run_assign rfl rfl) ?_)
    refine wl_op (k := 6) (k' := 7) rfl rfl rfl (wo_run rfl rfl (run_assign rfl rfl) ?_)
    refine wl_end rfl ?_
    refine nm_sub [(4, _), (5, _)] ⟨rfl, rfl, trivial⟩ ?_
    refine nm_thn ?_
    refine ws_seqN WCircles_n5 WCircles_n6 rfl rfl rfl ?_
    refine ws_seqN WCircles_n7 WCircles_n8 rfl rfl rfl ?_
    refine ws_region rfl ?_
    refine wl_op (k := 0) (k' := 1) rfl rfl rfl (wo_run rfl rfl (run_move rfl rfl) ?_)
    refine wl_op (k := 1) (k' := 2) rfl rfl rfl (wo_run rfl rfl (run_neq rfl rfl rfl) ?_)
    refine wl_end rfl ?_
    refine nm_sub [(4, _), (5, _), (12, _)] ⟨rfl, rfl, rfl, trivial⟩ ?_
    refine nm_thn ?_
    refine ws_condN WCircles_n9 WCircles_n10 rfl rfl rfl rfl (fun hb12 => ?_) (fun hb12 => ?_)
    · have hb12 := of_decide_eq_true hb12
      exfalso; omega
    · have hb12 := of_decide_eq_false hb12
      refine ws_skip rfl ?_
      refine nm_sub [(4, _)] ⟨rfl, trivial⟩ ?_
      refine nm_thn ?_
      refine ws_seqN WCircles_n13 WCircles_n14 rfl rfl rfl ?_
      refine ws_region rfl ?_
      refine wl_op (k := 0) (k' := 1) rfl rfl rfl (wo_run rfl rfl (run_move rfl rfl) ?_)
      refine wl_op (k := 1) (k' := 2) rfl rfl rfl (wo_ct rfl rfl rfl rfl rfl rfl rfl cf76 S2 (Circles_t d (hsb8.mono (Hp.le_un _ _)) (hsc8.mono (Hp.le_un _ _)) (hsi8.mono (Hp.le_un _ _)) (hso8.mono (Hp.le_un _ _)) hn hab S2.lend) ?_)
      intro vw3 w3 M2 hle2 S3 hRw3; clear S2
      replace hdcrs := hdcrs.mono (Hp.un_mono hle2 S3.mx)
      replace hsb8 := hsb8.mono hle2
      replace hsc8 := hsc8.mono hle2
      replace hsi8 := hsi8.mono hle2
      replace hso8 := hso8.mono hle2
      obtain ⟨A1, c1, vs1, rfl, hr1, hd1⟩ := hRw3
      have hlencircL := hd1.1
      refine wl_op (k := 2) (k' := 3) rfl rfl rfl (wo_run rfl rfl (run_assign rfl rfl) ?_)
      refine wl_op (k := 3) (k' := 4) rfl rfl rfl (wo_run rfl rfl (run_assign rfl rfl) ?_)
      refine wl_end rfl ?_
      refine nm_sub [(2, _), (3, _)] ⟨rfl, rfl, trivial⟩ ?_
      refine nm_thn ?_
      refine ws_ret hC [_, _] rfl rfl ⟨rfl, rfl, trivial⟩ ?_
      refine ⟨_, rfl, _, hle1.trans hle2, (S3.pick [] [] (by decide) trivial), ?_⟩
      have e1 : circR d = circL d := by unfold circR; rw [if_pos hopn8]
      rw [e1, hopn8]
      exact ⟨_, _, _, rfl, hr1, hd1⟩


/-! ### What rings hold -/

/-- L holds just the marked ones, once each. -/
def Marks (seen : List Bool) (L : List Int) : Prop := L.Nodup ∧ ∀ y : Int, y ∈ L ↔ ∃ x : Nat, y = (x : Int) ∧ x < seen.length ∧ ga seen x = true

theorem marks_set {seen : List Bool} {L : List Int} {x : Nat} (h : Marks seen L) (hx : x < seen.length) (hf : ga seen x = false) : Marks (seen.set x true) (L ++ [(x : Int)]) := by
  obtain ⟨h1, h2⟩ := h
  refine ⟨?_, fun y => ?_⟩
  · rw [List.nodup_append]
    refine ⟨h1, by simp, ?_⟩
    intro a ha b hb e
    rw [List.mem_singleton] at hb
    subst hb
    subst e
    obtain ⟨x', e, _, h4⟩ := (h2 _).1 ha
    obtain rfl : x = x' := by omega
    rw [hf] at h4
    cases h4
  · rw [List.mem_append, List.mem_singleton, h2]
    constructor
    · rintro (⟨x', e, h3, h4⟩ | rfl)
      · refine ⟨x', e, by rw [List.length_set]; exact h3, ?_⟩
        rw [ga_set _ _ _ _ hx]
        split <;> simp [h4]
      · exact ⟨x, rfl, by rw [List.length_set]; exact hx, by rw [ga_set _ _ _ _ hx]; simp⟩
    · rintro ⟨x', e, h3, h4⟩
      rw [List.length_set] at h3
      rw [ga_set _ _ _ _ hx] at h4
      by_cases hxx : x = x'
      · subst hxx; exact .inr e
      · rw [if_neg hxx] at h4; exact .inl ⟨x', e, h3, h4⟩

theorem ringF_marks {nx : Nat → Nat} (P : List Int) (seen : List Bool) (x : Nat) (acc : List Int) (h : Marks seen (P ++ acc)) :
    Marks (ringF nx seen x acc).1 (P ++ (ringF nx seen x acc).2) ∧ (∀ y, ga seen y = true → ga (ringF nx seen x acc).1 y = true) ∧ (x < seen.length → ga (ringF nx seen x acc).1 x = true) := by
  induction hk : free seen using Nat.strongRecOn generalizing seen x acc with
  | _ k ih =>
    by_cases hx : x < seen.length ∧ ga seen x = false
    · rw [ringF_go hx.1 hx.2]
      have hf := free_set hx.1 hx.2
      obtain ⟨r1, r2, _⟩ := ih (free (seen.set x true)) (by omega) (seen.set x true) (nx x) (acc ++ [(x : Int)]) (by rw [← List.append_assoc]; exact marks_set h hx.1 hx.2) rfl
      refine ⟨r1, fun y hy => r2 y ?_, fun _ => r2 x ?_⟩
      · rw [ga_set _ _ _ _ hx.1]; split <;> simp [hy]
      · rw [ga_set _ _ _ _ hx.1]; simp
    · have e : ringF nx seen x acc = (seen, acc) := by rw [ringF]; simp [hx]
      rw [e]
      refine ⟨h, fun y hy => hy, fun hl => ?_⟩
      cases hg : ga seen x
      · exact absurd ⟨hl, hg⟩ hx
      · rfl

theorem ringsF_marks (nx : Nat → Nat) (N A : Nat) (hA : A < N) : Marks (ringsF nx N A).1 (ringsF nx N A).2.flatten ∧ ∀ a, 1 ≤ a → a ≤ A → ga (ringsF nx N A).1 a = true := by
  induction A with
  | zero =>
    refine ⟨⟨by simp [ringsF], fun y => ?_⟩, fun a h0 h1 => by omega⟩
    simp only [ringsF, List.flatten_nil, List.not_mem_nil, List.length_replicate, false_iff]
    rintro ⟨x, _, h1, h2⟩
    rw [ga_rep _ _ _ h1] at h2
    cases h2
  | succ A ih =>
    obtain ⟨i1, i2⟩ := ih (by omega)
    cases hg : ga (ringsF nx N A).1 (A + 1)
    · rw [ringsF_ring hg]
      dsimp only
      obtain ⟨r1, r2, r3⟩ := ringF_marks (nx := nx) (ringsF nx N A).2.flatten (ringsF nx N A).1 (A + 1) [] (by simpa using i1)
      refine ⟨by rw [List.flatten_append]; simpa using r1, fun a h0 h1 => ?_⟩
      by_cases ha : a = A + 1
      · subst ha; exact r3 (by rw [ringsF_len]; exact hA)
      · exact r2 a (i2 a h0 (by omega))
    · rw [ringsF_skip hg]
      refine ⟨i1, fun a h0 h1 => ?_⟩
      by_cases ha : a = A + 1
      · subst ha; exact hg
      · exact i2 a h0 (by omega)

theorem ringF_pos {nx : Nat → Nat} {M : Nat} (hnx : ∀ a, 1 ≤ a → a ≤ M → 1 ≤ nx a ∧ nx a ≤ M) (seen : List Bool) (x : Nat) (acc : List Int) (h0 : 1 ≤ x) (h1 : x ≤ M) : ga (ringF nx seen x acc).1 0 = ga seen 0 := by
  induction hk : free seen using Nat.strongRecOn generalizing seen x acc with
  | _ k ih =>
    by_cases h : x < seen.length ∧ ga seen x = false
    · rw [ringF_go h.1 h.2]
      have hf := free_set h.1 h.2
      obtain ⟨n0, n1⟩ := hnx x h0 h1
      rw [ih (free (seen.set x true)) (by omega) (seen.set x true) (nx x) (acc ++ [(x : Int)]) n0 n1 rfl, ga_set _ _ _ _ h.1, if_neg (by omega)]
    · rw [ringF]; simp [h]
theorem ringsF_pos {nx : Nat → Nat} {M : Nat} (hnx : ∀ a, 1 ≤ a → a ≤ M → 1 ≤ nx a ∧ nx a ≤ M) (A : Nat) (hA : A ≤ M) : ga (ringsF nx (M + 1) A).1 0 = false := by
  induction A with
  | zero => simp [ringsF, ga_rep]
  | succ A ih =>
    cases hg : ga (ringsF nx (M + 1) A).1 (A + 1)
    · rw [ringsF_ring hg]
      dsimp only
      rw [ringF_pos hnx _ _ _ (by omega) hA]
      exact ih (by omega)
    · rw [ringsF_skip hg]
      exact ih (by omega)

/-- All arcs lie on the strands, once each. -/
theorem strands_all {d : Dg} (h : arcsB d = true) : (strandsL d).flatten.Nodup ∧ ∀ y : Int, y ∈ (strandsL d).flatten ↔ 1 ≤ y ∧ y ≤ 2 * (d.crs.length : Int) := by
  obtain ⟨⟨m1, m2⟩, m3⟩ := ringsF_marks (nextN d) (2 * d.crs.length + 1) (2 * d.crs.length) (by omega)
  have hp := ringsF_pos (nx := nextN d) (M := 2 * d.crs.length) (fun a h0 h1 => (nextN_eq h h0 h1).2) (2 * d.crs.length) (Nat.le_refl _)
  refine ⟨m1, fun y => ?_⟩
  unfold strandsL
  rw [m2, ringsF_len]
  constructor
  · rintro ⟨x, rfl, h1, h2⟩
    have : x ≠ 0 := by rintro rfl; rw [hp] at h2; cases h2
    omega
  · rintro ⟨h1, h2⟩
    exact ⟨y.toNat, by omega, by omega, m3 _ (by omega) (by omega)⟩


theorem flat_dis {xss : List (List Int)} (h : xss.flatten.Nodup) {i j : Nat} (hi : i < xss.length) (hj : j < xss.length) {y : Int} (h1 : y ∈ ga xss i) (h2 : y ∈ ga xss j) : i = j := by
  rw [ga_eq hi] at h1
  rw [ga_eq hj] at h2
  rcases Nat.lt_trichotomy i j with e | e | e
  · exact absurd rfl ((List.pairwise_iff_getElem.1 (List.pairwise_flatten.1 h).2 i j hi hj e) y h1 y h2)
  · exact e
  · exact absurd rfl ((List.pairwise_iff_getElem.1 (List.pairwise_flatten.1 h).2 j i hj hi e) y h2 y h1)
theorem putR_at (i : Nat) (l ps : List Int) (k : Nat) (hk : k ≤ l.length) (hb : ∀ y ∈ l, 0 ≤ y ∧ y < (ps.length : Int)) (a : Nat) (ha : a < ps.length) : ((a : Int) ∈ l.take k → ga (putR i l ps k) a = (i : Int)) ∧ ((a : Int) ∉ l.take k → ga (putR i l ps k) a = ga ps a) := by
  induction k with
  | zero => exact ⟨fun h => by simp at h, fun _ => rfl⟩
  | succ k ih =>
    have ih := ih (by omega)
    have hx := hb (ga l k) (ga_mem (by omega))
    rw [take_ga _ _ (by omega), putR, ga_set _ _ _ _ (by rw [putR_len]; omega)]
    constructor
    · intro h
      by_cases e : (ga l k).toNat = a
      · rw [if_pos e]
      · rw [if_neg e]
        rcases List.mem_append.1 h with h | h
        · exact ih.1 h
        · have := List.mem_singleton.1 h; exact absurd (by omega) e
    · intro h
      rw [List.mem_append, List.mem_singleton] at h
      rw [if_neg (fun e => h (.inr (by omega)))]
      exact ih.2 (fun e => h (.inl e))
theorem prtN_at {d : Dg} (h : arcsB d = true) (m : Nat) (hm : m ≤ (strandsL d).length) {i : Nat} (hi : i < m) {a : Nat} (ha : (a : Int) ∈ ga (strandsL d) i) : ga (prtN d m) a = (i : Int) := by
  have hr := strands_rng h (i := i) (by omega) _ ha
  induction m with
  | zero => omega
  | succ m ih =>
    have hp := putR_at m (ga (strandsL d) m) (prtN d m) _ (Nat.le_refl _) (fun y hy => by have := strands_rng h (i := m) (by omega) y hy; rw [prtN_len]; omega) a (by rw [prtN_len]; omega)
    rw [List.take_length] at hp
    rw [prtN]
    by_cases e : (a : Int) ∈ ga (strandsL d) m
    · rw [hp.1 e, flat_dis (strands_all h).1 (by omega) (by omega) ha e]
    · rw [hp.2 e]
      refine ih (by omega) ?_
      rcases Nat.lt_or_ge i m with h1 | h1
      · exact h1
      · obtain rfl : i = m := by omega
        exact absurd ha e
/-- The strand of an arc. -/
def prt (d : Dg) (a : Int) : Nat := (ga (prtL d) a.toNat).toNat
theorem prt_iff {d : Dg} (h : arcsB d = true) {a : Int} (ha : 1 ≤ a ∧ a ≤ 2 * (d.crs.length : Int)) : prt d a < (strandsL d).length ∧ ga (prtL d) a.toNat = (prt d a : Int) ∧ ∀ i, i < (strandsL d).length → (a ∈ ga (strandsL d) i ↔ prt d a = i) := by
  have hm := ((strands_all h).2 a).2 ha
  rw [List.mem_flatten] at hm
  obtain ⟨r, hr, har⟩ := hm
  obtain ⟨i, hi, rfl⟩ := List.mem_iff_getElem.1 hr
  rw [← ga_eq hi] at har
  have e : a = (a.toNat : Int) := by omega
  have key : ∀ j, j < (strandsL d).length → a ∈ ga (strandsL d) j → ga (prtL d) a.toNat = (j : Int) := fun j hj hm => prtN_at h _ (Nat.le_refl _) hj (by rw [← e]; exact hm)
  have k0 := key i hi har
  have e2 : prt d a = i := by unfold prt; rw [k0]; rfl
  refine ⟨by rw [e2]; exact hi, by rw [e2]; exact k0, fun j hj => ⟨fun hm => ?_, fun hm => ?_⟩⟩
  · have := key j hj hm; omega
  · obtain rfl : j = i := by omega
    exact har


/-- A table by its entries. -/
def tbl (m : Nat) (f : Nat → Nat → Int) : List (List Int) := (List.range m).map fun i => (List.range m).map fun j => f i j
theorem tbl_len (m : Nat) (f : Nat → Nat → Int) : (tbl m f).length = m := by simp [tbl]
theorem tbl_row {m : Nat} (f : Nat → Nat → Int) {i : Nat} (hi : i < m) : ga (tbl m f) i = (List.range m).map fun j => f i j := by
  rw [ga_eq (by rw [tbl_len]; exact hi)]; simp [tbl]
theorem tbl_rlen {m : Nat} (f : Nat → Nat → Int) {i : Nat} (hi : i < m) : (ga (tbl m f) i).length = m := by rw [tbl_row f hi]; simp
theorem tbl_at {m : Nat} (f : Nat → Nat → Int) {i j : Nat} (hi : i < m) (hj : j < m) : ga (ga (tbl m f) i) j = f i j := by
  rw [tbl_row f hi, ga_eq (by simpa using hj)]; simp
theorem tbl_ext {m : Nat} {t : List (List Int)} (f : Nat → Nat → Int) (h : t.length = m) (h1 : ∀ i, i < m → (ga t i).length = m) (h2 : ∀ i j, i < m → j < m → ga (ga t i) j = f i j) : t = tbl m f := by
  apply List.ext_getElem (by rw [h, tbl_len])
  intro i hi _
  have hi' : i < m := by omega
  rw [← ga_eq hi, ← ga_eq (by rw [tbl_len]; exact hi')]
  apply List.ext_getElem (by rw [h1 i hi', tbl_rlen f hi'])
  intro j hj _
  have hj' : j < m := by rw [← h1 i hi']; exact hj
  rw [← ga_eq hj, ← ga_eq (by rw [tbl_rlen f hi']; exact hj'), h2 i j hi' hj', tbl_at f hi' hj']
theorem tbl_congr {m : Nat} {f f' : Nat → Nat → Int} (h : ∀ i j, i < m → j < m → f i j = f' i j) : tbl m f = tbl m f' :=
  tbl_ext f' (tbl_len _ _) (fun i hi => tbl_rlen f hi) (fun i j hi hj => by rw [tbl_at f hi hj, h i j hi hj])
theorem tbl_set {m p q : Nat} (f f' : Nat → Nat → Int) (v : Int) (hp : p < m) (hq : q < m) (h : ∀ i j, i < m → j < m → f' i j = if i = p ∧ j = q then v else f i j) : (tbl m f).set p ((ga (tbl m f) p).set q v) = tbl m f' := by
  apply tbl_ext f' (by rw [List.length_set, tbl_len])
  · intro i hi
    rw [ga_set _ _ _ _ (by rw [tbl_len]; exact hp)]
    split
    · rw [List.length_set, tbl_rlen f hp]
    · exact tbl_rlen f hi
  · intro i j hi hj
    rw [ga_set _ _ _ _ (by rw [tbl_len]; exact hp), h i j hi hj]
    by_cases e : p = i
    · subst e
      rw [if_pos rfl, ga_set _ _ _ _ (by rw [tbl_rlen f hp]; exact hq)]
      by_cases e2 : q = j
      · subst e2; rw [if_pos rfl, if_pos ⟨rfl, rfl⟩]
      · rw [if_neg e2, if_neg (fun hh => e2 hh.2.symm), tbl_at f hi hj]
    · rw [if_neg e, if_neg (fun hh => e hh.1.symm), tbl_at f hi hj]
theorem tdiv2_bd (a : Int) (h : -1000 ≤ a ∧ a ≤ 1000) : -9223372036854775808 ≤ a.tdiv 2 ∧ a.tdiv 2 ≤ 9223372036854775807 := by
  rcases Int.le_total 0 a with h0 | h0
  · rw [Int.tdiv_eq_ediv_of_nonneg h0]; omega
  · have e : a.tdiv 2 = -((-a).tdiv 2) := by rw [Int.neg_tdiv, Int.neg_neg]
    rw [e, Int.tdiv_eq_ediv_of_nonneg (by omega)]; omega
/-- How two strands are linked. -/
def pA (d : Dg) (k : Nat) : Nat := prt d (ga d.crs k).a
def pB (d : Dg) (k : Nat) : Nat := prt d (ga d.crs k).b
def entN (d : Dg) (i j : Nat) : Nat → Int
  | 0 => 0
  | k + 1 => if (pA d k = i ∧ pB d k = j) ∨ ((pA d k = j ∧ pB d k = i) ∧ i ≠ j) then entN d i j k + sgn (ga d.crs k) else entN d i j k
theorem entN_bd (d : Dg) (i j k : Nat) : -(k : Int) ≤ entN d i j k ∧ entN d i j k ≤ k := by
  induction k with
  | zero => simp [entN]
  | succ k ih => rw [entN]; unfold sgn; split <;> (try split) <;> omega
def finE (d : Dg) (i j : Nat) : Int := if i = j then entN d i j d.crs.length else (entN d i j d.crs.length).tdiv 2
def lnkL (d : Dg) : List (List Int) := tbl (strandsL d).length (finE d)
def lnkR (d : Dg) : List (List Int) := if errO d = 0 then lnkL d else []
def upT (d : Dg) (k i j : Nat) : Int := if i = pA d k ∧ j = pB d k then entN d i j k + sgn (ga d.crs k) else entN d i j k
theorem upT_same {d : Dg} {k : Nat} (h : pA d k = pB d k) (i j : Nat) : entN d i j (k + 1) = upT d k i j := by
  rw [entN, upT]
  split <;> split <;> first | rfl | omega
theorem upT_bd (d : Dg) (k i j : Nat) : -(k : Int) - 1 ≤ upT d k i j ∧ upT d k i j ≤ k + 1 := by
  have := entN_bd d i j k
  unfold upT sgn; split <;> (try split) <;> omega
theorem sgn_bd (x : Cr) : -1 ≤ sgn x ∧ sgn x ≤ 1 := by unfold sgn; split <;> omega
theorem upT_two {d : Dg} {k : Nat} (h : pA d k ≠ pB d k) (i j : Nat) : entN d i j (k + 1) = if i = pB d k ∧ j = pA d k then upT d k i j + sgn (ga d.crs k) else upT d k i j := by
  rw [entN]
  unfold upT
  split <;> split <;> split <;> first | rfl | omega

noncomputable def Linking_n0 : Code := Try.f45.body.getD .skip
noncomputable def Linking_n1 : Code := cL Linking_n0
noncomputable def Linking_n2 : Code := cR Linking_n0
noncomputable def Linking_n3 : Code := cL Linking_n2
noncomputable def Linking_n4 : Code := cR Linking_n2
noncomputable def Linking_n5 : Code := cL Linking_n4
noncomputable def Linking_n6 : Code := cR Linking_n4
noncomputable def Linking_n7 : Code := cL Linking_n5
noncomputable def Linking_n8 : Code := cR Linking_n5
noncomputable def Linking_n9 : Code := cL Linking_n8
noncomputable def Linking_n10 : Code := cR Linking_n8
noncomputable def Linking_n11 : Code := cL Linking_n9
noncomputable def Linking_n12 : Code := cR Linking_n9
noncomputable def Linking_n13 : Code := cL Linking_n6
noncomputable def Linking_n14 : Code := cR Linking_n6
noncomputable def Linking_n15 : Code := cL Linking_n14
noncomputable def Linking_n16 : Code := cR Linking_n14
noncomputable def Linking_n17 : Code := cL Linking_n16
noncomputable def Linking_n18 : Code := cR Linking_n16
noncomputable def Linking_n19 : Code := cL Linking_n17
noncomputable def Linking_n20 : Code := cR Linking_n17
noncomputable def Linking_n21 : Code := cL Linking_n20
noncomputable def Linking_n22 : Code := cL Linking_n21
noncomputable def Linking_n23 : Code := cL Linking_n22
noncomputable def Linking_n24 : Code := cR Linking_n22
noncomputable def Linking_n25 : Code := cL Linking_n24
noncomputable def Linking_n26 : Code := cR Linking_n24
noncomputable def Linking_n27 : Code := cL Linking_n25
noncomputable def Linking_n28 : Code := cR Linking_n25
noncomputable def Linking_n29 : Code := cL Linking_n26
noncomputable def Linking_n30 : Code := cR Linking_n26
noncomputable def Linking_n31 : Code := cL Linking_n29
noncomputable def Linking_n32 : Code := cL Linking_n31
noncomputable def Linking_n33 : Code := cR Linking_n31
noncomputable def Linking_n34 : Code := cL Linking_n18
noncomputable def Linking_n35 : Code := cR Linking_n18
noncomputable def Linking_n36 : Code := cL Linking_n34
noncomputable def Linking_n37 : Code := cR Linking_n34
noncomputable def Linking_n38 : Code := cL Linking_n37
noncomputable def Linking_n39 : Code := cL Linking_n38
noncomputable def Linking_n40 : Code := cL Linking_n39
noncomputable def Linking_n41 : Code := cR Linking_n39
noncomputable def Linking_n42 : Code := cL Linking_n41
noncomputable def Linking_n43 : Code := cR Linking_n41
noncomputable def Linking_n44 : Code := cL Linking_n42
noncomputable def Linking_n45 : Code := cR Linking_n42
noncomputable def Linking_n46 : Code := cL Linking_n43
noncomputable def Linking_n47 : Code := cR Linking_n43
noncomputable def Linking_n48 : Code := cL Linking_n46
noncomputable def Linking_n49 : Code := cL Linking_n48
noncomputable def Linking_n50 : Code := cR Linking_n48
noncomputable def Linking_n51 : Code := cL Linking_n50
noncomputable def Linking_n52 : Code := cR Linking_n50
noncomputable def Linking_n53 : Code := cL Linking_n52
noncomputable def Linking_n54 : Code := cR Linking_n52
noncomputable def Linking_n55 : Code := cL Linking_n54
noncomputable def Linking_n56 : Code := cR Linking_n54
noncomputable def Linking_n57 : Code := cL Linking_n56
noncomputable def Linking_n58 : Code := cR Linking_n56
noncomputable def Linking_n59 : Code := cL Linking_n35
noncomputable def Linking_n60 : Code := cR Linking_n35
noncomputable def Linking_n61 : Code := cL Linking_n59
noncomputable def Linking_n62 : Code := cR Linking_n59
noncomputable def Linking_n63 : Code := cL Linking_n62
noncomputable def Linking_n64 : Code := cL Linking_n63
noncomputable def Linking_n65 : Code := cL Linking_n64
noncomputable def Linking_n66 : Code := cR Linking_n64
noncomputable def Linking_n67 : Code := cL Linking_n66
noncomputable def Linking_n68 : Code := cR Linking_n66
noncomputable def Linking_n69 : Code := cL Linking_n67
noncomputable def Linking_n70 : Code := cR Linking_n67
noncomputable def Linking_n71 : Code := cL Linking_n68
noncomputable def Linking_n72 : Code := cR Linking_n68
noncomputable def Linking_n73 : Code := cL Linking_n71
noncomputable def Linking_n74 : Code := cL Linking_n73
noncomputable def Linking_n75 : Code := cR Linking_n73
noncomputable def Linking_n76 : Code := cL Linking_n75
noncomputable def Linking_n77 : Code := cR Linking_n75
noncomputable def Linking_n78 : Code := cL Linking_n77
noncomputable def Linking_n79 : Code := cL Linking_n78
noncomputable def Linking_n80 : Code := cL Linking_n79
noncomputable def Linking_n81 : Code := cR Linking_n79
noncomputable def Linking_n82 : Code := cL Linking_n81
noncomputable def Linking_n83 : Code := cR Linking_n81
noncomputable def Linking_n84 : Code := cL Linking_n82
noncomputable def Linking_n85 : Code := cR Linking_n82
noncomputable def Linking_n86 : Code := cL Linking_n83
noncomputable def Linking_n87 : Code := cR Linking_n83
noncomputable def Linking_n88 : Code := cL Linking_n86
noncomputable def Linking_n89 : Code := cL Linking_n88
noncomputable def Linking_n90 : Code := cR Linking_n88
noncomputable def Linking_n91 : Code := cL Linking_n90
noncomputable def Linking_n92 : Code := cR Linking_n90
noncomputable def Linking_n93 : Code := cL Linking_n92
noncomputable def Linking_n94 : Code := cR Linking_n92
noncomputable def Linking_n95 : Code := cL Linking_n60
noncomputable def Linking_n96 : Code := cR Linking_n60
set_option maxHeartbeats 1000000 in
set_option maxRecDepth 10000 in
theorem Linking_t {w : World} {M : Hp} {X : Fr} (d : Dg) {dcrsA : Option Addr} {dcrsc : Nat} (hdcrs : RdA cdCr (M.un X.h) dcrsA dcrsc d.crs) (S : SH w M X []) : Ct Try.prog 45 [.agg [.slice dcrsA d.crs.length dcrsc, .int .i64 d.loops].toArray] w M X (fun u N => ∃ A c vs, u = .tuple [.slice A vs.length c, .int .i64 (errO d)].toArray ∧ RdA (cdV 44) N A c vs ∧ Rd2 cdInt N vs (lnkR d)) := by
  unfold Ct
  have rmhdcrs : d.crs.length * 40 ≤ 140737488355328 := hdcrs.room
  refine calls_in (b := Linking_n0) Try.func45 rfl Try.ntmps45 rfl (fun C hC => ?_)
  refine ws_sub [(0, _)] ⟨rfl, trivial⟩ ?_
  refine ws_seqN Linking_n1 Linking_n2 rfl rfl rfl ?_
  refine ws_region rfl ?_
  refine wl_op (k := 0) (k' := 1) rfl rfl rfl (wo_box (l := [_, _]) rfl rfl rfl rfl rfl S ?_)
  intro gb1 w1 S1; clear S
  refine wl_op (k := 1) (k' := 2) rfl rfl rfl (wo_run rfl rfl (run_assign rfl rfl) ?_)
  refine wl_op (k := 2) (k' := 3) rfl rfl rfl (wo_run rfl rfl (run_assign rfl rfl) ?_)
  refine wl_end rfl ?_
  refine nm_sub [(1, _)] ⟨rfl, trivial⟩ ?_
  refine nm_thn ?_
  refine ws_seqN Linking_n3 Linking_n4 rfl rfl rfl ?_
  refine ws_region rfl ?_
  refine wl_op (k := 0) (k' := 1) rfl rfl rfl (wo_run rfl rfl (run_loadN (us := [_, _]) rfl rfl Try.underlying27 rfl sz27 (S1.boxcs (i := 0) rfl ⟨rfl, rfl, trivial⟩)) ?_)
  refine wl_op (k := 1) (k' := 2) rfl rfl rfl (wo_ct rfl rfl rfl rfl rfl rfl rfl cf71 S1 (Open_t d (hdcrs.mono S1.un_XH) S1.lend) ?_)
  intro vw2 w2 M1 hle1 S2 hRw2; clear S1
  replace hdcrs := hdcrs.mono (Hp.un_mono hle1 S2.mx)
  rcases hRw2 with ⟨hopn17, rfl⟩ | ⟨hopn17, g1, cA17, iA17, oA17, cc17, ic17, oc17, rfl, hsb17, hsc17, hsi17, hso17⟩
  · refine wl_op (k := 2) (k' := 3) rfl rfl rfl (wo_run rfl rfl (run_move rfl rfl) ?_)
    refine wl_op (k := 3) (k' := 4) rfl rfl rfl (wo_run rfl rfl (run_extract rfl rfl rfl) ?_)
    refine wl_op (k := 4) (k' := 5) rfl rfl rfl (wo_run rfl rfl (run_extract rfl rfl rfl) ?_)
    refine wl_op (k := 5) (k' := 6) rfl rfl rfl (wo_run rfl rfl (run_assign rfl rfl) ?_)
    refine wl_op (k := 6) (k' := 7) rfl rfl rfl (wo_run rfl rfl (run_assign rfl rfl) ?_)
    refine wl_end rfl ?_
    refine nm_sub [(4, _), (5, _)] ⟨rfl, rfl, trivial⟩ ?_
    refine nm_thn ?_
    refine ws_seqN Linking_n5 Linking_n6 rfl rfl rfl ?_
    refine ws_seqN Linking_n7 Linking_n8 rfl rfl rfl ?_
    refine ws_region rfl ?_
    refine wl_op (k := 0) (k' := 1) rfl rfl rfl (wo_run rfl rfl (run_move rfl rfl) ?_)
    refine wl_op (k := 1) (k' := 2) rfl rfl rfl (wo_run rfl rfl (run_neq rfl rfl rfl) ?_)
    refine wl_end rfl ?_
    refine nm_sub [(4, _), (5, _), (21, _)] ⟨rfl, rfl, rfl, trivial⟩ ?_
    refine nm_thn ?_
    refine ws_condN Linking_n9 Linking_n10 rfl rfl rfl rfl (fun hb21 => ?_) (fun hb21 => ?_)
    · have hb21 := of_decide_eq_true hb21
      refine ws_seqN Linking_n11 Linking_n12 rfl rfl rfl ?_
      refine ws_region rfl ?_
      refine wl_op (k := 0) (k' := 1) rfl rfl rfl (wo_run rfl rfl (run_move rfl rfl) ?_)
      refine wl_op (k := 1) (k' := 2) rfl rfl rfl (wo_run rfl rfl (run_assign rfl rfl) ?_)
      refine wl_op (k := 2) (k' := 3) rfl rfl rfl (wo_run rfl rfl (run_assign rfl rfl) ?_)
      refine wl_end rfl ?_
      refine nm_sub [(2, _), (3, _)] ⟨rfl, rfl, trivial⟩ ?_
      refine nm_thn ?_
      refine ws_ret hC [_, _] rfl rfl ⟨rfl, rfl, trivial⟩ ?_
      refine ⟨_, rfl, _, hle1, (S2.pick [] [] (by decide) trivial), ?_⟩
      have e1 : lnkR d = [] := by unfold lnkR; rw [if_neg hopn17]
      rw [e1]
      exact ⟨none, 0, [], rfl, RdA.nil_, Rd2.nil_⟩
    · have hb21 := of_decide_eq_false hb21
      exfalso; omega
  · obtain ⟨hmo, hpl⟩ := errO_ok hopn17
    obtain ⟨hn, hab, hlo0, hlo1⟩ := mayO hmo
    refine wl_op (k := 2) (k' := 3) rfl rfl rfl (wo_run rfl rfl (run_move rfl rfl) ?_)
    refine wl_op (k := 3) (k' := 4) rfl rfl rfl (wo_run rfl rfl (run_extract rfl rfl rfl) ?_)
    refine wl_op (k := 4) (k' := 5) rfl rfl rfl (wo_run rfl rfl (run_extract rfl rfl rfl) ?_)
    refine wl_op (k := 5) (k' := 6) rfl rfl rfl (wo_run rfl rfl (run_assign rfl rfl) ?_)
    refine wl_op (k := 6) (k' := 7) rfl rfl rfl (wo_run rfl rfl (run_assign rfl rfl) ?_)
    refine wl_end rfl ?_
    refine nm_sub [(4, _), (5, _)] ⟨rfl, rfl, trivial⟩ ?_
    refine nm_thn ?_
    refine ws_seqN Linking_n5 Linking_n6 rfl rfl rfl ?_
    refine ws_seqN Linking_n7 Linking_n8 rfl rfl rfl ?_
    refine ws_region rfl ?_
    refine wl_op (k := 0) (k' := 1) rfl rfl rfl (wo_run rfl rfl (run_move rfl rfl) ?_)
    refine wl_op (k := 1) (k' := 2) rfl rfl rfl (wo_run rfl rfl (run_neq rfl rfl rfl) ?_)
    refine wl_end rfl ?_
    refine nm_sub [(4, _), (5, _), (21, _)] ⟨rfl, rfl, rfl, trivial⟩ ?_
    refine nm_thn ?_
    refine ws_condN Linking_n9 Linking_n10 rfl rfl rfl rfl (fun hb21 => ?_) (fun hb21 => ?_)
    · have hb21 := of_decide_eq_true hb21
      exfalso; omega
    · have hb21 := of_decide_eq_false hb21
      refine ws_skip rfl ?_
      refine nm_sub [(4, _)] ⟨rfl, trivial⟩ ?_
      refine nm_thn ?_
      refine ws_seqN Linking_n13 Linking_n14 rfl rfl rfl ?_
      refine ws_region rfl ?_
      refine wl_op (k := 0) (k' := 1) rfl rfl rfl (wo_run rfl rfl (run_move rfl rfl) ?_)
      refine wl_op (k := 1) (k' := 2) rfl rfl rfl (wo_ct rfl rfl rfl rfl rfl rfl rfl cf64 S2 (Parts_t d (hsb17.mono (Hp.le_un _ _)) (hsc17.mono (Hp.le_un _ _)) (hsi17.mono (Hp.le_un _ _)) (hso17.mono (Hp.le_un _ _)) hn hab S2.lend) ?_)
      intro vw3 w3 M2 hle2 S3 hRw3; clear S2
      replace hdcrs := hdcrs.mono (Hp.un_mono hle2 S3.mx)
      replace hsb17 := hsb17.mono hle2
      replace hsc17 := hsc17.mono hle2
      replace hsi17 := hsi17.mono hle2
      replace hso17 := hso17.mono hle2
      obtain ⟨A1, c1, rfl, hr1⟩ := hRw3
      refine wl_op (k := 2) (k' := 3) rfl rfl rfl (wo_run rfl rfl (run_assign rfl rfl) ?_)
      refine wl_end rfl ?_
      refine nm_sub [(4, _), (6, _)] ⟨rfl, rfl, trivial⟩ ?_
      refine nm_thn ?_
      refine ws_seqN Linking_n15 Linking_n16 rfl rfl rfl ?_
      refine ws_region rfl ?_
      refine wl_op (k := 0) (k' := 1) rfl rfl rfl (wo_run rfl rfl (run_move rfl rfl) ?_)
      refine wl_op (k := 1) (k' := 2) rfl rfl rfl (wo_ct rfl rfl rfl rfl rfl rfl rfl cf59 S3 (Strands_t d (hsb17.mono (Hp.le_un _ _)) (hsc17.mono (Hp.le_un _ _)) (hsi17.mono (Hp.le_un _ _)) (hso17.mono (Hp.le_un _ _)) hn hab S3.lend) ?_)
      intro vw4 w4 M3 hle3 S4 hRw4; clear S3
      replace hdcrs := hdcrs.mono (Hp.un_mono hle3 S4.mx)
      replace hsb17 := hsb17.mono hle3
      replace hsc17 := hsc17.mono hle3
      replace hsi17 := hsi17.mono hle3
      replace hso17 := hso17.mono hle3
      replace hr1 := hr1.mono hle3
      obtain ⟨A2, c2, vs1, rfl, hr2, hd1⟩ := hRw4
      have hlenstrandsL := hd1.1
      refine wl_op (k := 2) (k' := 3) rfl rfl rfl (wo_run rfl rfl (run_len rfl rfl rfl rfl rfl rfl Try.underlying37) ?_)
      have hsm : (strandsL d).length ≤ 2 * d.crs.length := rings_many _ _ _
      refine wl_op (k := 3) (k' := 4) rfl rfl rfl (wo_make (C := (cdV 44)) vs1.length rfl rfl rfl rfl rfl sl37 (by first | rfl | omega) (by show _ * 24 ≤ _; first | omega | (simp only [List.length_set, List.length_append, List.length_replicate, List.length_singleton, List.length_cons, List.length_nil]; omega)) S4 ?_)
      intro vr1 w5 S5; clear S4
      have S6 := S5.newtab cdInt vs1.length; clear S5
      refine wl_op (k := 4) (k' := 5) rfl rfl rfl (wo_run rfl rfl (run_assign rfl rfl) ?_)
      refine wl_end rfl ?_
      refine nm_sub [(4, _), (6, _), (7, _)] ⟨rfl, rfl, rfl, trivial⟩ ?_
      refine nm_thn ?_
      refine ws_seqN Linking_n17 Linking_n18 rfl rfl rfl ?_
      refine ws_seqN Linking_n19 Linking_n20 rfl rfl rfl ?_
      refine ws_region rfl ?_
      refine wl_op (k := 0) (k' := 1) rfl rfl rfl (wo_run rfl rfl (run_move rfl rfl) ?_)
      refine wl_op (k := 1) (k' := 2) rfl rfl rfl (wo_run rfl rfl (run_lenR (C := (cdV 44)) (i := 1) rfl rfl rfl rfl rfl rfl sl37 S6 rfl) ?_)
      refine wl_eq 30 (.int .i64 ((strandsL d).length : Int)) rfl (int_eq (by rw [List.length_replicate, hlenstrandsL])) ?_
      refine wl_op (k := 2) (k' := 3) rfl rfl rfl (wo_run rfl rfl (run_move rfl rfl) ?_)
      refine wl_end rfl ?_
      refine nm_sub [(4, _), (6, _), (7, _), (30, _), (31, _)] ⟨rfl, rfl, rfl, rfl, rfl, trivial⟩ ?_
      refine nm_thn ?_
      refine ws_blockN Linking_n21 0 rfl rfl rfl ?_
      refine ws_loopE (fun mx_ ax_ wx_ => ∃ (i : Nat) (vs : List SlV) (tb0 : List (List Int)) (vro : Value), mx_ = (strandsL d).length - i ∧ Env 112 [(4, .pointer (some ⟨g1, 0, none⟩)), (6, .slice A1 (prtL d).length c1), (7, vro), (30, .int .i64 ((strandsL d).length : Int)), (31, .int .i64 (i : Int))] ax_ ∧ SH wx_ M3 X [Rs.tab cdInt vs tb0, Rs.row (cdV 44) vro vs] ∧ i ≤ (strandsL d).length ∧ vs.length = (strandsL d).length ∧ tb0.length = (strandsL d).length ∧ (∀ j, j < i → ga tb0 j = List.replicate (strandsL d).length 0)) rfl ?_ ?_
      · intro ax_ hax_
        refine ⟨_, ⟨0, _, _, _, rfl, hax_.sub ⟨rfl, rfl, rfl, rfl, rfl, trivial⟩, S6.pick [0, 1] [_, _] (by decide) ⟨rfl, rfl, trivial⟩, ?hq1f0, ?hq1f1, ?hq1f2, ?hq1f3⟩⟩
        case hq1f0 => omega
        case hq1f1 => (rw [List.length_replicate]; exact hlenstrandsL)
        case hq1f2 => (rw [List.length_replicate]; exact hlenstrandsL)
        case hq1f3 => (intro j hj; omega)
      · rintro m1 a1 w6 ⟨i, vs, tb0, vro, rfl, he1, S7, hi, hvl, htb0, hz0⟩
        clear S6
        refine ws_in he1 (c := Linking_n22) rfl ?_
        clear he1 a1
        refine ws_seqN Linking_n23 Linking_n24 rfl rfl rfl ?_
        refine ws_region rfl ?_
        refine wl_op (k := 0) (k' := 1) rfl rfl rfl (wo_run rfl rfl (run_lss rfl rfl rfl) ?_)
        refine wl_end rfl ?_
        refine nm_thn ?_
        refine ws_seqN Linking_n25 Linking_n26 rfl rfl rfl ?_
        refine ws_condN Linking_n27 Linking_n28 rfl rfl rfl rfl (fun hb32 => ?_) (fun hb32 => ?_)
        · have hb32 := of_decide_eq_true hb32
          refine ws_skip rfl ?_
          refine nm_sub [(4, _), (6, _), (7, _), (30, _), (31, _)] ⟨rfl, rfl, rfl, rfl, rfl, trivial⟩ ?_
          refine nm_thn ?_
          refine ws_seqN Linking_n29 Linking_n30 rfl rfl rfl ?_
          refine ws_blockN Linking_n31 1 rfl rfl rfl ?_
          refine ws_seqN Linking_n32 Linking_n33 rfl rfl rfl ?_
          refine ws_region rfl ?_
          refine wl_op (k := 0) (k' := 1) rfl rfl rfl (wo_run rfl rfl (run_move rfl rfl) ?_)
          refine wl_op (k := 1) (k' := 2) rfl rfl rfl (wo_run rfl rfl (run_assign rfl rfl) ?_)
          refine wl_end rfl ?_
          refine nm_sub [(4, _), (6, _), (7, _), (30, _), (31, _), (8, _)] ⟨rfl, rfl, rfl, rfl, rfl, rfl, trivial⟩ ?_
          refine nm_thn ?_
          refine ws_region rfl ?_
          refine wl_op (k := 0) (k' := 1) rfl rfl rfl (wo_run rfl rfl (run_move rfl rfl) ?_)
          refine wl_op (k := 1) (k' := 2) rfl rfl rfl (wo_run rfl rfl (run_move rfl rfl) ?_)
          refine wl_op (k := 2) (k' := 3) rfl rfl rfl (wo_run rfl rfl (run_move rfl rfl) ?_)
          refine wl_op (k := 3) (k' := 4) rfl rfl rfl (wo_run rfl rfl (run_lenR (C := (cdV 44)) (i := 1) rfl rfl rfl rfl rfl rfl sl37 S7 rfl) ?_)
          refine wl_op (k := 4) (k' := 5) rfl rfl rfl (wo_make (C := cdInt) vs.length rfl rfl rfl rfl rfl sl44 (by first | rfl | omega) (by show _ * 8 ≤ _; first | omega | (simp only [List.length_set, List.length_append, List.length_replicate, List.length_singleton, List.length_cons, List.length_nil]; omega)) S7 ?_)
          intro vr2 w7 S8; clear S7
          refine wl_op (k := 5) (k' := 6) rfl rfl rfl (wo_run rfl rfl (run_indexR (C := (cdV 44)) (i := 2) i rfl rfl rfl sl37 S8 rfl (by first | rfl | omega) (by first | omega | (simp only [List.length_set, List.length_append, List.length_replicate, List.length_singleton, List.length_cons, List.length_nil]; omega))) ?_)
          obtain ⟨A3, c3, rfl, _⟩ := S8.sl (i := 0) rfl
          have S10 := S8.tabput (C := cdInt) (zs := (List.replicate vs.length cdInt.z)) (i := 1) (q := 0) (H' := [_, _, _]) i rfl rfl (by decide) (by first | omega | (simp only [List.length_set, List.length_append, List.length_replicate, List.length_singleton, List.length_cons, List.length_nil]; omega) | (rw [ga_set _ _ _ _ (by first | omega | (simp only [List.length_set]; omega)), if_pos rfl]; simp only [List.length_set]; omega)) rfl; clear S8
          refine wl_op (k := 6) (k' := 7) rfl rfl rfl (wo_storeR (C := (cdV 44)) (i := 2) (e := i) (j := 0) (us := [_]) (H' := [_, _, _]) (⟨A3, (List.replicate vs.length cdInt.z).length, c3⟩ : SlV) rfl rfl S10 rfl (by first | omega | (simp only [List.length_set, List.length_append, List.length_replicate, List.length_singleton, List.length_cons, List.length_nil]; omega)) rfl rfl rfl sz44 rfl rfl rfl rfl ?_)
          intro w9 S11; clear S10
          refine wl_end rfl ?_
          refine nm_blk ?_
          refine nm_sub [(4, _), (6, _), (7, _), (30, _), (31, _)] ⟨rfl, rfl, rfl, rfl, rfl, trivial⟩ ?_
          refine nm_thn ?_
          refine ws_region rfl ?_
          refine wl_op (k := 0) (k' := 1) rfl rfl rfl (wo_run rfl rfl (run_add rfl rfl rfl (by first | omega | (simp only [List.length_set, List.length_append, List.length_replicate, List.length_singleton, List.length_cons, List.length_nil]; omega))) ?_)
          refine wl_op (k := 1) (k' := 2) rfl rfl rfl (wo_run rfl rfl (run_move rfl rfl) ?_)
          refine wl_end rfl ?_
          refine nm_lp ?_
          intro ax_ hax_
          refine ⟨_, ?hq2m, ⟨i + 1, _, _, _, rfl, hax_.sub ⟨rfl, rfl, rfl, rfl, rfl, trivial⟩, S11.pick [1, 2] [_, _] (by decide) ⟨rfl, rfl, trivial⟩, ?hq2f0, ?hq2f1, ?hq2f2, ?hq2f3⟩⟩
          case hq2f0 => omega
          case hq2f1 => simpa using hvl
          case hq2f2 => simpa using htb0
          case hq2f3 => (intro j h1; rw [ga_set _ _ _ _ (by omega)]; split; (first | rfl | (rw [hvl]; rfl)); exact hz0 j (by omega))
          case hq2m => omega
        · have hb32 := of_decide_eq_false hb32
          refine ws_exit rfl rfl ?_
          refine nm_sub [(4, _), (6, _), (7, _)] ⟨rfl, rfl, rfl, trivial⟩ ?_
          refine nm_thn ?_
          refine ws_seqN Linking_n34 Linking_n35 rfl rfl rfl ?_
          refine ws_seqN Linking_n36 Linking_n37 rfl rfl rfl ?_
          refine ws_region rfl ?_
          refine wl_op (k := 0) (k' := 1) rfl rfl rfl (wo_run rfl rfl (run_move rfl rfl) ?_)
          refine wl_op (k := 1) (k' := 2) rfl rfl rfl (wo_run rfl rfl (run_nilCheck rfl rfl) ?_)
          refine wl_op (k := 2) (k' := 3) rfl rfl rfl (wo_run rfl rfl (run_fieldAddr rfl rfl Try.underlying81 rfl (ce27) (nf27)) ?_)
          refine wl_op (k := 3) (k' := 4) rfl rfl rfl (wo_run rfl rfl (run_fieldAddr rfl rfl Try.underlying27 rfl (ce25) (nf25)) ?_)
          refine wl_op (k := 4) (k' := 5) rfl rfl rfl (wo_run rfl rfl (run_load1 rfl rfl Try.underlying25 rfl (hsb17.cell S7.m rfl)) ?_)
          refine wl_op (k := 5) (k' := 6) rfl rfl rfl (wo_run rfl rfl (run_len rfl rfl rfl rfl rfl rfl Try.underlying25) ?_)
          refine wl_op (k := 6) (k' := 7) rfl rfl rfl (wo_run rfl rfl (run_move rfl rfl) ?_)
          refine wl_end rfl ?_
          refine nm_sub [(6, _), (7, _), (45, _), (46, _), (47, _)] ⟨rfl, rfl, rfl, rfl, rfl, trivial⟩ ?_
          refine nm_thn ?_
          refine ws_blockN Linking_n38 2 rfl rfl rfl ?_
          refine ws_loopE (fun mx_ ax_ wx_ => ∃ (k : Nat) (vs : List SlV) (tb : List (List Int)) (vro : Value), mx_ = d.crs.length - k ∧ Env 112 [(6, .slice A1 (prtL d).length c1), (7, vro), (45, .slice cA17 d.crs.length cc17), (46, .int .i64 (d.crs.length : Int)), (47, .int .i64 (k : Int))] ax_ ∧ SH wx_ M3 X [Rs.tab cdInt vs tb, Rs.row (cdV 44) vro vs] ∧ k ≤ d.crs.length ∧ vs.length = (strandsL d).length ∧ tb = tbl (strandsL d).length (fun i j => entN d i j k)) rfl ?_ ?_
          · intro ax_ hax_
            refine ⟨_, ⟨0, _, tb0, _, rfl, hax_.sub ⟨rfl, rfl, rfl, rfl, rfl, trivial⟩, S7.pick [0, 1] [_, _] (by decide) ⟨rfl, rfl, trivial⟩, ?hq3f0, ?hq3f1, ?hq3f2⟩⟩
            case hq3f0 => omega
            case hq3f1 => exact hvl
            case hq3f2 => (refine tbl_ext _ htb0 (fun i hi => ?_) (fun i j hi hj => ?_); (rw [hz0 i (by omega), List.length_replicate]); (rw [hz0 i (by omega), ga_rep _ _ _ hj]; rfl))
          · rintro m2 a2 w10 ⟨k, vs, tb, vro, rfl, he2, S12, hk, hvl, htb⟩
            clear S7
            refine ws_in he2 (c := Linking_n39) rfl ?_
            clear he2 a2
            have htl : tb.length = (strandsL d).length := by rw [htb, tbl_len]
            have htr : ∀ i, i < (strandsL d).length → (ga tb i).length = (strandsL d).length := fun i hi => by rw [htb, tbl_rlen _ hi]
            have hta : ∀ i j, i < (strandsL d).length → j < (strandsL d).length → ga (ga tb i) j = entN d i j k := fun i j hi hj => by rw [htb, tbl_at _ hi hj]
            refine ws_seqN Linking_n40 Linking_n41 rfl rfl rfl ?_
            refine ws_region rfl ?_
            refine wl_op (k := 0) (k' := 1) rfl rfl rfl (wo_run rfl rfl (run_lss rfl rfl rfl) ?_)
            refine wl_end rfl ?_
            refine nm_thn ?_
            refine ws_seqN Linking_n42 Linking_n43 rfl rfl rfl ?_
            refine ws_condN Linking_n44 Linking_n45 rfl rfl rfl rfl (fun hb48 => ?_) (fun hb48 => ?_)
            · have hb48 := of_decide_eq_true hb48
              have hba : 1 ≤ (ga d.crs k).a ∧ (ga d.crs k).a ≤ 2 * (d.crs.length : Int) := arcAt_bd hab (i := k) (by omega) (k := 0) (by omega)
              have hbb : 1 ≤ (ga d.crs k).b ∧ (ga d.crs k).b ≤ 2 * (d.crs.length : Int) := arcAt_bd hab (i := k) (by omega) (k := 1) (by omega)
              obtain ⟨hpa1, hpa2, _⟩ := prt_iff hab hba
              obtain ⟨hpb1, hpb2, _⟩ := prt_iff hab hbb
              replace hpa1 : pA d k < (strandsL d).length := hpa1
              replace hpb1 : pB d k < (strandsL d).length := hpb1
              replace hpa2 : ga (prtL d) (ga d.crs k).a.toNat = (pA d k : Int) := hpa2
              replace hpb2 : ga (prtL d) (ga d.crs k).b.toNat = (pB d k : Int) := hpb2
              have hpl : (prtL d).length = 2 * d.crs.length + 1 := prtN_len d _
              have htra := htr (pA d k) hpa1
              have htrb := htr (pB d k) hpb1
              have htaa := hta _ _ hpa1 hpb1
              have hen := entN_bd d (pA d k) (pB d k) k
              have hsg := sgn_bd (ga d.crs k)
              refine ws_skip rfl ?_
              refine nm_sub [(6, _), (7, _), (45, _), (46, _), (47, _)] ⟨rfl, rfl, rfl, rfl, rfl, trivial⟩ ?_
              refine nm_thn ?_
              refine ws_seqN Linking_n46 Linking_n47 rfl rfl rfl ?_
              refine ws_blockN Linking_n48 3 rfl rfl rfl ?_
              refine ws_seqN Linking_n49 Linking_n50 rfl rfl rfl ?_
              refine ws_region rfl ?_
              refine wl_op (k := 0) (k' := 1) rfl rfl rfl (wo_run rfl rfl (run_indexM (C := cdCr) k rfl rfl rfl sl25 (by first | rfl | omega) hsc17 (by first | omega | (simp only [List.length_set, List.length_append, List.length_replicate, List.length_singleton, List.length_cons, List.length_nil]; omega))) ?_)
              refine wl_op (k := 1) (k' := 2) rfl rfl rfl (wo_run rfl rfl (run_loadN (us := [_, _, _, _, _]) rfl rfl Try.underlying73 rfl sz73 (hsc17.cellsAt S12.m (e := k) (by first | omega | (simp only [List.length_set, List.length_append, List.length_replicate, List.length_singleton, List.length_cons, List.length_nil]; omega)) (j := 0) ⟨rfl, rfl, rfl, rfl, rfl, trivial⟩)) ?_)
              refine wl_op (k := 2) (k' := 3) rfl rfl rfl (wo_alloc (l := [_, _, _, _, _]) rfl rfl rfl zr73 rfl S12 ?_)
              intro gb2 w11 S13; clear S12
              refine wl_op (k := 3) (k' := 4) rfl rfl rfl (wo_storeB (i := 0) (us := [_, _, _, _, _]) (l' := [_, _, _, _, _]) (H' := [_, _, _]) rfl rfl S13 rfl rfl rfl rfl sz73 rfl rfl rfl rfl ?_)
              intro w12 S14; clear S13
              refine wl_end rfl ?_
              refine nm_sub [(6, _), (7, _), (45, _), (46, _), (47, _), (10, _)] ⟨rfl, rfl, rfl, rfl, rfl, rfl, trivial⟩ ?_
              refine nm_thn ?_
              refine ws_seqN Linking_n51 Linking_n52 rfl rfl rfl ?_
              refine ws_draw rfl (by kernel_rfl) S14 12 rfl ?_
              clear S14
              refine wa_takeP (i := 0) (d := 51) 11 rfl (by kernel_rfl) (by kernel_rfl) (by kernel_rfl) rfl rfl rfl (fun w13 => run_move rfl rfl) ?_
              refine wa_takeP (i := 1) (d := 52) 10 rfl (by kernel_rfl) (by kernel_rfl) (by kernel_rfl) rfl rfl rfl (fun w14 => run_fieldAddr rfl rfl Try.underlying73 rfl (ce3) (nf3)) ?_
              refine wa_take (i := 2) (d := 53) 9 rfl (by kernel_rfl) (by kernel_rfl) (by kernel_rfl) rfl rfl rfl (fun M6 N3 w15 hle8 S17 => .inl (run_load1 rfl rfl Try.underlying3 rfl (S17.suf.boxc (i := 0) rfl rfl))) ?_
              refine wa_take (i := 3) (d := 54) 8 rfl (by kernel_rfl) (by kernel_rfl) (by kernel_rfl) rfl rfl rfl (fun M7 N4 w16 hle9 S18 => .inl (run_indexM (C := cdInt) (((ga d.crs k).a).toNat) rfl rfl rfl sl44 (by first | rfl | omega) (hr1.mono hle9) (by first | omega | (simp only [List.length_set, List.length_append, List.length_replicate, List.length_singleton, List.length_cons, List.length_nil]; omega)))) ?_
              refine wa_take (i := 4) (d := 55) 7 rfl (by kernel_rfl) (by kernel_rfl) (by kernel_rfl) rfl rfl rfl (fun M8 N5 w17 hle10 S19 => .inl (run_load1 rfl rfl Try.underlying3 rfl ((hr1.mono hle10).cell S19.m (i := ((ga d.crs k).a).toNat) (by first | omega | (simp only [List.length_set, List.length_append, List.length_replicate, List.length_singleton, List.length_cons, List.length_nil]; omega)) 0 rfl rfl))) ?_
              refine wa_takeP (i := 5) (d := 56) 6 rfl (by kernel_rfl) (by kernel_rfl) (by kernel_rfl) rfl rfl rfl (fun w18 => run_move rfl rfl) ?_
              refine wa_takeP (i := 6) (d := 57) 5 rfl (by kernel_rfl) (by kernel_rfl) (by kernel_rfl) rfl rfl rfl (fun w19 => run_fieldAddr rfl rfl Try.underlying73 rfl (ce3) (nf3)) ?_
              refine wa_take (i := 7) (d := 58) 4 rfl (by kernel_rfl) (by kernel_rfl) (by kernel_rfl) rfl rfl rfl (fun M11 N8 w20 hle13 S22 => .inl (run_load1 rfl rfl Try.underlying3 rfl (S22.suf.boxc (i := 0) rfl rfl))) ?_
              refine wa_take (i := 8) (d := 59) 3 rfl (by kernel_rfl) (by kernel_rfl) (by kernel_rfl) rfl rfl rfl (fun M12 N9 w21 hle14 S23 => .inl (run_indexM (C := cdInt) (((ga d.crs k).b).toNat) rfl rfl rfl sl44 (by first | rfl | omega) (hr1.mono hle14) (by first | omega | (simp only [List.length_set, List.length_append, List.length_replicate, List.length_singleton, List.length_cons, List.length_nil]; omega)))) ?_
              refine wa_take (i := 9) (d := 60) 2 rfl (by kernel_rfl) (by kernel_rfl) (by kernel_rfl) rfl rfl rfl (fun M13 N10 w22 hle15 S24 => .inl (run_load1 rfl rfl Try.underlying3 rfl ((hr1.mono hle15).cell S24.m (i := ((ga d.crs k).b).toNat) (by first | omega | (simp only [List.length_set, List.length_append, List.length_replicate, List.length_singleton, List.length_cons, List.length_nil]; omega)) 0 rfl rfl))) ?_
              refine wa_takeP (i := 10) (d := 11) 1 rfl (by kernel_rfl) (by kernel_rfl) (by kernel_rfl) rfl rfl rfl (fun w23 => run_assign rfl rfl) ?_
              refine wa_takeP (i := 11) (d := 12) 0 rfl (by kernel_rfl) (by kernel_rfl) (by kernel_rfl) rfl rfl rfl (fun w24 => run_assign rfl rfl) ?_
              refine wa_end (by kernel_rfl) (fun w25 S27 => ?_)
              refine nm_sub [(6, _), (7, _), (45, _), (46, _), (47, _), (10, _), (11, _), (12, _)] ⟨rfl, rfl, rfl, rfl, rfl, rfl, rfl, rfl, trivial⟩ ?_
              refine nm_thn ?_
              refine ws_seqN Linking_n53 Linking_n54 rfl rfl rfl ?_
              refine ws_eq 11 (.int .i64 (pA d k : Int)) rfl (int_eq hpa2) ?_
              refine ws_eq 12 (.int .i64 (pB d k : Int)) rfl (int_eq hpb2) ?_
              refine ws_draw rfl (by kernel_rfl) S27 12 rfl ?_
              clear S27
              refine wa_takeP (i := 0) (d := 61) 11 rfl (by kernel_rfl) (by kernel_rfl) (by kernel_rfl) rfl rfl rfl (fun w26 => run_move rfl rfl) ?_
              refine wa_takeP (i := 1) (d := 62) 10 rfl (by kernel_rfl) (by kernel_rfl) (by kernel_rfl) rfl rfl rfl (fun w27 => run_move rfl rfl) ?_
              refine wa_take (i := 2) (d := 63) 9 rfl (by kernel_rfl) (by kernel_rfl) (by kernel_rfl) rfl rfl rfl (fun M18 N15 w28 hle20 S30 => .inl (run_indexR (C := (cdV 44)) (i := 2) (pA d k) rfl rfl rfl sl37 S30.suf rfl (by first | rfl | omega) (by first | omega | (simp only [List.length_set, List.length_append, List.length_replicate, List.length_singleton, List.length_cons, List.length_nil]; omega)))) ?_
              refine wa_take (i := 3) (d := 64) 8 rfl (by kernel_rfl) (by kernel_rfl) (by kernel_rfl) rfl rfl rfl (fun M19 N16 w29 hle21 S31 => .inl (run_load1 rfl rfl Try.underlying44 rfl (S31.suf.rowc (i := 2) (e := pA d k) (j := 0) rfl (by first | omega | (simp only [List.length_set, List.length_append, List.length_replicate, List.length_singleton, List.length_cons, List.length_nil]; omega)) rfl rfl))) ?_
              refine wa_takeP (i := 4) (d := 65) 7 rfl (by kernel_rfl) (by kernel_rfl) (by kernel_rfl) rfl rfl rfl (fun w30 => run_move rfl rfl) ?_
              refine wa_take (i := 5) (d := 66) 6 rfl (by kernel_rfl) (by kernel_rfl) (by kernel_rfl) rfl rfl rfl (fun M21 N18 w31 hle23 S33 => .inl (run_indexT (C := cdInt) (vs := vs) (xss := tb) (i := 1) (pA d k) (pB d k) rfl rfl rfl rfl sl44 S33.suf rfl (by first | omega | (simp only [List.length_set, List.length_append, List.length_replicate, List.length_singleton, List.length_cons, List.length_nil]; omega) | (rw [ga_set _ _ _ _ (by first | omega | (simp only [List.length_set]; omega)), if_pos rfl]; simp only [List.length_set]; omega)) (by first | rfl | omega) (by first | omega | (simp only [List.length_set, List.length_append, List.length_replicate, List.length_singleton, List.length_cons, List.length_nil]; omega) | (rw [ga_set _ _ _ _ (by first | omega | (simp only [List.length_set]; omega)), if_pos rfl]; simp only [List.length_set]; omega)))) ?_
              refine wa_take (i := 6) (d := 67) 5 rfl (by kernel_rfl) (by kernel_rfl) (by kernel_rfl) rfl rfl rfl (fun M22 N19 w32 hle24 S34 => .inl (run_load1 rfl rfl Try.underlying3 rfl (S34.suf.tabc (i := 1) (k := (pA d k)) (e := pB d k) (j := 0) rfl (by first | omega | (simp only [List.length_set, List.length_append, List.length_replicate, List.length_singleton, List.length_cons, List.length_nil]; omega) | (rw [ga_set _ _ _ _ (by first | omega | (simp only [List.length_set]; omega)), if_pos rfl]; simp only [List.length_set]; omega)) (by first | omega | (simp only [List.length_set, List.length_append, List.length_replicate, List.length_singleton, List.length_cons, List.length_nil]; omega) | (rw [ga_set _ _ _ _ (by first | omega | (simp only [List.length_set]; omega)), if_pos rfl]; simp only [List.length_set]; omega)) rfl rfl))) ?_
              refine wa_take (i := 7) (d := 68) 4 rfl (by kernel_rfl) (by kernel_rfl) (by kernel_rfl) rfl rfl rfl (fun M23 N20 w33 hle25 S35 => .inl (run_loadN (us := [_, _, _, _, _]) rfl rfl Try.underlying73 rfl sz73 (S35.suf.boxcs (i := 0) rfl ⟨rfl, rfl, rfl, rfl, rfl, trivial⟩))) ?_
              refine wa_take (i := 8) (d := 69) 3 rfl (by kernel_rfl) (by kernel_rfl) (by kernel_rfl) rfl rfl rfl (fun M24 N21 w34 hle26 S36 => yield_cq rfl rfl rfl rfl rfl cf78 S36 (Sign_q (ga d.crs k)  S36.lend)) ?_
              refine wa_takeP (i := 9) (d := 70) 2 rfl (by kernel_rfl) (by kernel_rfl) (by kernel_rfl) rfl rfl rfl (fun w35 => run_add rfl rfl rfl (by first | omega | (simp only [List.length_set, List.length_append, List.length_replicate, List.length_singleton, List.length_cons, List.length_nil]; omega))) ?_
              refine wa_take (i := 10) (d := 71) 1 rfl (by kernel_rfl) (by kernel_rfl) (by kernel_rfl) rfl rfl rfl (fun M26 N23 w36 hle28 S38 => .inl (run_indexT (C := cdInt) (vs := vs) (xss := tb) (i := 1) (pA d k) (pB d k) rfl rfl rfl rfl sl44 S38.suf rfl (by first | omega | (simp only [List.length_set, List.length_append, List.length_replicate, List.length_singleton, List.length_cons, List.length_nil]; omega) | (rw [ga_set _ _ _ _ (by first | omega | (simp only [List.length_set]; omega)), if_pos rfl]; simp only [List.length_set]; omega)) (by first | rfl | omega) (by first | omega | (simp only [List.length_set, List.length_append, List.length_replicate, List.length_singleton, List.length_cons, List.length_nil]; omega) | (rw [ga_set _ _ _ _ (by first | omega | (simp only [List.length_set]; omega)), if_pos rfl]; simp only [List.length_set]; omega)))) ?_
              refine wa_only (i := 11) 0 rfl (by kernel_rfl) rfl rfl (fun w38 S40 => ?_)
              refine (wo_storeT (C := cdInt) (vs := vs) (xss := tb) (i := 1) (k := (pA d k)) (e := pB d k) (j := 0) (us := [_]) (H' := [_, _, _]) ((ga (ga tb (pA d k)) (pB d k)) + (sgn (ga d.crs k))) rfl rfl S40 rfl (by first | omega | (simp only [List.length_set, List.length_append, List.length_replicate, List.length_singleton, List.length_cons, List.length_nil]; omega) | (rw [ga_set _ _ _ _ (by first | omega | (simp only [List.length_set]; omega)), if_pos rfl]; simp only [List.length_set]; omega)) (by first | omega | (simp only [List.length_set, List.length_append, List.length_replicate, List.length_singleton, List.length_cons, List.length_nil]; omega) | (rw [ga_set _ _ _ _ (by first | omega | (simp only [List.length_set]; omega)), if_pos rfl]; simp only [List.length_set]; omega)) rfl rfl rfl sz3 rfl rfl rfl rfl ?_)
              intro w39 S41; clear S40
              refine LeftW.turn (by kernel_rfl) S41 ?_; clear S41
              change WA _ _ _ _ _ _ _ _ _ _ _ _ [_, _, _]
              refine wa_end (by kernel_rfl) (fun w40 S42 => ?_)
              refine nm_sub [(6, _), (7, _), (45, _), (46, _), (47, _), (10, _), (11, _), (12, _)] ⟨rfl, rfl, rfl, rfl, rfl, rfl, rfl, rfl, trivial⟩ ?_
              refine nm_thn ?_
              refine ws_seqN Linking_n55 Linking_n56 rfl rfl rfl ?_
              have htb2 : tb.set (pA d k) ((ga tb (pA d k)).set (pB d k) ((ga (ga tb (pA d k)) (pB d k)) + (sgn (ga d.crs k)))) = (tbl (strandsL d).length (upT d k)) := by (rw [htaa]; subst htb; exact tbl_set _ _ _ hpa1 hpb1 (fun i j hi hj => (by unfold upT; split; (rename_i e9; rw [e9.1, e9.2]); rfl)))
              rw [htb2] at S42
              have htl2 : (tbl (strandsL d).length (upT d k)).length = (strandsL d).length := tbl_len _ _
              have htrb2 : (ga (tbl (strandsL d).length (upT d k)) (pB d k)).length = (strandsL d).length := tbl_rlen _ hpb1
              have htaa2 : ga (ga (tbl (strandsL d).length (upT d k)) (pB d k)) (pA d k) = upT d k (pB d k) (pA d k) := tbl_at _ hpb1 hpa1
              have hub := upT_bd d k (pB d k) (pA d k)
              refine ws_region rfl ?_
              refine wl_op (k := 0) (k' := 1) rfl rfl rfl (wo_run rfl rfl (run_move rfl rfl) ?_)
              refine wl_op (k := 1) (k' := 2) rfl rfl rfl (wo_run rfl rfl (run_move rfl rfl) ?_)
              refine wl_op (k := 2) (k' := 3) rfl rfl rfl (wo_run rfl rfl (run_neq rfl rfl rfl) ?_)
              refine wl_end rfl ?_
              refine nm_sub [(6, _), (7, _), (45, _), (46, _), (47, _), (10, _), (11, _), (12, _), (74, _)] ⟨rfl, rfl, rfl, rfl, rfl, rfl, rfl, rfl, rfl, trivial⟩ ?_
              refine nm_thn ?_
              refine ws_condN Linking_n57 Linking_n58 rfl rfl rfl rfl (fun hb74 => ?_) (fun hb74 => ?_)
              · have hb74 := of_decide_eq_true hb74
                refine ws_draw rfl (by kernel_rfl) S42 12 rfl ?_
                clear S42
                refine wa_takeP (i := 0) (d := 75) 11 rfl (by kernel_rfl) (by kernel_rfl) (by kernel_rfl) rfl rfl rfl (fun w41 => run_move rfl rfl) ?_
                refine wa_takeP (i := 1) (d := 76) 10 rfl (by kernel_rfl) (by kernel_rfl) (by kernel_rfl) rfl rfl rfl (fun w42 => run_move rfl rfl) ?_
                refine wa_take (i := 2) (d := 77) 9 rfl (by kernel_rfl) (by kernel_rfl) (by kernel_rfl) rfl rfl rfl (fun M30 N27 w43 hle32 S45 => .inl (run_indexR (C := (cdV 44)) (i := 2) (pB d k) rfl rfl rfl sl37 S45.suf rfl (by first | rfl | omega) (by first | omega | (simp only [List.length_set, List.length_append, List.length_replicate, List.length_singleton, List.length_cons, List.length_nil]; omega)))) ?_
                refine wa_take (i := 3) (d := 78) 8 rfl (by kernel_rfl) (by kernel_rfl) (by kernel_rfl) rfl rfl rfl (fun M31 N28 w44 hle33 S46 => .inl (run_load1 rfl rfl Try.underlying44 rfl (S46.suf.rowc (i := 2) (e := pB d k) (j := 0) rfl (by first | omega | (simp only [List.length_set, List.length_append, List.length_replicate, List.length_singleton, List.length_cons, List.length_nil]; omega)) rfl rfl))) ?_
                refine wa_takeP (i := 4) (d := 79) 7 rfl (by kernel_rfl) (by kernel_rfl) (by kernel_rfl) rfl rfl rfl (fun w45 => run_move rfl rfl) ?_
                refine wa_take (i := 5) (d := 80) 6 rfl (by kernel_rfl) (by kernel_rfl) (by kernel_rfl) rfl rfl rfl (fun M33 N30 w46 hle35 S48 => .inl (run_indexT (C := cdInt) (vs := vs) (xss := (tbl (strandsL d).length (upT d k))) (i := 1) (pB d k) (pA d k) rfl rfl rfl rfl sl44 S48.suf rfl (by first | omega | (simp only [List.length_set, List.length_append, List.length_replicate, List.length_singleton, List.length_cons, List.length_nil]; omega) | (rw [ga_set _ _ _ _ (by first | omega | (simp only [List.length_set]; omega)), if_pos rfl]; simp only [List.length_set]; omega)) (by first | rfl | omega) (by first | omega | (simp only [List.length_set, List.length_append, List.length_replicate, List.length_singleton, List.length_cons, List.length_nil]; omega) | (rw [ga_set _ _ _ _ (by first | omega | (simp only [List.length_set]; omega)), if_pos rfl]; simp only [List.length_set]; omega)))) ?_
                refine wa_take (i := 6) (d := 81) 5 rfl (by kernel_rfl) (by kernel_rfl) (by kernel_rfl) rfl rfl rfl (fun M34 N31 w47 hle36 S49 => .inl (run_load1 rfl rfl Try.underlying3 rfl (S49.suf.tabc (i := 1) (k := (pB d k)) (e := pA d k) (j := 0) rfl (by first | omega | (simp only [List.length_set, List.length_append, List.length_replicate, List.length_singleton, List.length_cons, List.length_nil]; omega) | (rw [ga_set _ _ _ _ (by first | omega | (simp only [List.length_set]; omega)), if_pos rfl]; simp only [List.length_set]; omega)) (by first | omega | (simp only [List.length_set, List.length_append, List.length_replicate, List.length_singleton, List.length_cons, List.length_nil]; omega) | (rw [ga_set _ _ _ _ (by first | omega | (simp only [List.length_set]; omega)), if_pos rfl]; simp only [List.length_set]; omega)) rfl rfl))) ?_
                refine wa_take (i := 7) (d := 82) 4 rfl (by kernel_rfl) (by kernel_rfl) (by kernel_rfl) rfl rfl rfl (fun M35 N32 w48 hle37 S50 => .inl (run_loadN (us := [_, _, _, _, _]) rfl rfl Try.underlying73 rfl sz73 (S50.suf.boxcs (i := 0) rfl ⟨rfl, rfl, rfl, rfl, rfl, trivial⟩))) ?_
                refine wa_take (i := 8) (d := 83) 3 rfl (by kernel_rfl) (by kernel_rfl) (by kernel_rfl) rfl rfl rfl (fun M36 N33 w49 hle38 S51 => yield_cq rfl rfl rfl rfl rfl cf78 S51 (Sign_q (ga d.crs k)  S51.lend)) ?_
                refine wa_takeP (i := 9) (d := 84) 2 rfl (by kernel_rfl) (by kernel_rfl) (by kernel_rfl) rfl rfl rfl (fun w50 => run_add rfl rfl rfl (by first | omega | (simp only [List.length_set, List.length_append, List.length_replicate, List.length_singleton, List.length_cons, List.length_nil]; omega))) ?_
                refine wa_take (i := 10) (d := 85) 1 rfl (by kernel_rfl) (by kernel_rfl) (by kernel_rfl) rfl rfl rfl (fun M38 N35 w51 hle40 S53 => .inl (run_indexT (C := cdInt) (vs := vs) (xss := (tbl (strandsL d).length (upT d k))) (i := 1) (pB d k) (pA d k) rfl rfl rfl rfl sl44 S53.suf rfl (by first | omega | (simp only [List.length_set, List.length_append, List.length_replicate, List.length_singleton, List.length_cons, List.length_nil]; omega) | (rw [ga_set _ _ _ _ (by first | omega | (simp only [List.length_set]; omega)), if_pos rfl]; simp only [List.length_set]; omega)) (by first | rfl | omega) (by first | omega | (simp only [List.length_set, List.length_append, List.length_replicate, List.length_singleton, List.length_cons, List.length_nil]; omega) | (rw [ga_set _ _ _ _ (by first | omega | (simp only [List.length_set]; omega)), if_pos rfl]; simp only [List.length_set]; omega)))) ?_
                refine wa_only (i := 11) 0 rfl (by kernel_rfl) rfl rfl (fun w53 S55 => ?_)
                refine (wo_storeT (C := cdInt) (vs := vs) (xss := (tbl (strandsL d).length (upT d k))) (i := 1) (k := (pB d k)) (e := pA d k) (j := 0) (us := [_]) (H' := [_, _, _]) ((ga (ga (tbl (strandsL d).length (upT d k)) (pB d k)) (pA d k)) + (sgn (ga d.crs k))) rfl rfl S55 rfl (by first | omega | (simp only [List.length_set, List.length_append, List.length_replicate, List.length_singleton, List.length_cons, List.length_nil]; omega) | (rw [ga_set _ _ _ _ (by first | omega | (simp only [List.length_set]; omega)), if_pos rfl]; simp only [List.length_set]; omega)) (by first | omega | (simp only [List.length_set, List.length_append, List.length_replicate, List.length_singleton, List.length_cons, List.length_nil]; omega) | (rw [ga_set _ _ _ _ (by first | omega | (simp only [List.length_set]; omega)), if_pos rfl]; simp only [List.length_set]; omega)) rfl rfl rfl sz3 rfl rfl rfl rfl ?_)
                intro w54 S56; clear S55
                refine LeftW.turn (by kernel_rfl) S56 ?_; clear S56
                change WA _ _ _ _ _ _ _ _ _ _ _ _ [_, _, _]
                refine wa_end (by kernel_rfl) (fun w55 S57 => ?_)
                refine nm_blk ?_
                refine nm_sub [(6, _), (7, _), (45, _), (46, _), (47, _)] ⟨rfl, rfl, rfl, rfl, rfl, trivial⟩ ?_
                refine nm_thn ?_
                have hnew0 : (tbl (strandsL d).length (upT d k)).set (pB d k) ((ga (tbl (strandsL d).length (upT d k)) (pB d k)).set (pA d k) ((ga (ga (tbl (strandsL d).length (upT d k)) (pB d k)) (pA d k)) + (sgn (ga d.crs k)))) = (tbl (strandsL d).length (fun i j => entN d i j (k + 1))) := by (rw [htaa2]; exact tbl_set _ _ _ hpb1 hpa1 (fun i j hi hj => (by rw [upT_two (by omega) i j]; split; (rename_i e9; rw [e9.1, e9.2]); rfl)))
                rw [hnew0] at S57
                have hnew := Eq.refl (tbl (strandsL d).length (fun i j => entN d i j (k + 1)))
                refine ws_region rfl ?_
                refine wl_op (k := 0) (k' := 1) rfl rfl rfl (wo_run rfl rfl (run_add rfl rfl rfl (by first | omega | (simp only [List.length_set, List.length_append, List.length_replicate, List.length_singleton, List.length_cons, List.length_nil]; omega))) ?_)
                refine wl_op (k := 1) (k' := 2) rfl rfl rfl (wo_run rfl rfl (run_move rfl rfl) ?_)
                refine wl_end rfl ?_
                refine nm_lp ?_
                intro ax_ hax_
                refine ⟨_, ?hq4m, ⟨k + 1, _, _, _, rfl, hax_.sub ⟨rfl, rfl, rfl, rfl, rfl, trivial⟩, S57.pick [1, 2] [_, _] (by decide) ⟨rfl, rfl, trivial⟩, ?hq4f0, ?hq4f1, ?hq4f2⟩⟩
                case hq4f0 => omega
                case hq4f1 => assumption
                case hq4f2 => first | exact hnew | exact (tbl_congr fun i j _ _ => (upT_same (by omega) i j).symm)
                case hq4m => omega
              · have hb74 := of_decide_eq_false hb74
                refine ws_skip rfl ?_
                refine nm_blk ?_
                refine nm_sub [(6, _), (7, _), (45, _), (46, _), (47, _)] ⟨rfl, rfl, rfl, rfl, rfl, trivial⟩ ?_
                refine nm_thn ?_
                refine ws_region rfl ?_
                refine wl_op (k := 0) (k' := 1) rfl rfl rfl (wo_run rfl rfl (run_add rfl rfl rfl (by first | omega | (simp only [List.length_set, List.length_append, List.length_replicate, List.length_singleton, List.length_cons, List.length_nil]; omega))) ?_)
                refine wl_op (k := 1) (k' := 2) rfl rfl rfl (wo_run rfl rfl (run_move rfl rfl) ?_)
                refine wl_end rfl ?_
                refine nm_lp ?_
                intro ax_ hax_
                refine ⟨_, ?hq5m, ⟨k + 1, _, _, _, rfl, hax_.sub ⟨rfl, rfl, rfl, rfl, rfl, trivial⟩, S42.pick [1, 2] [_, _] (by decide) ⟨rfl, rfl, trivial⟩, ?hq5f0, ?hq5f1, ?hq5f2⟩⟩
                case hq5f0 => omega
                case hq5f1 => assumption
                case hq5f2 => first | exact hnew | exact (tbl_congr fun i j _ _ => (upT_same (by omega) i j).symm)
                case hq5m => omega
            · have hb48 := of_decide_eq_false hb48
              refine ws_exit rfl rfl ?_
              refine nm_sub [(7, _)] ⟨rfl, trivial⟩ ?_
              refine nm_thn ?_
              refine ws_seqN Linking_n59 Linking_n60 rfl rfl rfl ?_
              refine ws_seqN Linking_n61 Linking_n62 rfl rfl rfl ?_
              refine ws_region rfl ?_
              refine wl_op (k := 0) (k' := 1) rfl rfl rfl (wo_run rfl rfl (run_move rfl rfl) ?_)
              refine wl_op (k := 1) (k' := 2) rfl rfl rfl (wo_run rfl rfl (run_lenR (C := (cdV 44)) (i := 1) rfl rfl rfl rfl rfl rfl sl37 S12 rfl) ?_)
              refine wl_eq 88 (.int .i64 ((strandsL d).length : Int)) rfl (int_eq (by rw [hvl])) ?_
              refine wl_op (k := 2) (k' := 3) rfl rfl rfl (wo_run rfl rfl (run_move rfl rfl) ?_)
              refine wl_end rfl ?_
              refine nm_sub [(7, _), (88, _), (89, _)] ⟨rfl, rfl, rfl, trivial⟩ ?_
              refine nm_thn ?_
              refine ws_blockN Linking_n63 4 rfl rfl rfl ?_
              refine ws_loopE (fun mx_ ax_ wx_ => ∃ (i : Nat) (vs : List SlV) (tb : List (List Int)) (vro : Value), mx_ = (strandsL d).length - i ∧ Env 112 [(7, vro), (88, .int .i64 ((strandsL d).length : Int)), (89, .int .i64 (i : Int))] ax_ ∧ SH wx_ M3 X [Rs.tab cdInt vs tb, Rs.row (cdV 44) vro vs] ∧ i ≤ (strandsL d).length ∧ vs.length = (strandsL d).length ∧ tb = tbl (strandsL d).length (fun a b => if a < i then finE d a b else entN d a b d.crs.length)) rfl ?_ ?_
              · intro ax_ hax_
                refine ⟨_, ⟨0, _, _, _, rfl, hax_.sub ⟨rfl, rfl, rfl, trivial⟩, S12.pick [0, 1] [_, _] (by decide) ⟨rfl, rfl, trivial⟩, ?hq6f0, ?hq6f1, ?hq6f2⟩⟩
                case hq6f0 => omega
                case hq6f1 => exact hvl
                case hq6f2 => (obtain rfl : k = d.crs.length := (by omega); rw [htb]; exact tbl_congr fun a b _ _ => (by rw [if_neg (by omega)]))
              · rintro m3 a3 w56 ⟨i, vs, tb, vro, rfl, he3, S58, hi, hvl, htb⟩
                clear S12
                refine ws_in he3 (c := Linking_n64) rfl ?_
                clear he3 a3
                refine ws_seqN Linking_n65 Linking_n66 rfl rfl rfl ?_
                refine ws_region rfl ?_
                refine wl_op (k := 0) (k' := 1) rfl rfl rfl (wo_run rfl rfl (run_lss rfl rfl rfl) ?_)
                refine wl_end rfl ?_
                refine nm_thn ?_
                refine ws_seqN Linking_n67 Linking_n68 rfl rfl rfl ?_
                refine ws_condN Linking_n69 Linking_n70 rfl rfl rfl rfl (fun hb90 => ?_) (fun hb90 => ?_)
                · have hb90 := of_decide_eq_true hb90
                  refine ws_skip rfl ?_
                  refine nm_sub [(7, _), (88, _), (89, _)] ⟨rfl, rfl, rfl, trivial⟩ ?_
                  refine nm_thn ?_
                  refine ws_seqN Linking_n71 Linking_n72 rfl rfl rfl ?_
                  refine ws_blockN Linking_n73 5 rfl rfl rfl ?_
                  refine ws_seqN Linking_n74 Linking_n75 rfl rfl rfl ?_
                  refine ws_region rfl ?_
                  refine wl_op (k := 0) (k' := 1) rfl rfl rfl (wo_run rfl rfl (run_move rfl rfl) ?_)
                  refine wl_op (k := 1) (k' := 2) rfl rfl rfl (wo_run rfl rfl (run_assign rfl rfl) ?_)
                  refine wl_end rfl ?_
                  refine nm_sub [(7, _), (88, _), (89, _), (13, _)] ⟨rfl, rfl, rfl, rfl, trivial⟩ ?_
                  refine nm_thn ?_
                  refine ws_seqN Linking_n76 Linking_n77 rfl rfl rfl ?_
                  refine ws_region rfl ?_
                  refine wl_op (k := 0) (k' := 1) rfl rfl rfl (wo_run rfl rfl (run_move rfl rfl) ?_)
                  refine wl_op (k := 1) (k' := 2) rfl rfl rfl (wo_run rfl rfl (run_lenR (C := (cdV 44)) (i := 1) rfl rfl rfl rfl rfl rfl sl37 S58 rfl) ?_)
                  refine wl_op (k := 2) (k' := 3) rfl rfl rfl (wo_run rfl rfl (run_move rfl rfl) ?_)
                  refine wl_end rfl ?_
                  refine nm_sub [(7, _), (88, _), (89, _), (13, _), (93, _), (94, _)] ⟨rfl, rfl, rfl, rfl, rfl, rfl, trivial⟩ ?_
                  refine nm_thn ?_
                  refine ws_blockN Linking_n78 6 rfl rfl rfl ?_
                  refine ws_loopE (fun mx_ ax_ wx_ => ∃ (j : Nat) (vs3 : List SlV) (tb3 : List (List Int)) (vro3 : Value), mx_ = (strandsL d).length - j ∧ Env 112 [(7, vro3), (88, .int .i64 ((strandsL d).length : Int)), (89, .int .i64 (i : Int)), (13, .int .i64 (i : Int)), (93, .int .i64 (vs.length : Int)), (94, .int .i64 (j : Int))] ax_ ∧ SH wx_ M3 X [Rs.tab cdInt vs3 tb3, Rs.row (cdV 44) vro3 vs3] ∧ j ≤ (strandsL d).length ∧ vs3.length = (strandsL d).length ∧ (tb3 = tbl (strandsL d).length (fun a b => if a < i ∨ (a = i ∧ b < j) then finE d a b else entN d a b d.crs.length))) rfl ?_ ?_
                  · intro ax_ hax_
                    refine ⟨_, ⟨0, vs, tb, _, rfl, hax_.sub ⟨rfl, rfl, rfl, rfl, rfl, rfl, trivial⟩, S58.pick [0, 1] [_, _] (by decide) ⟨rfl, rfl, trivial⟩, ?hq7f0, ?hq7f1, ?hq7f2⟩⟩
                    case hq7f0 => omega
                    case hq7f1 => exact hvl
                    case hq7f2 => (rw [htb]; exact tbl_congr fun a b _ _ => (by by_cases h9 : a < i; (rw [if_pos h9, if_pos (by omega)]); (rw [if_neg h9, if_neg (by omega)])))
                  · rintro m4 a4 w57 ⟨j, vs3, tb3, vro3, rfl, he4, S59, hj, hvl3, htb3⟩
                    clear S58
                    refine ws_in he4 (c := Linking_n79) rfl ?_
                    clear he4 a4
                    have htl3 : tb3.length = (strandsL d).length := by rw [htb3, tbl_len]
                    have htr3 : ∀ i, i < (strandsL d).length → (ga tb3 i).length = (strandsL d).length := fun i hi => by rw [htb3, tbl_rlen _ hi]
                    have htr3i := htr3 i
                    refine ws_seqN Linking_n80 Linking_n81 rfl rfl rfl ?_
                    refine ws_region rfl ?_
                    refine wl_op (k := 0) (k' := 1) rfl rfl rfl (wo_run rfl rfl (run_lss rfl rfl rfl) ?_)
                    refine wl_end rfl ?_
                    refine nm_thn ?_
                    refine ws_seqN Linking_n82 Linking_n83 rfl rfl rfl ?_
                    refine ws_condN Linking_n84 Linking_n85 rfl rfl rfl rfl (fun hb95 => ?_) (fun hb95 => ?_)
                    · have hb95 := of_decide_eq_true hb95
                      refine ws_skip rfl ?_
                      refine nm_sub [(7, _), (88, _), (89, _), (13, _), (93, _), (94, _)] ⟨rfl, rfl, rfl, rfl, rfl, rfl, trivial⟩ ?_
                      refine nm_thn ?_
                      refine ws_seqN Linking_n86 Linking_n87 rfl rfl rfl ?_
                      refine ws_blockN Linking_n88 7 rfl rfl rfl ?_
                      refine ws_seqN Linking_n89 Linking_n90 rfl rfl rfl ?_
                      refine ws_region rfl ?_
                      refine wl_op (k := 0) (k' := 1) rfl rfl rfl (wo_run rfl rfl (run_move rfl rfl) ?_)
                      refine wl_op (k := 1) (k' := 2) rfl rfl rfl (wo_run rfl rfl (run_assign rfl rfl) ?_)
                      refine wl_end rfl ?_
                      refine nm_sub [(7, _), (88, _), (89, _), (13, _), (93, _), (94, _), (14, _)] ⟨rfl, rfl, rfl, rfl, rfl, rfl, rfl, trivial⟩ ?_
                      refine nm_thn ?_
                      refine ws_seqN Linking_n91 Linking_n92 rfl rfl rfl ?_
                      refine ws_region rfl ?_
                      refine wl_op (k := 0) (k' := 1) rfl rfl rfl (wo_run rfl rfl (run_move rfl rfl) ?_)
                      refine wl_op (k := 1) (k' := 2) rfl rfl rfl (wo_run rfl rfl (run_move rfl rfl) ?_)
                      refine wl_op (k := 2) (k' := 3) rfl rfl rfl (wo_run rfl rfl (run_neq rfl rfl rfl) ?_)
                      refine wl_end rfl ?_
                      refine nm_sub [(7, _), (88, _), (89, _), (13, _), (93, _), (94, _), (14, _), (99, _)] ⟨rfl, rfl, rfl, rfl, rfl, rfl, rfl, rfl, trivial⟩ ?_
                      refine nm_thn ?_
                      refine ws_condN Linking_n93 Linking_n94 rfl rfl rfl rfl (fun hb99 => ?_) (fun hb99 => ?_)
                      · have hb99 := of_decide_eq_true hb99
                        have hij : ga (ga tb3 i) j = entN d i j d.crs.length := by rw [htb3, tbl_at _ (by omega) (by omega), if_neg (by omega)]
                        have hen := entN_bd d i j d.crs.length
                        refine ws_region rfl ?_
                        refine wl_op (k := 0) (k' := 1) rfl rfl rfl (wo_run rfl rfl (run_move rfl rfl) ?_)
                        refine wl_op (k := 1) (k' := 2) rfl rfl rfl (wo_run rfl rfl (run_move rfl rfl) ?_)
                        refine wl_op (k := 2) (k' := 3) rfl rfl rfl (wo_run rfl rfl (run_indexR (C := (cdV 44)) (i := 1) i rfl rfl rfl sl37 S59 rfl (by first | rfl | omega) (by first | omega | (simp only [List.length_set, List.length_append, List.length_replicate, List.length_singleton, List.length_cons, List.length_nil]; omega))) ?_)
                        refine wl_op (k := 3) (k' := 4) rfl rfl rfl (wo_run rfl rfl (run_load1 rfl rfl Try.underlying44 rfl (S59.rowc (i := 1) (e := i) (j := 0) rfl (by first | omega | (simp only [List.length_set, List.length_append, List.length_replicate, List.length_singleton, List.length_cons, List.length_nil]; omega)) rfl rfl)) ?_)
                        refine wl_op (k := 4) (k' := 5) rfl rfl rfl (wo_run rfl rfl (run_move rfl rfl) ?_)
                        refine wl_op (k := 5) (k' := 6) rfl rfl rfl (wo_run rfl rfl (run_indexT (C := cdInt) (vs := vs3) (xss := tb3) (i := 0) i j rfl rfl rfl rfl sl44 S59 rfl (by first | omega | (simp only [List.length_set, List.length_append, List.length_replicate, List.length_singleton, List.length_cons, List.length_nil]; omega) | (rw [ga_set _ _ _ _ (by first | omega | (simp only [List.length_set]; omega)), if_pos rfl]; simp only [List.length_set]; omega)) (by first | rfl | omega) (by first | omega | (simp only [List.length_set, List.length_append, List.length_replicate, List.length_singleton, List.length_cons, List.length_nil]; omega) | (rw [ga_set _ _ _ _ (by first | omega | (simp only [List.length_set]; omega)), if_pos rfl]; simp only [List.length_set]; omega))) ?_)
                        refine wl_op (k := 6) (k' := 7) rfl rfl rfl (wo_run rfl rfl (run_load1 rfl rfl Try.underlying3 rfl (S59.tabc (i := 0) (k := i) (e := j) (j := 0) rfl (by first | omega | (simp only [List.length_set, List.length_append, List.length_replicate, List.length_singleton, List.length_cons, List.length_nil]; omega) | (rw [ga_set _ _ _ _ (by first | omega | (simp only [List.length_set]; omega)), if_pos rfl]; simp only [List.length_set]; omega)) (by first | omega | (simp only [List.length_set, List.length_append, List.length_replicate, List.length_singleton, List.length_cons, List.length_nil]; omega) | (rw [ga_set _ _ _ _ (by first | omega | (simp only [List.length_set]; omega)), if_pos rfl]; simp only [List.length_set]; omega)) rfl rfl)) ?_)
                        refine wl_op (k := 7) (k' := 8) rfl rfl rfl (wo_run rfl rfl (run_tquo rfl rfl rfl (by decide) (tdiv2_bd _ (by omega))) ?_)
                        refine wl_op (k := 8) (k' := 9) rfl rfl rfl (wo_run rfl rfl (run_indexT (C := cdInt) (vs := vs3) (xss := tb3) (i := 0) i j rfl rfl rfl rfl sl44 S59 rfl (by first | omega | (simp only [List.length_set, List.length_append, List.length_replicate, List.length_singleton, List.length_cons, List.length_nil]; omega) | (rw [ga_set _ _ _ _ (by first | omega | (simp only [List.length_set]; omega)), if_pos rfl]; simp only [List.length_set]; omega)) (by first | rfl | omega) (by first | omega | (simp only [List.length_set, List.length_append, List.length_replicate, List.length_singleton, List.length_cons, List.length_nil]; omega) | (rw [ga_set _ _ _ _ (by first | omega | (simp only [List.length_set]; omega)), if_pos rfl]; simp only [List.length_set]; omega))) ?_)
                        refine wl_op (k := 9) (k' := 10) rfl rfl rfl (wo_storeT (C := cdInt) (vs := vs3) (xss := tb3) (i := 0) (k := i) (e := j) (j := 0) (us := [_]) (H' := [_, _]) (Int.tdiv ((ga (ga tb3 i) j)) (2)) rfl rfl S59 rfl (by first | omega | (simp only [List.length_set, List.length_append, List.length_replicate, List.length_singleton, List.length_cons, List.length_nil]; omega) | (rw [ga_set _ _ _ _ (by first | omega | (simp only [List.length_set]; omega)), if_pos rfl]; simp only [List.length_set]; omega)) (by first | omega | (simp only [List.length_set, List.length_append, List.length_replicate, List.length_singleton, List.length_cons, List.length_nil]; omega) | (rw [ga_set _ _ _ _ (by first | omega | (simp only [List.length_set]; omega)), if_pos rfl]; simp only [List.length_set]; omega)) rfl rfl rfl sz3 rfl rfl rfl rfl ?_)
                        intro w58 S60; clear S59
                        refine wl_end rfl ?_
                        refine nm_blk ?_
                        refine nm_sub [(7, _), (88, _), (89, _), (13, _), (93, _), (94, _)] ⟨rfl, rfl, rfl, rfl, rfl, rfl, trivial⟩ ?_
                        refine nm_thn ?_
                        have hnew0 : tb3.set i ((ga tb3 i).set j (Int.tdiv ((ga (ga tb3 i) j)) (2))) = (tbl (strandsL d).length (fun a b => if a < i ∨ (a = i ∧ b < j + 1) then finE d a b else entN d a b d.crs.length)) := by (rw [hij]; subst htb3; exact tbl_set _ _ _ (by omega) (by omega) (fun a b ha hb => (by by_cases h9 : a = i ∧ b = j; (rw [if_pos h9, if_pos (by omega)]; unfold finE; rw [if_neg (by omega), h9.1, h9.2]); rw [if_neg h9]; by_cases h8 : a < i ∨ (a = i ∧ b < j); (rw [if_pos h8, if_pos (by omega)]); (rw [if_neg h8, if_neg (by omega)]))))
                        rw [hnew0] at S60
                        have hnew := Eq.refl (tbl (strandsL d).length (fun a b => if a < i ∨ (a = i ∧ b < j + 1) then finE d a b else entN d a b d.crs.length))
                        refine ws_region rfl ?_
                        refine wl_op (k := 0) (k' := 1) rfl rfl rfl (wo_run rfl rfl (run_add rfl rfl rfl (by first | omega | (simp only [List.length_set, List.length_append, List.length_replicate, List.length_singleton, List.length_cons, List.length_nil]; omega))) ?_)
                        refine wl_op (k := 1) (k' := 2) rfl rfl rfl (wo_run rfl rfl (run_move rfl rfl) ?_)
                        refine wl_end rfl ?_
                        refine nm_lp ?_
                        intro ax_ hax_
                        refine ⟨_, ?hq8m, ⟨j + 1, _, _, _, rfl, hax_.sub ⟨rfl, rfl, rfl, rfl, rfl, rfl, trivial⟩, S60.pick [0, 1] [_, _] (by decide) ⟨rfl, rfl, trivial⟩, ?hq8f0, ?hq8f1, ?hq8f2⟩⟩
                        case hq8f0 => omega
                        case hq8f1 => assumption
                        case hq8f2 => first | exact hnew | (rw [htb3]; exact tbl_congr fun a b ha hb => (by by_cases h9 : a < i ∨ (a = i ∧ b < j); (rw [if_pos h9, if_pos (by omega)]); rw [if_neg h9]; by_cases h8 : a < i ∨ (a = i ∧ b < j + 1); (rw [if_pos h8]; unfold finE; rw [if_pos (by omega)]); rw [if_neg h8]))
                        case hq8m => omega
                      · have hb99 := of_decide_eq_false hb99
                        refine ws_skip rfl ?_
                        refine nm_blk ?_
                        refine nm_sub [(7, _), (88, _), (89, _), (13, _), (93, _), (94, _)] ⟨rfl, rfl, rfl, rfl, rfl, rfl, trivial⟩ ?_
                        refine nm_thn ?_
                        refine ws_region rfl ?_
                        refine wl_op (k := 0) (k' := 1) rfl rfl rfl (wo_run rfl rfl (run_add rfl rfl rfl (by first | omega | (simp only [List.length_set, List.length_append, List.length_replicate, List.length_singleton, List.length_cons, List.length_nil]; omega))) ?_)
                        refine wl_op (k := 1) (k' := 2) rfl rfl rfl (wo_run rfl rfl (run_move rfl rfl) ?_)
                        refine wl_end rfl ?_
                        refine nm_lp ?_
                        intro ax_ hax_
                        refine ⟨_, ?hq9m, ⟨j + 1, _, _, _, rfl, hax_.sub ⟨rfl, rfl, rfl, rfl, rfl, rfl, trivial⟩, S59.pick [0, 1] [_, _] (by decide) ⟨rfl, rfl, trivial⟩, ?hq9f0, ?hq9f1, ?hq9f2⟩⟩
                        case hq9f0 => omega
                        case hq9f1 => assumption
                        case hq9f2 => first | exact hnew | (rw [htb3]; exact tbl_congr fun a b ha hb => (by by_cases h9 : a < i ∨ (a = i ∧ b < j); (rw [if_pos h9, if_pos (by omega)]); rw [if_neg h9]; by_cases h8 : a < i ∨ (a = i ∧ b < j + 1); (rw [if_pos h8]; unfold finE; rw [if_pos (by omega)]); rw [if_neg h8]))
                        case hq9m => omega
                    · have hb95 := of_decide_eq_false hb95
                      refine ws_exit rfl rfl ?_
                      refine nm_blk ?_
                      refine nm_sub [(7, _), (88, _), (89, _)] ⟨rfl, rfl, rfl, trivial⟩ ?_
                      refine nm_thn ?_
                      refine ws_region rfl ?_
                      refine wl_op (k := 0) (k' := 1) rfl rfl rfl (wo_run rfl rfl (run_add rfl rfl rfl (by first | omega | (simp only [List.length_set, List.length_append, List.length_replicate, List.length_singleton, List.length_cons, List.length_nil]; omega))) ?_)
                      refine wl_op (k := 1) (k' := 2) rfl rfl rfl (wo_run rfl rfl (run_move rfl rfl) ?_)
                      refine wl_end rfl ?_
                      refine nm_lp ?_
                      intro ax_ hax_
                      refine ⟨_, ?hq10m, ⟨i + 1, vs3, tb3, _, rfl, hax_.sub ⟨rfl, rfl, rfl, trivial⟩, S59.pick [0, 1] [_, _] (by decide) ⟨rfl, rfl, trivial⟩, ?hq10f0, ?hq10f1, ?hq10f2⟩⟩
                      case hq10f0 => omega
                      case hq10f1 => assumption
                      case hq10f2 => (rw [htb3]; exact tbl_congr fun a b ha hb => (by by_cases h9 : a < i + 1; (rw [if_pos h9, if_pos (by omega)]); (rw [if_neg h9, if_neg (by omega)])))
                      case hq10m => omega
                · have hb90 := of_decide_eq_false hb90
                  refine ws_exit rfl rfl ?_
                  refine nm_sub [(7, _)] ⟨rfl, trivial⟩ ?_
                  refine nm_thn ?_
                  refine ws_seqN Linking_n95 Linking_n96 rfl rfl rfl ?_
                  refine ws_region rfl ?_
                  refine wl_op (k := 0) (k' := 1) rfl rfl rfl (wo_run rfl rfl (run_move rfl rfl) ?_)
                  refine wl_op (k := 1) (k' := 2) rfl rfl rfl (wo_run rfl rfl (run_assign rfl rfl) ?_)
                  refine wl_op (k := 2) (k' := 3) rfl rfl rfl (wo_run rfl rfl (run_assign rfl rfl) ?_)
                  refine wl_end rfl ?_
                  refine nm_sub [(2, _), (3, _)] ⟨rfl, rfl, trivial⟩ ?_
                  refine nm_thn ?_
                  obtain rfl : i = (strandsL d).length := by omega
                  have hfin : tb = lnkL d := by (rw [htb]; exact tbl_congr fun a b ha hb => (by rw [if_pos ha]))
                  have hroom : ∀ i, i < tb.length → (ga tb i).length * cdInt.u8 ≤ 140737488355328 := by (intro i hi; rw [htb] at hi ⊢; rw [tbl_len] at hi; rw [tbl_rlen _ hi]; show _ * 8 ≤ _; omega)
                  obtain ⟨M40, hle44, S61, hd2⟩ := S58.pubtab (i := 0) (H' := [_, _]) rfl rfl (by assumption)
                  clear S58
                  replace hdcrs := hdcrs.mono (Hp.un_mono hle44 S61.mx)
                  replace hsb17 := hsb17.mono hle44
                  replace hsc17 := hsc17.mono hle44
                  replace hsi17 := hsi17.mono hle44
                  replace hso17 := hso17.mono hle44
                  replace hr1 := hr1.mono hle44
                  replace hr2 := hr2.mono hle44
                  replace hd1 := hd1.mono hle44
                  obtain ⟨M41, hle45, S62, ⟨A4, c4, e1, hr3⟩⟩ := S61.pubrow (i := 1) (H' := [_, _]) rfl rfl (by show _ * 24 ≤ _; first | omega | (simp only [List.length_set, List.length_append, List.length_replicate, List.length_singleton, List.length_cons, List.length_nil]; omega))
                  clear S61; subst e1
                  replace hdcrs := hdcrs.mono (Hp.un_mono hle45 S62.mx)
                  replace hsb17 := hsb17.mono hle45
                  replace hsc17 := hsc17.mono hle45
                  replace hsi17 := hsi17.mono hle45
                  replace hso17 := hso17.mono hle45
                  replace hr1 := hr1.mono hle45
                  replace hr2 := hr2.mono hle45
                  replace hd1 := hd1.mono hle45
                  replace hd2 := hd2.mono hle45
                  refine ws_ret hC [_, _] rfl rfl ⟨rfl, rfl, trivial⟩ ?_
                  refine ⟨_, rfl, _, (((hle1.trans hle2).trans hle3).trans hle44).trans hle45, (S62.pick [] [] (by decide) trivial), ?_⟩
                  have e1 : lnkR d = tb := by unfold lnkR; rw [if_pos hopn17, hfin]
                  rw [e1, hopn17]
                  exact ⟨_, _, _, rfl, hr3, hd2⟩


theorem con_prt {d : Dg} (h : arcsB d = true) {x : Int} (hx : 1 ≤ x ∧ x ≤ 2 * (d.crs.length : Int)) {i : Nat} (hi : i < (strandsL d).length) : (ga (strandsL d) i).contains x = decide (prt d x = i) := by
  rw [Bool.eq_iff_iff, List.contains_iff_mem, decide_eq_true_iff]
  exact (prt_iff h hx).2.2 i hi
theorem within_p {w : World} {M : Hp} {X : Fr} (d : Dg) (i : Nat) (x : Int) {lA : Option Addr} {lc : Nat} (hl : RdA cdInt (M.un X.h) lA lc (ga (strandsL d) i)) (hab : arcsB d = true) (hx : 1 ≤ x ∧ x ≤ 2 * (d.crs.length : Int)) (hi : i < (strandsL d).length) (S : SH w M X []) : Cq Try.prog 65 [.slice lA (ga (strandsL d) i).length lc, .int .i64 x] w M X (fun u => u = .bool (decide (prt d x = i))) := by
  rw [← con_prt hab hx hi]
  exact within_q _ _ hl S
def rowE (d : Dg) (i j : Nat) : List Int := (List.range (strandsL d).length).map fun b => if b < j then finE d i b else 0
theorem rowE_get (d : Dg) (i j b : Nat) (h : b < (rowE d i j).length) : (rowE d i j)[b] = if b < j then finE d i b else 0 := by
  simp [rowE]
theorem rowE_zero (d : Dg) (i : Nat) : List.replicate (strandsL d).length (0 : Int) = rowE d i 0 := by
  apply List.ext_getElem (by simp [rowE])
  intro b h1 h2
  rw [rowE_get, if_neg (by omega), List.getElem_replicate]
theorem rowE_set (d : Dg) {i j : Nat} (hj : j < (strandsL d).length) : (rowE d i j).set j (finE d i j) = rowE d i (j + 1) := by
  apply List.ext_getElem (by simp [rowE])
  intro b h1 h2
  rw [List.getElem_set, rowE_get, rowE_get]
  split
  · subst b; rw [if_pos (by omega)]
  · by_cases h9 : b < j
    · rw [if_pos h9, if_pos (by omega)]
    · rw [if_neg h9, if_neg (by omega)]
theorem rowE_all (d : Dg) (i : Nat) (hi : i < (strandsL d).length) : rowE d i (strandsL d).length = ga (lnkL d) i := by
  unfold lnkL
  rw [tbl_row _ hi]
  unfold rowE
  refine List.map_congr_left fun b hb => ?_
  rw [if_pos (List.mem_range.1 hb)]

noncomputable def LinkingOf_n0 : Code := Try.f49.body.getD .skip
noncomputable def LinkingOf_n1 : Code := cL LinkingOf_n0
noncomputable def LinkingOf_n2 : Code := cR LinkingOf_n0
noncomputable def LinkingOf_n3 : Code := cL LinkingOf_n2
noncomputable def LinkingOf_n4 : Code := cR LinkingOf_n2
noncomputable def LinkingOf_n5 : Code := cL LinkingOf_n4
noncomputable def LinkingOf_n6 : Code := cR LinkingOf_n4
noncomputable def LinkingOf_n7 : Code := cL LinkingOf_n6
noncomputable def LinkingOf_n8 : Code := cR LinkingOf_n6
noncomputable def LinkingOf_n9 : Code := cL LinkingOf_n7
noncomputable def LinkingOf_n10 : Code := cR LinkingOf_n7
noncomputable def LinkingOf_n11 : Code := cL LinkingOf_n10
noncomputable def LinkingOf_n12 : Code := cL LinkingOf_n11
noncomputable def LinkingOf_n13 : Code := cL LinkingOf_n12
noncomputable def LinkingOf_n14 : Code := cR LinkingOf_n12
noncomputable def LinkingOf_n15 : Code := cL LinkingOf_n13
noncomputable def LinkingOf_n16 : Code := cR LinkingOf_n13
noncomputable def LinkingOf_n17 : Code := cL LinkingOf_n16
noncomputable def LinkingOf_n18 : Code := cR LinkingOf_n16
noncomputable def LinkingOf_n19 : Code := cL LinkingOf_n14
noncomputable def LinkingOf_n20 : Code := cR LinkingOf_n14
noncomputable def LinkingOf_n21 : Code := cL LinkingOf_n19
noncomputable def LinkingOf_n22 : Code := cL LinkingOf_n21
noncomputable def LinkingOf_n23 : Code := cR LinkingOf_n21
noncomputable def LinkingOf_n24 : Code := cL LinkingOf_n23
noncomputable def LinkingOf_n25 : Code := cR LinkingOf_n23
noncomputable def LinkingOf_n26 : Code := cL LinkingOf_n24
noncomputable def LinkingOf_n27 : Code := cR LinkingOf_n24
noncomputable def LinkingOf_n28 : Code := cL LinkingOf_n27
noncomputable def LinkingOf_n29 : Code := cL LinkingOf_n28
noncomputable def LinkingOf_n30 : Code := cL LinkingOf_n29
noncomputable def LinkingOf_n31 : Code := cR LinkingOf_n29
noncomputable def LinkingOf_n32 : Code := cL LinkingOf_n30
noncomputable def LinkingOf_n33 : Code := cR LinkingOf_n30
noncomputable def LinkingOf_n34 : Code := cL LinkingOf_n33
noncomputable def LinkingOf_n35 : Code := cR LinkingOf_n33
noncomputable def LinkingOf_n36 : Code := cL LinkingOf_n31
noncomputable def LinkingOf_n37 : Code := cR LinkingOf_n31
noncomputable def LinkingOf_n38 : Code := cL LinkingOf_n36
noncomputable def LinkingOf_n39 : Code := cL LinkingOf_n38
noncomputable def LinkingOf_n40 : Code := cR LinkingOf_n38
noncomputable def LinkingOf_n41 : Code := cL LinkingOf_n40
noncomputable def LinkingOf_n42 : Code := cR LinkingOf_n40
noncomputable def LinkingOf_n43 : Code := cL LinkingOf_n41
noncomputable def LinkingOf_n44 : Code := cR LinkingOf_n41
noncomputable def LinkingOf_n45 : Code := cL LinkingOf_n44
noncomputable def LinkingOf_n46 : Code := cL LinkingOf_n45
noncomputable def LinkingOf_n47 : Code := cL LinkingOf_n46
noncomputable def LinkingOf_n48 : Code := cR LinkingOf_n46
noncomputable def LinkingOf_n49 : Code := cL LinkingOf_n47
noncomputable def LinkingOf_n50 : Code := cR LinkingOf_n47
noncomputable def LinkingOf_n51 : Code := cL LinkingOf_n50
noncomputable def LinkingOf_n52 : Code := cR LinkingOf_n50
noncomputable def LinkingOf_n53 : Code := cL LinkingOf_n48
noncomputable def LinkingOf_n54 : Code := cR LinkingOf_n48
noncomputable def LinkingOf_n55 : Code := cL LinkingOf_n53
noncomputable def LinkingOf_n56 : Code := cL LinkingOf_n55
noncomputable def LinkingOf_n57 : Code := cR LinkingOf_n55
noncomputable def LinkingOf_n58 : Code := cL LinkingOf_n57
noncomputable def LinkingOf_n59 : Code := cR LinkingOf_n57
noncomputable def LinkingOf_n60 : Code := cL LinkingOf_n59
noncomputable def LinkingOf_n61 : Code := cR LinkingOf_n59
noncomputable def LinkingOf_n62 : Code := cL LinkingOf_n61
noncomputable def LinkingOf_n63 : Code := cR LinkingOf_n61
noncomputable def LinkingOf_n64 : Code := cL LinkingOf_n63
noncomputable def LinkingOf_n65 : Code := cR LinkingOf_n63
noncomputable def LinkingOf_n66 : Code := cL LinkingOf_n42
noncomputable def LinkingOf_n67 : Code := cR LinkingOf_n42
noncomputable def LinkingOf_n68 : Code := cL LinkingOf_n66
noncomputable def LinkingOf_n69 : Code := cR LinkingOf_n66
noncomputable def LinkingOf_n70 : Code := cL LinkingOf_n69
noncomputable def LinkingOf_n71 : Code := cR LinkingOf_n69
noncomputable def LinkingOf_n72 : Code := cL LinkingOf_n8
noncomputable def LinkingOf_n73 : Code := cR LinkingOf_n8
set_option maxHeartbeats 1000000 in
set_option maxRecDepth 10000 in
theorem LinkingOf_t {w : World} {M : Hp} {X : Fr} (d : Dg) {dcrsA : Option Addr} {dcrsc : Nat} (hdcrs : RdA cdCr (M.un X.h) dcrsA dcrsc d.crs) (hn : d.crs.length ≤ 16) (hab : arcsB d = true) (S : SH w M X []) : Ct Try.prog 49 [.agg [.slice dcrsA d.crs.length dcrsc, .int .i64 d.loops].toArray] w M X (fun u N => ∃ A c vs, u = .slice A vs.length c ∧ RdA (cdV 44) N A c vs ∧ Rd2 cdInt N vs (lnkL d)) := by
  unfold Ct
  have rmhdcrs : d.crs.length * 40 ≤ 140737488355328 := hdcrs.room
  refine calls_in (b := LinkingOf_n0) Try.func49 rfl Try.ntmps49 rfl (fun C hC => ?_)
  refine ws_sub [(0, _)] ⟨rfl, trivial⟩ ?_
  refine ws_seqN LinkingOf_n1 LinkingOf_n2 rfl rfl rfl ?_
  refine ws_region rfl ?_
  refine wl_op (k := 0) (k' := 1) rfl rfl rfl (wo_box (l := [_, _]) rfl rfl rfl rfl rfl S ?_)
  intro gb1 w1 S1; clear S
  refine wl_op (k := 1) (k' := 2) rfl rfl rfl (wo_run rfl rfl (run_assign rfl rfl) ?_)
  refine wl_end rfl ?_
  refine nm_sub [(1, _)] ⟨rfl, trivial⟩ ?_
  refine nm_thn ?_
  refine ws_seqN LinkingOf_n3 LinkingOf_n4 rfl rfl rfl ?_
  refine ws_region rfl ?_
  refine wl_op (k := 0) (k' := 1) rfl rfl rfl (wo_run rfl rfl (run_loadN (us := [_, _]) rfl rfl Try.underlying27 rfl sz27 (S1.boxcs (i := 0) rfl ⟨rfl, rfl, trivial⟩)) ?_)
  refine wl_op (k := 1) (k' := 2) rfl rfl rfl (wo_ct rfl rfl rfl rfl rfl rfl rfl cf21 S1 (StrandsOf_t d (hdcrs.mono S1.un_XH) (hn) (hab) S1.lend) ?_)
  intro vw2 w2 M1 hle1 S2 hRw2; clear S1
  replace hdcrs := hdcrs.mono (Hp.un_mono hle1 S2.mx)
  obtain ⟨A1, c1, vs1, rfl, hr1, hd1⟩ := hRw2
  have hlenstrandsL := hd1.1
  refine wl_op (k := 2) (k' := 3) rfl rfl rfl (wo_run rfl rfl (run_assign rfl rfl) ?_)
  refine wl_end rfl ?_
  refine nm_sub [(1, _), (3, _)] ⟨rfl, rfl, trivial⟩ ?_
  refine nm_thn ?_
  refine ws_seqN LinkingOf_n5 LinkingOf_n6 rfl rfl rfl ?_
  refine ws_region rfl ?_
  refine wl_op (k := 0) (k' := 1) rfl rfl rfl (wo_run rfl rfl (run_assign rfl rfl) ?_)
  refine wl_end rfl ?_
  refine nm_thn ?_
  refine ws_seqN LinkingOf_n7 LinkingOf_n8 rfl rfl rfl ?_
  refine ws_seqN LinkingOf_n9 LinkingOf_n10 rfl rfl rfl ?_
  have hsm : (strandsL d).length ≤ 2 * d.crs.length := rings_many _ _ _
  refine ws_region rfl ?_
  refine wl_op (k := 0) (k' := 1) rfl rfl rfl (wo_run rfl rfl (run_assign rfl rfl) ?_)
  refine wl_end rfl ?_
  refine nm_thn ?_
  refine ws_blockN LinkingOf_n11 0 rfl rfl rfl ?_
  have S3 := S2.nilrow (cdV 44); clear S2
  refine ws_loopE (fun mx_ ax_ wx_ => ∃ (i : Nat) (outc : List (List Int)) (vs : List SlV) (vro : Value) (M2 : Hp), M1.le M2 ∧ mx_ = (strandsL d).length - i ∧ Env 103 [(1, .pointer (some ⟨gb1, 0, none⟩)), (3, .slice A1 vs1.length c1), (4, vro), (5, .int .i64 (i : Int))] ax_ ∧ SH wx_ M2 X [Rs.row (cdV 44) vro vs, Rs.box gb1 27 [.slice dcrsA d.crs.length dcrsc, .int .i64 d.loops]] ∧ i ≤ (strandsL d).length ∧ outc = (lnkL d).take i ∧ Rd2 cdInt M2 vs outc) rfl ?_ ?_
  · intro ax_ hax_
    refine ⟨_, ⟨0, [], _, _, _, Hp.le_refl _, rfl, hax_.sub ⟨rfl, rfl, rfl, rfl, trivial⟩, S3.pick [0, 1] [_, _] (by decide) ⟨rfl, rfl, trivial⟩, ?hq1f0, ?hq1f1, ?hq1f2⟩⟩
    case hq1f0 => omega
    case hq1f1 => rfl
    case hq1f2 => exact Rd2.nil_
  · rintro m1 a1 w3 ⟨i, outc, vs, vro, M2, hle2, rfl, he1, S4, hi, hoc, hdo⟩
    clear S3
    refine ws_in he1 (c := LinkingOf_n12) rfl ?_
    clear he1 a1
    replace hdcrs := hdcrs.mono (Hp.un_mono hle2 S4.mx)
    replace hr1 := hr1.mono hle2
    replace hd1 := hd1.mono hle2
    have hvs := hdo.1
    have hol : outc.length = i := by rw [hoc, List.length_take]; unfold lnkL; rw [tbl_len]; omega
    refine ws_seqN LinkingOf_n13 LinkingOf_n14 rfl rfl rfl ?_
    refine ws_seqN LinkingOf_n15 LinkingOf_n16 rfl rfl rfl ?_
    refine ws_region rfl ?_
    refine wl_op (k := 0) (k' := 1) rfl rfl rfl (wo_run rfl rfl (run_move rfl rfl) ?_)
    refine wl_op (k := 1) (k' := 2) rfl rfl rfl (wo_run rfl rfl (run_move rfl rfl) ?_)
    refine wl_op (k := 2) (k' := 3) rfl rfl rfl (wo_run rfl rfl (run_len rfl rfl rfl rfl rfl rfl Try.underlying37) ?_)
    refine wl_op (k := 3) (k' := 4) rfl rfl rfl (wo_run rfl rfl (run_lss rfl rfl rfl) ?_)
    refine wl_end rfl ?_
    refine nm_sub [(1, _), (3, _), (4, _), (5, _), (19, _)] ⟨rfl, rfl, rfl, rfl, rfl, trivial⟩ ?_
    refine nm_thn ?_
    refine ws_condN LinkingOf_n17 LinkingOf_n18 rfl rfl rfl rfl (fun hb19 => ?_) (fun hb19 => ?_)
    · have hb19 := of_decide_eq_true hb19
      refine ws_skip rfl ?_
      refine nm_sub [(1, _), (3, _), (4, _), (5, _)] ⟨rfl, rfl, rfl, rfl, trivial⟩ ?_
      refine nm_thn ?_
      refine ws_seqN LinkingOf_n19 LinkingOf_n20 rfl rfl rfl ?_
      refine ws_blockN LinkingOf_n21 1 rfl rfl rfl ?_
      refine ws_seqN LinkingOf_n22 LinkingOf_n23 rfl rfl rfl ?_
      refine ws_region rfl ?_
      refine wl_op (k := 0) (k' := 1) rfl rfl rfl (wo_run rfl rfl (run_move rfl rfl) ?_)
      refine wl_op (k := 1) (k' := 2) rfl rfl rfl (wo_run rfl rfl (run_len rfl rfl rfl rfl rfl rfl Try.underlying37) ?_)
      refine wl_op (k := 2) (k' := 3) rfl rfl rfl (wo_make (C := cdInt) vs1.length rfl rfl rfl rfl rfl sl44 (by first | rfl | omega) (by show _ * 8 ≤ _; first | omega | (simp only [List.length_set, List.length_append, List.length_replicate, List.length_singleton, List.length_cons, List.length_nil]; omega)) S4 ?_)
      intro vr2 w4 S5; clear S4
      refine wl_op (k := 3) (k' := 4) rfl rfl rfl (wo_run rfl rfl (run_assign rfl rfl) ?_)
      refine wl_end rfl ?_
      refine nm_sub [(1, _), (3, _), (4, _), (5, _), (6, _)] ⟨rfl, rfl, rfl, rfl, rfl, trivial⟩ ?_
      refine nm_thn ?_
      refine ws_seqN LinkingOf_n24 LinkingOf_n25 rfl rfl rfl ?_
      refine ws_seqN LinkingOf_n26 LinkingOf_n27 rfl rfl rfl ?_
      refine ws_region rfl ?_
      refine wl_op (k := 0) (k' := 1) rfl rfl rfl (wo_run rfl rfl (run_assign rfl rfl) ?_)
      refine wl_end rfl ?_
      refine nm_thn ?_
      refine ws_blockN LinkingOf_n28 2 rfl rfl rfl ?_
      refine ws_loopE (fun mx_ ax_ wx_ => ∃ (j : Nat) (row : List Int) (vrr : Value), mx_ = (strandsL d).length - j ∧ Env 103 [(1, .pointer (some ⟨gb1, 0, none⟩)), (3, .slice A1 vs1.length c1), (4, vro), (5, .int .i64 (i : Int)), (6, vrr), (7, .int .i64 (j : Int))] ax_ ∧ SH wx_ M2 X [Rs.row cdInt vrr row, Rs.row (cdV 44) vro vs, Rs.box gb1 27 [.slice dcrsA d.crs.length dcrsc, .int .i64 d.loops]] ∧ j ≤ (strandsL d).length ∧ row = rowE d i j) rfl ?_ ?_
      · intro ax_ hax_
        refine ⟨_, ⟨0, _, _, rfl, hax_.sub ⟨rfl, rfl, rfl, rfl, rfl, rfl, trivial⟩, S5.pick [0, 1, 2] [_, _, _] (by decide) ⟨rfl, rfl, rfl, trivial⟩, ?hq2f0, ?hq2f1⟩⟩
        case hq2f0 => omega
        case hq2f1 => (rw [hlenstrandsL]; exact rowE_zero d i)
      · rintro m2 a2 w5 ⟨j, row, vrr, rfl, he2, S6, hj, hrow⟩
        clear S5
        refine ws_in he2 (c := LinkingOf_n29) rfl ?_
        clear he2 a2
        have hrl : row.length = (strandsL d).length := by rw [hrow]; simp [rowE]
        refine ws_seqN LinkingOf_n30 LinkingOf_n31 rfl rfl rfl ?_
        refine ws_seqN LinkingOf_n32 LinkingOf_n33 rfl rfl rfl ?_
        refine ws_region rfl ?_
        refine wl_op (k := 0) (k' := 1) rfl rfl rfl (wo_run rfl rfl (run_move rfl rfl) ?_)
        refine wl_op (k := 1) (k' := 2) rfl rfl rfl (wo_run rfl rfl (run_move rfl rfl) ?_)
        refine wl_op (k := 2) (k' := 3) rfl rfl rfl (wo_run rfl rfl (run_len rfl rfl rfl rfl rfl rfl Try.underlying37) ?_)
        refine wl_op (k := 3) (k' := 4) rfl rfl rfl (wo_run rfl rfl (run_lss rfl rfl rfl) ?_)
        refine wl_end rfl ?_
        refine nm_sub [(1, _), (3, _), (4, _), (5, _), (6, _), (7, _), (28, _)] ⟨rfl, rfl, rfl, rfl, rfl, rfl, rfl, trivial⟩ ?_
        refine nm_thn ?_
        refine ws_condN LinkingOf_n34 LinkingOf_n35 rfl rfl rfl rfl (fun hb28 => ?_) (fun hb28 => ?_)
        · have hb28 := of_decide_eq_true hb28
          refine ws_skip rfl ?_
          refine nm_sub [(1, _), (3, _), (4, _), (5, _), (6, _), (7, _)] ⟨rfl, rfl, rfl, rfl, rfl, rfl, trivial⟩ ?_
          refine nm_thn ?_
          refine ws_seqN LinkingOf_n36 LinkingOf_n37 rfl rfl rfl ?_
          refine ws_blockN LinkingOf_n38 3 rfl rfl rfl ?_
          refine ws_seqN LinkingOf_n39 LinkingOf_n40 rfl rfl rfl ?_
          refine ws_region rfl ?_
          refine wl_op (k := 0) (k' := 1) rfl rfl rfl (wo_run rfl rfl (run_assign rfl rfl) ?_)
          refine wl_end rfl ?_
          refine nm_thn ?_
          refine ws_seqN LinkingOf_n41 LinkingOf_n42 rfl rfl rfl ?_
          refine ws_seqN LinkingOf_n43 LinkingOf_n44 rfl rfl rfl ?_
          refine ws_region rfl ?_
          refine wl_op (k := 0) (k' := 1) rfl rfl rfl (wo_run rfl rfl (run_assign rfl rfl) ?_)
          refine wl_end rfl ?_
          refine nm_thn ?_
          refine ws_blockN LinkingOf_n45 4 rfl rfl rfl ?_
          refine ws_loopE (fun mx_ ax_ wx_ => ∃ (k : Nat) (m : Int), mx_ = d.crs.length - k ∧ Env 103 [(1, .pointer (some ⟨gb1, 0, none⟩)), (3, .slice A1 vs1.length c1), (4, vro), (5, .int .i64 (i : Int)), (6, vrr), (7, .int .i64 (j : Int)), (8, .int .i64 m), (9, .int .i64 (k : Int))] ax_ ∧ SH wx_ M2 X [Rs.row cdInt vrr row, Rs.row (cdV 44) vro vs, Rs.box gb1 27 [.slice dcrsA d.crs.length dcrsc, .int .i64 d.loops]] ∧ k ≤ d.crs.length ∧ m = entN d i j k) rfl ?_ ?_
          · intro ax_ hax_
            refine ⟨_, ⟨0, _, rfl, hax_.sub ⟨rfl, rfl, rfl, rfl, rfl, rfl, rfl, rfl, trivial⟩, S6.pick [0, 1, 2] [_, _, _] (by decide) ⟨rfl, rfl, rfl, trivial⟩, ?hq3f0, ?hq3f1⟩⟩
            case hq3f0 => omega
            case hq3f1 => rfl
          · rintro m3 a3 w6 ⟨k, m, rfl, he3, S7, hk, hm⟩
            clear S6
            refine ws_in he3 (c := LinkingOf_n46) rfl ?_
            clear he3 a3
            have hen := entN_bd d i j k
            have hsg := sgn_bd (ga d.crs k)
            refine ws_seqN LinkingOf_n47 LinkingOf_n48 rfl rfl rfl ?_
            refine ws_seqN LinkingOf_n49 LinkingOf_n50 rfl rfl rfl ?_
            refine ws_region rfl ?_
            refine wl_op (k := 0) (k' := 1) rfl rfl rfl (wo_run rfl rfl (run_move rfl rfl) ?_)
            refine wl_op (k := 1) (k' := 2) rfl rfl rfl (wo_run rfl rfl (run_fieldAddr rfl rfl Try.underlying27 rfl (ce25) (nf25)) ?_)
            refine wl_op (k := 2) (k' := 3) rfl rfl rfl (wo_run rfl rfl (run_load1 rfl rfl Try.underlying25 rfl (S7.boxc (i := 2) rfl rfl)) ?_)
            refine wl_op (k := 3) (k' := 4) rfl rfl rfl (wo_run rfl rfl (run_len rfl rfl rfl rfl rfl rfl Try.underlying25) ?_)
            refine wl_op (k := 4) (k' := 5) rfl rfl rfl (wo_run rfl rfl (run_lss rfl rfl rfl) ?_)
            refine wl_end rfl ?_
            refine nm_sub [(1, _), (3, _), (4, _), (5, _), (6, _), (7, _), (8, _), (9, _), (35, _)] ⟨rfl, rfl, rfl, rfl, rfl, rfl, rfl, rfl, rfl, trivial⟩ ?_
            refine nm_thn ?_
            refine ws_condN LinkingOf_n51 LinkingOf_n52 rfl rfl rfl rfl (fun hb35 => ?_) (fun hb35 => ?_)
            · have hb35 := of_decide_eq_true hb35
              have hba : 1 ≤ (ga d.crs k).a ∧ (ga d.crs k).a ≤ 2 * (d.crs.length : Int) := arcAt_bd hab (i := k) (by omega) (k := 0) (by omega)
              have hbb : 1 ≤ (ga d.crs k).b ∧ (ga d.crs k).b ≤ 2 * (d.crs.length : Int) := arcAt_bd hab (i := k) (by omega) (k := 1) (by omega)
              have ca : ∀ i, i < (strandsL d).length → (ga (strandsL d) i).contains (ga d.crs k).a = decide (pA d k = i) := fun i hi => con_prt hab hba hi
              have cb : ∀ i, i < (strandsL d).length → (ga (strandsL d) i).contains (ga d.crs k).b = decide (pB d k = i) := fun i hi => con_prt hab hbb hi
              refine ws_skip rfl ?_
              refine nm_sub [(1, _), (3, _), (4, _), (5, _), (6, _), (7, _), (8, _), (9, _)] ⟨rfl, rfl, rfl, rfl, rfl, rfl, rfl, rfl, trivial⟩ ?_
              refine nm_thn ?_
              refine ws_seqN LinkingOf_n53 LinkingOf_n54 rfl rfl rfl ?_
              refine ws_blockN LinkingOf_n55 5 rfl rfl rfl ?_
              refine ws_seqN LinkingOf_n56 LinkingOf_n57 rfl rfl rfl ?_
              refine ws_region rfl ?_
              refine wl_op (k := 0) (k' := 1) rfl rfl rfl (wo_run rfl rfl (run_fieldAddr rfl rfl Try.underlying27 rfl (ce25) (nf25)) ?_)
              refine wl_op (k := 1) (k' := 2) rfl rfl rfl (wo_run rfl rfl (run_load1 rfl rfl Try.underlying25 rfl (S7.boxc (i := 2) rfl rfl)) ?_)
              refine wl_op (k := 2) (k' := 3) rfl rfl rfl (wo_run rfl rfl (run_move rfl rfl) ?_)
              refine wl_op (k := 3) (k' := 4) rfl rfl rfl (wo_run rfl rfl (run_indexM (C := cdCr) k rfl rfl rfl sl25 (by first | rfl | omega) hdcrs (by first | omega | (simp only [List.length_set, List.length_append, List.length_replicate, List.length_singleton, List.length_cons, List.length_nil]; omega))) ?_)
              refine wl_op (k := 4) (k' := 5) rfl rfl rfl (wo_run rfl rfl (run_loadN (us := [_, _, _, _, _]) rfl rfl Try.underlying73 rfl sz73 (hdcrs.cellsAt S7.um (e := k) (by first | omega | (simp only [List.length_set, List.length_append, List.length_replicate, List.length_singleton, List.length_cons, List.length_nil]; omega)) (j := 0) ⟨rfl, rfl, rfl, rfl, rfl, trivial⟩)) ?_)
              refine wl_op (k := 5) (k' := 6) rfl rfl rfl (wo_alloc (l := [_, _, _, _, _]) rfl rfl rfl zr73 rfl S7 ?_)
              intro gb2 w7 S8; clear S7
              refine wl_op (k := 6) (k' := 7) rfl rfl rfl (wo_storeB (i := 0) (us := [_, _, _, _, _]) (l' := [_, _, _, _, _]) (H' := [_, _, _, _]) rfl rfl S8 rfl rfl rfl rfl sz73 rfl rfl rfl rfl ?_)
              intro w8 S9; clear S8
              refine wl_end rfl ?_
              refine nm_sub [(1, _), (3, _), (4, _), (5, _), (6, _), (7, _), (8, _), (9, _), (10, _)] ⟨rfl, rfl, rfl, rfl, rfl, rfl, rfl, rfl, rfl, trivial⟩ ?_
              refine nm_thn ?_
              refine ws_seqN LinkingOf_n58 LinkingOf_n59 rfl rfl rfl ?_
              refine ws_draw rfl (by kernel_rfl) S9 16 rfl ?_
              clear S9
              refine wa_takeP (i := 0) (d := 43) 15 rfl (by kernel_rfl) (by kernel_rfl) (by kernel_rfl) rfl rfl rfl (fun w9 => run_move rfl rfl) ?_
              refine wa_takeP (i := 1) (d := 44) 14 rfl (by kernel_rfl) (by kernel_rfl) (by kernel_rfl) rfl rfl rfl (fun w10 => run_move rfl rfl) ?_
              refine wa_take (i := 2) (d := 45) 13 rfl (by kernel_rfl) (by kernel_rfl) (by kernel_rfl) rfl rfl rfl (fun M5 N3 w11 hle7 S12 => .inl (run_indexM (C := (cdV 44)) i rfl rfl rfl sl37 (by first | rfl | omega) (hr1.mono hle7) (by first | omega | (simp only [List.length_set, List.length_append, List.length_replicate, List.length_singleton, List.length_cons, List.length_nil]; omega)))) ?_
              obtain ⟨hn1, hr2⟩ := hd1.2 i (by first | omega | (simp only [List.length_set, List.length_append, List.length_replicate, List.length_singleton, List.length_cons, List.length_nil]; omega))
              have rmhr2 : (ga (strandsL d) i).length * 8 ≤ 140737488355328 := hr2.room
              refine wa_take (i := 3) (d := 46) 12 rfl (by kernel_rfl) (by kernel_rfl) (by kernel_rfl) rfl rfl rfl (fun M6 N4 w12 hle8 S13 => .inl (run_load1 rfl rfl Try.underlying44 rfl ((hr1.mono hle8).cell S13.m (i := i) (by first | omega | (simp only [List.length_set, List.length_append, List.length_replicate, List.length_singleton, List.length_cons, List.length_nil]; omega)) 0 rfl (congrArg (fun n => some (Value.slice _ n _)) hn1)))) ?_
              refine wa_takeP (i := 4) (d := 47) 11 rfl (by kernel_rfl) (by kernel_rfl) (by kernel_rfl) rfl rfl rfl (fun w13 => run_fieldAddr rfl rfl Try.underlying73 rfl (ce3) (nf3)) ?_
              refine wa_take (i := 5) (d := 48) 10 rfl (by kernel_rfl) (by kernel_rfl) (by kernel_rfl) rfl rfl rfl (fun M8 N6 w14 hle10 S15 => .inl (run_load1 rfl rfl Try.underlying3 rfl (S15.suf.boxc (i := 0) rfl rfl))) ?_
              refine wa_take (i := 6) (d := 49) 9 rfl (by kernel_rfl) (by kernel_rfl) (by kernel_rfl) rfl rfl rfl (fun M9 N7 w15 hle11 S16 => yield_cq rfl rfl rfl rfl rfl cf65 S16 (within_p d i ((ga d.crs k).a) ((hr2.mono hle11).mono (Hp.le_un _ _)) (hab) (hba) ((by omega)) S16.lend)) ?_
              refine wa_takeP (i := 7) (d := 50) 8 rfl (by kernel_rfl) (by kernel_rfl) (by kernel_rfl) rfl rfl rfl (fun w16 => run_move rfl rfl) ?_
              refine wa_takeP (i := 8) (d := 51) 7 rfl (by kernel_rfl) (by kernel_rfl) (by kernel_rfl) rfl rfl rfl (fun w17 => run_move rfl rfl) ?_
              refine wa_take (i := 9) (d := 52) 6 rfl (by kernel_rfl) (by kernel_rfl) (by kernel_rfl) rfl rfl rfl (fun M12 N10 w18 hle14 S19 => .inl (run_indexM (C := (cdV 44)) j rfl rfl rfl sl37 (by first | rfl | omega) (hr1.mono hle14) (by first | omega | (simp only [List.length_set, List.length_append, List.length_replicate, List.length_singleton, List.length_cons, List.length_nil]; omega)))) ?_
              obtain ⟨hn2, hr3⟩ := hd1.2 j (by first | omega | (simp only [List.length_set, List.length_append, List.length_replicate, List.length_singleton, List.length_cons, List.length_nil]; omega))
              have rmhr3 : (ga (strandsL d) j).length * 8 ≤ 140737488355328 := hr3.room
              refine wa_take (i := 10) (d := 53) 5 rfl (by kernel_rfl) (by kernel_rfl) (by kernel_rfl) rfl rfl rfl (fun M13 N11 w19 hle15 S20 => .inl (run_load1 rfl rfl Try.underlying44 rfl ((hr1.mono hle15).cell S20.m (i := j) (by first | omega | (simp only [List.length_set, List.length_append, List.length_replicate, List.length_singleton, List.length_cons, List.length_nil]; omega)) 0 rfl (congrArg (fun n => some (Value.slice _ n _)) hn2)))) ?_
              refine wa_takeP (i := 11) (d := 54) 4 rfl (by kernel_rfl) (by kernel_rfl) (by kernel_rfl) rfl rfl rfl (fun w20 => run_fieldAddr rfl rfl Try.underlying73 rfl (ce3) (nf3)) ?_
              refine wa_take (i := 12) (d := 55) 3 rfl (by kernel_rfl) (by kernel_rfl) (by kernel_rfl) rfl rfl rfl (fun M15 N13 w21 hle17 S22 => .inl (run_load1 rfl rfl Try.underlying3 rfl (S22.suf.boxc (i := 0) rfl rfl))) ?_
              refine wa_take (i := 13) (d := 56) 2 rfl (by kernel_rfl) (by kernel_rfl) (by kernel_rfl) rfl rfl rfl (fun M16 N14 w22 hle18 S23 => yield_cq rfl rfl rfl rfl rfl cf65 S23 (within_p d j ((ga d.crs k).b) ((hr3.mono hle18).mono (Hp.le_un _ _)) (hab) (hbb) ((by omega)) S23.lend)) ?_
              refine wa_takeP (i := 14) (d := 11) 1 rfl (by kernel_rfl) (by kernel_rfl) (by kernel_rfl) rfl rfl rfl (fun w23 => run_assign rfl rfl) ?_
              refine wa_takeP (i := 15) (d := 12) 0 rfl (by kernel_rfl) (by kernel_rfl) (by kernel_rfl) rfl rfl rfl (fun w24 => run_assign rfl rfl) ?_
              refine wa_end (by kernel_rfl) (fun w25 S26 => ?_)
              refine nm_sub [(1, _), (3, _), (4, _), (5, _), (6, _), (7, _), (8, _), (9, _), (10, _), (11, _), (12, _)] ⟨rfl, rfl, rfl, rfl, rfl, rfl, rfl, rfl, rfl, rfl, rfl, trivial⟩ ?_
              refine nm_thn ?_
              refine ws_seqN LinkingOf_n60 LinkingOf_n61 rfl rfl rfl ?_
              refine ws_draw rfl (by kernel_rfl) S26 17 rfl ?_
              clear S26
              refine wa_takeP (i := 0) (d := 57) 16 rfl (by kernel_rfl) (by kernel_rfl) (by kernel_rfl) rfl rfl rfl (fun w26 => run_move rfl rfl) ?_
              refine wa_takeP (i := 1) (d := 58) 15 rfl (by kernel_rfl) (by kernel_rfl) (by kernel_rfl) rfl rfl rfl (fun w27 => run_move rfl rfl) ?_
              refine wa_take (i := 2) (d := 59) 14 rfl (by kernel_rfl) (by kernel_rfl) (by kernel_rfl) rfl rfl rfl (fun M21 N19 w28 hle23 S29 => .inl (run_indexM (C := (cdV 44)) j rfl rfl rfl sl37 (by first | rfl | omega) (hr1.mono hle23) (by first | omega | (simp only [List.length_set, List.length_append, List.length_replicate, List.length_singleton, List.length_cons, List.length_nil]; omega)))) ?_
              obtain ⟨hn3, hr4⟩ := hd1.2 j (by first | omega | (simp only [List.length_set, List.length_append, List.length_replicate, List.length_singleton, List.length_cons, List.length_nil]; omega))
              have rmhr4 : (ga (strandsL d) j).length * 8 ≤ 140737488355328 := hr4.room
              refine wa_take (i := 3) (d := 60) 13 rfl (by kernel_rfl) (by kernel_rfl) (by kernel_rfl) rfl rfl rfl (fun M22 N20 w29 hle24 S30 => .inl (run_load1 rfl rfl Try.underlying44 rfl ((hr1.mono hle24).cell S30.m (i := j) (by first | omega | (simp only [List.length_set, List.length_append, List.length_replicate, List.length_singleton, List.length_cons, List.length_nil]; omega)) 0 rfl (congrArg (fun n => some (Value.slice _ n _)) hn3)))) ?_
              refine wa_takeP (i := 4) (d := 61) 12 rfl (by kernel_rfl) (by kernel_rfl) (by kernel_rfl) rfl rfl rfl (fun w30 => run_fieldAddr rfl rfl Try.underlying73 rfl (ce3) (nf3)) ?_
              refine wa_take (i := 5) (d := 62) 11 rfl (by kernel_rfl) (by kernel_rfl) (by kernel_rfl) rfl rfl rfl (fun M24 N22 w31 hle26 S32 => .inl (run_load1 rfl rfl Try.underlying3 rfl (S32.suf.boxc (i := 0) rfl rfl))) ?_
              refine wa_take (i := 6) (d := 63) 10 rfl (by kernel_rfl) (by kernel_rfl) (by kernel_rfl) rfl rfl rfl (fun M25 N23 w32 hle27 S33 => yield_cq rfl rfl rfl rfl rfl cf65 S33 (within_p d j ((ga d.crs k).a) ((hr4.mono hle27).mono (Hp.le_un _ _)) (hab) (hba) ((by omega)) S33.lend)) ?_
              refine wa_takeP (i := 7) (d := 64) 9 rfl (by kernel_rfl) (by kernel_rfl) (by kernel_rfl) rfl rfl rfl (fun w33 => run_move rfl rfl) ?_
              refine wa_split (t := 64) rfl (fun hg64 => ?_) (fun hg64 => ?_)
              · have hg64 := of_decide_eq_true hg64
                refine wa_takeP (i := 8) (d := 65) 8 rfl (by kernel_rfl) (by kernel_rfl) (by kernel_rfl) ⟨_, _, _, rfl, rfl, rfl, rfl⟩ rfl rfl (fun w34 => run_move rfl rfl) ?_
                refine wa_takeP (i := 9) (d := 66) 7 rfl (by kernel_rfl) (by kernel_rfl) (by kernel_rfl) ⟨_, _, _, rfl, rfl, rfl, rfl⟩ rfl rfl (fun w35 => run_move rfl rfl) ?_
                refine wa_take (i := 10) (d := 67) 6 rfl (by kernel_rfl) (by kernel_rfl) (by kernel_rfl) ⟨_, _, _, rfl, rfl, rfl, rfl⟩ rfl rfl (fun M29 N27 w36 hle31 S37 => .inl (run_indexM (C := (cdV 44)) i rfl rfl rfl sl37 (by first | rfl | omega) (hr1.mono hle31) (by first | omega | (simp only [List.length_set, List.length_append, List.length_replicate, List.length_singleton, List.length_cons, List.length_nil]; omega)))) ?_
                obtain ⟨hn4, hr5⟩ := hd1.2 i (by first | omega | (simp only [List.length_set, List.length_append, List.length_replicate, List.length_singleton, List.length_cons, List.length_nil]; omega))
                have rmhr5 : (ga (strandsL d) i).length * 8 ≤ 140737488355328 := hr5.room
                refine wa_take (i := 11) (d := 68) 5 rfl (by kernel_rfl) (by kernel_rfl) (by kernel_rfl) ⟨_, _, _, rfl, rfl, rfl, rfl⟩ rfl rfl (fun M30 N28 w37 hle32 S38 => .inl (run_load1 rfl rfl Try.underlying44 rfl ((hr1.mono hle32).cell S38.m (i := i) (by first | omega | (simp only [List.length_set, List.length_append, List.length_replicate, List.length_singleton, List.length_cons, List.length_nil]; omega)) 0 rfl (congrArg (fun n => some (Value.slice _ n _)) hn4)))) ?_
                refine wa_takeP (i := 12) (d := 69) 4 rfl (by kernel_rfl) (by kernel_rfl) (by kernel_rfl) ⟨_, _, _, rfl, rfl, rfl, rfl⟩ rfl rfl (fun w38 => run_fieldAddr rfl rfl Try.underlying73 rfl (ce3) (nf3)) ?_
                refine wa_take (i := 13) (d := 70) 3 rfl (by kernel_rfl) (by kernel_rfl) (by kernel_rfl) ⟨_, _, _, rfl, rfl, rfl, rfl⟩ rfl rfl (fun M32 N30 w39 hle34 S40 => .inl (run_load1 rfl rfl Try.underlying3 rfl (S40.suf.boxc (i := 0) rfl rfl))) ?_
                refine wa_take (i := 14) (d := 71) 2 rfl (by kernel_rfl) (by kernel_rfl) (by kernel_rfl) ⟨_, _, _, rfl, rfl, rfl, rfl⟩ rfl rfl (fun M33 N31 w40 hle35 S41 => yield_cq rfl rfl rfl rfl rfl cf65 S41 (within_p d i ((ga d.crs k).b) ((hr5.mono hle35).mono (Hp.le_un _ _)) (hab) (hbb) ((by omega)) S41.lend)) ?_
                refine wa_takeP (i := 15) (d := 72) 1 rfl (by kernel_rfl) (by kernel_rfl) (by kernel_rfl) rfl rfl rfl (fun w41 => run_pickT rfl rfl rfl) ?_
                refine wa_takeP (i := 16) (d := 13) 0 rfl (by kernel_rfl) (by kernel_rfl) (by kernel_rfl) rfl rfl rfl (fun w42 => run_assign rfl rfl) ?_
                refine wa_end (by kernel_rfl) (fun w43 S44 => ?_)
                refine nm_sub [(1, _), (3, _), (4, _), (5, _), (6, _), (7, _), (8, _), (9, _), (10, _), (11, _), (12, _), (13, _)] ⟨rfl, rfl, rfl, rfl, rfl, rfl, rfl, rfl, rfl, rfl, rfl, rfl, trivial⟩ ?_
                refine nm_thn ?_
                refine ws_seqN LinkingOf_n62 LinkingOf_n63 rfl rfl rfl ?_
                refine ws_region rfl ?_
                refine wl_op (k := 0) (k' := 1) rfl rfl rfl (wo_run rfl rfl (run_move rfl rfl) ?_)
                refine wl_op (k := 1) (k' := 2) rfl rfl rfl (wo_run rfl rfl (run_move rfl rfl) ?_)
                refine wl_split (t := 74) rfl (fun hg74 => ?_) (fun hg74 => ?_)
                · have hg74 := of_decide_eq_true hg74
                  refine wl_opG (k := 2) (k' := 3) rfl rfl ⟨_, _, _, rfl, rfl, rfl, rfl⟩ rfl (wo_run rfl rfl (run_move rfl rfl) ?_)
                  refine wl_op (k := 3) (k' := 4) rfl rfl rfl (wo_run rfl rfl (run_pickT rfl rfl rfl) ?_)
                  refine wl_op (k := 4) (k' := 5) rfl rfl rfl (wo_run rfl rfl (run_move rfl rfl) ?_)
                  refine wl_split (t := 77) rfl (fun hg77 => ?_) (fun hg77 => ?_)
                  · have hg77 := of_decide_eq_true hg77
                    refine wl_no (k := 5) (k' := 6) (d := 78) rfl rfl ⟨_, _, _, rfl, rfl, rfl, rfl⟩ rfl rfl ?_
                    refine wl_no (k := 6) (k' := 7) (d := 79) rfl rfl ⟨_, _, _, rfl, rfl, rfl, rfl⟩ rfl rfl ?_
                    refine wl_no (k := 7) (k' := 8) (d := 80) rfl rfl ⟨_, _, _, rfl, rfl, rfl, rfl⟩ rfl rfl ?_
                    refine wl_no (k := 8) (k' := 9) (d := 81) rfl rfl ⟨_, _, _, rfl, rfl, rfl, rfl⟩ rfl rfl ?_
                    refine wl_no (k := 9) (k' := 10) (d := 82) rfl rfl ⟨_, _, _, rfl, rfl, rfl, rfl⟩ rfl rfl ?_
                    refine wl_no (k := 10) (k' := 11) (d := 83) rfl rfl ⟨_, _, _, rfl, rfl, rfl, rfl⟩ rfl rfl ?_
                    refine wl_op (k := 11) (k' := 12) rfl rfl rfl (wo_run rfl rfl (run_pickT rfl rfl rfl) ?_)
                    refine wl_end rfl ?_
                    refine nm_sub [(1, _), (3, _), (4, _), (5, _), (6, _), (7, _), (8, _), (9, _), (10, _), (84, _)] ⟨rfl, rfl, rfl, rfl, rfl, rfl, rfl, rfl, rfl, rfl, trivial⟩ ?_
                    refine nm_thn ?_
                    refine ws_condTN LinkingOf_n64 rfl rfl rfl ?_
                    refine ws_region rfl ?_
                    refine wl_op (k := 0) (k' := 1) rfl rfl rfl (wo_run rfl rfl (run_move rfl rfl) ?_)
                    refine wl_op (k := 1) (k' := 2) rfl rfl rfl (wo_run rfl rfl (run_loadN (us := [_, _, _, _, _]) rfl rfl Try.underlying73 rfl sz73 (S44.boxcs (i := 0) rfl ⟨rfl, rfl, rfl, rfl, rfl, trivial⟩)) ?_)
                    refine wl_op (k := 2) (k' := 3) rfl rfl rfl (wo_cq rfl rfl rfl rfl rfl rfl rfl cf79 S44 (signOf_q (ga d.crs k)  S44.lend) ?_)
                    rintro _ w44 S45 rfl; clear S44
                    refine wl_op (k := 3) (k' := 4) rfl rfl rfl (wo_run rfl rfl (run_add rfl rfl rfl (by first | omega | (simp only [List.length_set, List.length_append, List.length_replicate, List.length_singleton, List.length_cons, List.length_nil]; omega))) ?_)
                    refine wl_op (k := 4) (k' := 5) rfl rfl rfl (wo_run rfl rfl (run_assign rfl rfl) ?_)
                    refine wl_end rfl ?_
                    refine nm_blk ?_
                    refine nm_sub [(1, _), (3, _), (4, _), (5, _), (6, _), (7, _), (8, _), (9, _)] ⟨rfl, rfl, rfl, rfl, rfl, rfl, rfl, rfl, trivial⟩ ?_
                    refine nm_thn ?_
                    refine ws_region rfl ?_
                    refine wl_op (k := 0) (k' := 1) rfl rfl rfl (wo_run rfl rfl (run_move rfl rfl) ?_)
                    refine wl_op (k := 1) (k' := 2) rfl rfl rfl (wo_run rfl rfl (run_add rfl rfl rfl (by first | omega | (simp only [List.length_set, List.length_append, List.length_replicate, List.length_singleton, List.length_cons, List.length_nil]; omega))) ?_)
                    refine wl_op (k := 2) (k' := 3) rfl rfl rfl (wo_run rfl rfl (run_assign rfl rfl) ?_)
                    refine wl_end rfl ?_
                    refine nm_lp ?_
                    intro ax_ hax_
                    refine ⟨_, ?hq4m, ⟨k + 1, _, rfl, hax_.sub ⟨rfl, rfl, rfl, rfl, rfl, rfl, rfl, rfl, trivial⟩, S45.pick [1, 2, 3] [_, _, _] (by decide) ⟨rfl, rfl, rfl, trivial⟩, ?hq4f0, ?hq4f1⟩⟩
                    case hq4f0 => omega
                    case hq4f1 => (rw [entN, ← hm]; unfold pA pB; first | (rw [if_pos (by first | exact .inl ⟨by omega, by omega⟩ | exact .inr ⟨⟨by omega, by omega⟩, by omega⟩)]; done) | (rw [if_neg (by omega)]; done))
                    case hq4m => omega
                  · have hg77 := of_decide_eq_false hg77
                    refine wl_opG (k := 5) (k' := 6) rfl rfl ⟨_, _, _, rfl, rfl, rfl, rfl⟩ rfl (wo_run rfl rfl (run_move rfl rfl) ?_)
                    refine wl_opG (k := 6) (k' := 7) rfl rfl ⟨_, _, _, rfl, rfl, rfl, rfl⟩ rfl (wo_run rfl rfl (run_move rfl rfl) ?_)
                    refine wl_split (t := 79) rfl (fun hg79 => ?_) (fun hg79 => ?_)
                    · have hg79 := of_decide_eq_true hg79
                      refine wl_opG (k := 7) (k' := 8) rfl rfl ⟨_, _, _, rfl, rfl, rfl, rfl⟩ rfl (wo_run rfl rfl (run_move rfl rfl) ?_)
                      refine wl_opG (k := 8) (k' := 9) rfl rfl ⟨_, _, _, rfl, rfl, rfl, rfl⟩ rfl (wo_run rfl rfl (run_move rfl rfl) ?_)
                      refine wl_opG (k := 9) (k' := 10) rfl rfl ⟨_, _, _, rfl, rfl, rfl, rfl⟩ rfl (wo_run rfl rfl (run_neq rfl rfl rfl) ?_)
                      refine wl_opG (k := 10) (k' := 11) rfl rfl ⟨_, _, _, rfl, rfl, rfl, rfl⟩ rfl (wo_run rfl rfl (run_pickT rfl rfl rfl) ?_)
                      refine wl_op (k := 11) (k' := 12) rfl rfl rfl (wo_run rfl rfl (run_pickF rfl rfl rfl) ?_)
                      refine wl_end rfl ?_
                      refine nm_sub [(1, _), (3, _), (4, _), (5, _), (6, _), (7, _), (8, _), (9, _), (10, _), (84, _)] ⟨rfl, rfl, rfl, rfl, rfl, rfl, rfl, rfl, rfl, rfl, trivial⟩ ?_
                      refine nm_thn ?_
                      refine ws_condN LinkingOf_n64 LinkingOf_n65 rfl rfl rfl rfl (fun hb84 => ?_) (fun hb84 => ?_)
                      · have hb84 := of_decide_eq_true hb84
                        refine ws_region rfl ?_
                        refine wl_op (k := 0) (k' := 1) rfl rfl rfl (wo_run rfl rfl (run_move rfl rfl) ?_)
                        refine wl_op (k := 1) (k' := 2) rfl rfl rfl (wo_run rfl rfl (run_loadN (us := [_, _, _, _, _]) rfl rfl Try.underlying73 rfl sz73 (S44.boxcs (i := 0) rfl ⟨rfl, rfl, rfl, rfl, rfl, trivial⟩)) ?_)
                        refine wl_op (k := 2) (k' := 3) rfl rfl rfl (wo_cq rfl rfl rfl rfl rfl rfl rfl cf79 S44 (signOf_q (ga d.crs k)  S44.lend) ?_)
                        rintro _ w45 S46 rfl; clear S44
                        refine wl_op (k := 3) (k' := 4) rfl rfl rfl (wo_run rfl rfl (run_add rfl rfl rfl (by first | omega | (simp only [List.length_set, List.length_append, List.length_replicate, List.length_singleton, List.length_cons, List.length_nil]; omega))) ?_)
                        refine wl_op (k := 4) (k' := 5) rfl rfl rfl (wo_run rfl rfl (run_assign rfl rfl) ?_)
                        refine wl_end rfl ?_
                        refine nm_blk ?_
                        refine nm_sub [(1, _), (3, _), (4, _), (5, _), (6, _), (7, _), (8, _), (9, _)] ⟨rfl, rfl, rfl, rfl, rfl, rfl, rfl, rfl, trivial⟩ ?_
                        refine nm_thn ?_
                        refine ws_region rfl ?_
                        refine wl_op (k := 0) (k' := 1) rfl rfl rfl (wo_run rfl rfl (run_move rfl rfl) ?_)
                        refine wl_op (k := 1) (k' := 2) rfl rfl rfl (wo_run rfl rfl (run_add rfl rfl rfl (by first | omega | (simp only [List.length_set, List.length_append, List.length_replicate, List.length_singleton, List.length_cons, List.length_nil]; omega))) ?_)
                        refine wl_op (k := 2) (k' := 3) rfl rfl rfl (wo_run rfl rfl (run_assign rfl rfl) ?_)
                        refine wl_end rfl ?_
                        refine nm_lp ?_
                        intro ax_ hax_
                        refine ⟨_, ?hq5m, ⟨k + 1, _, rfl, hax_.sub ⟨rfl, rfl, rfl, rfl, rfl, rfl, rfl, rfl, trivial⟩, S46.pick [1, 2, 3] [_, _, _] (by decide) ⟨rfl, rfl, rfl, trivial⟩, ?hq5f0, ?hq5f1⟩⟩
                        case hq5f0 => omega
                        case hq5f1 => (rw [entN, ← hm]; unfold pA pB; first | (rw [if_pos (by first | exact .inl ⟨by omega, by omega⟩ | exact .inr ⟨⟨by omega, by omega⟩, by omega⟩)]; done) | (rw [if_neg (by omega)]; done))
                        case hq5m => omega
                      · have hb84 := of_decide_eq_false hb84
                        refine ws_skip rfl ?_
                        refine nm_blk ?_
                        refine nm_sub [(1, _), (3, _), (4, _), (5, _), (6, _), (7, _), (8, _), (9, _)] ⟨rfl, rfl, rfl, rfl, rfl, rfl, rfl, rfl, trivial⟩ ?_
                        refine nm_thn ?_
                        refine ws_region rfl ?_
                        refine wl_op (k := 0) (k' := 1) rfl rfl rfl (wo_run rfl rfl (run_move rfl rfl) ?_)
                        refine wl_op (k := 1) (k' := 2) rfl rfl rfl (wo_run rfl rfl (run_add rfl rfl rfl (by first | omega | (simp only [List.length_set, List.length_append, List.length_replicate, List.length_singleton, List.length_cons, List.length_nil]; omega))) ?_)
                        refine wl_op (k := 2) (k' := 3) rfl rfl rfl (wo_run rfl rfl (run_assign rfl rfl) ?_)
                        refine wl_end rfl ?_
                        refine nm_lp ?_
                        intro ax_ hax_
                        refine ⟨_, ?hq6m, ⟨k + 1, _, rfl, hax_.sub ⟨rfl, rfl, rfl, rfl, rfl, rfl, rfl, rfl, trivial⟩, S44.pick [1, 2, 3] [_, _, _] (by decide) ⟨rfl, rfl, rfl, trivial⟩, ?hq6f0, ?hq6f1⟩⟩
                        case hq6f0 => omega
                        case hq6f1 => (rw [entN, ← hm]; unfold pA pB; first | (rw [if_pos (by first | exact .inl ⟨by omega, by omega⟩ | exact .inr ⟨⟨by omega, by omega⟩, by omega⟩)]; done) | (rw [if_neg (by omega)]; done))
                        case hq6m => omega
                    · have hg79 := of_decide_eq_false hg79
                      refine wl_no (k := 7) (k' := 8) (d := 80) rfl rfl ⟨_, _, _, rfl, rfl, rfl, rfl⟩ rfl rfl ?_
                      refine wl_no (k := 8) (k' := 9) (d := 81) rfl rfl ⟨_, _, _, rfl, rfl, rfl, rfl⟩ rfl rfl ?_
                      refine wl_no (k := 9) (k' := 10) (d := 82) rfl rfl ⟨_, _, _, rfl, rfl, rfl, rfl⟩ rfl rfl ?_
                      refine wl_opG (k := 10) (k' := 11) rfl rfl ⟨_, _, _, rfl, rfl, rfl, rfl⟩ rfl (wo_run rfl rfl (run_pickF rfl rfl rfl) ?_)
                      refine wl_op (k := 11) (k' := 12) rfl rfl rfl (wo_run rfl rfl (run_pickF rfl rfl rfl) ?_)
                      refine wl_end rfl ?_
                      refine nm_sub [(1, _), (3, _), (4, _), (5, _), (6, _), (7, _), (8, _), (9, _), (10, _), (84, _)] ⟨rfl, rfl, rfl, rfl, rfl, rfl, rfl, rfl, rfl, rfl, trivial⟩ ?_
                      refine nm_thn ?_
                      refine ws_condFN LinkingOf_n65 rfl rfl rfl ?_
                      refine ws_skip rfl ?_
                      refine nm_blk ?_
                      refine nm_sub [(1, _), (3, _), (4, _), (5, _), (6, _), (7, _), (8, _), (9, _)] ⟨rfl, rfl, rfl, rfl, rfl, rfl, rfl, rfl, trivial⟩ ?_
                      refine nm_thn ?_
                      refine ws_region rfl ?_
                      refine wl_op (k := 0) (k' := 1) rfl rfl rfl (wo_run rfl rfl (run_move rfl rfl) ?_)
                      refine wl_op (k := 1) (k' := 2) rfl rfl rfl (wo_run rfl rfl (run_add rfl rfl rfl (by first | omega | (simp only [List.length_set, List.length_append, List.length_replicate, List.length_singleton, List.length_cons, List.length_nil]; omega))) ?_)
                      refine wl_op (k := 2) (k' := 3) rfl rfl rfl (wo_run rfl rfl (run_assign rfl rfl) ?_)
                      refine wl_end rfl ?_
                      refine nm_lp ?_
                      intro ax_ hax_
                      refine ⟨_, ?hq7m, ⟨k + 1, _, rfl, hax_.sub ⟨rfl, rfl, rfl, rfl, rfl, rfl, rfl, rfl, trivial⟩, S44.pick [1, 2, 3] [_, _, _] (by decide) ⟨rfl, rfl, rfl, trivial⟩, ?hq7f0, ?hq7f1⟩⟩
                      case hq7f0 => omega
                      case hq7f1 => (rw [entN, ← hm]; unfold pA pB; first | (rw [if_pos (by first | exact .inl ⟨by omega, by omega⟩ | exact .inr ⟨⟨by omega, by omega⟩, by omega⟩)]; done) | (rw [if_neg (by omega)]; done))
                      case hq7m => omega
                · have hg74 := of_decide_eq_false hg74
                  refine wl_no (k := 2) (k' := 3) (d := 75) rfl rfl ⟨_, _, _, rfl, rfl, rfl, rfl⟩ rfl rfl ?_
                  refine wl_op (k := 3) (k' := 4) rfl rfl rfl (wo_run rfl rfl (run_pickF rfl rfl rfl) ?_)
                  refine wl_op (k := 4) (k' := 5) rfl rfl rfl (wo_run rfl rfl (run_move rfl rfl) ?_)
                  refine wl_opG (k := 5) (k' := 6) rfl rfl ⟨_, _, _, rfl, rfl, rfl, rfl⟩ rfl (wo_run rfl rfl (run_move rfl rfl) ?_)
                  refine wl_opG (k := 6) (k' := 7) rfl rfl ⟨_, _, _, rfl, rfl, rfl, rfl⟩ rfl (wo_run rfl rfl (run_move rfl rfl) ?_)
                  refine wl_split (t := 79) rfl (fun hg79 => ?_) (fun hg79 => ?_)
                  · have hg79 := of_decide_eq_true hg79
                    refine wl_opG (k := 7) (k' := 8) rfl rfl ⟨_, _, _, rfl, rfl, rfl, rfl⟩ rfl (wo_run rfl rfl (run_move rfl rfl) ?_)
                    refine wl_opG (k := 8) (k' := 9) rfl rfl ⟨_, _, _, rfl, rfl, rfl, rfl⟩ rfl (wo_run rfl rfl (run_move rfl rfl) ?_)
                    refine wl_opG (k := 9) (k' := 10) rfl rfl ⟨_, _, _, rfl, rfl, rfl, rfl⟩ rfl (wo_run rfl rfl (run_neq rfl rfl rfl) ?_)
                    refine wl_opG (k := 10) (k' := 11) rfl rfl ⟨_, _, _, rfl, rfl, rfl, rfl⟩ rfl (wo_run rfl rfl (run_pickT rfl rfl rfl) ?_)
                    refine wl_op (k := 11) (k' := 12) rfl rfl rfl (wo_run rfl rfl (run_pickF rfl rfl rfl) ?_)
                    refine wl_end rfl ?_
                    refine nm_sub [(1, _), (3, _), (4, _), (5, _), (6, _), (7, _), (8, _), (9, _), (10, _), (84, _)] ⟨rfl, rfl, rfl, rfl, rfl, rfl, rfl, rfl, rfl, rfl, trivial⟩ ?_
                    refine nm_thn ?_
                    refine ws_condN LinkingOf_n64 LinkingOf_n65 rfl rfl rfl rfl (fun hb84 => ?_) (fun hb84 => ?_)
                    · have hb84 := of_decide_eq_true hb84
                      refine ws_region rfl ?_
                      refine wl_op (k := 0) (k' := 1) rfl rfl rfl (wo_run rfl rfl (run_move rfl rfl) ?_)
                      refine wl_op (k := 1) (k' := 2) rfl rfl rfl (wo_run rfl rfl (run_loadN (us := [_, _, _, _, _]) rfl rfl Try.underlying73 rfl sz73 (S44.boxcs (i := 0) rfl ⟨rfl, rfl, rfl, rfl, rfl, trivial⟩)) ?_)
                      refine wl_op (k := 2) (k' := 3) rfl rfl rfl (wo_cq rfl rfl rfl rfl rfl rfl rfl cf79 S44 (signOf_q (ga d.crs k)  S44.lend) ?_)
                      rintro _ w46 S47 rfl; clear S44
                      refine wl_op (k := 3) (k' := 4) rfl rfl rfl (wo_run rfl rfl (run_add rfl rfl rfl (by first | omega | (simp only [List.length_set, List.length_append, List.length_replicate, List.length_singleton, List.length_cons, List.length_nil]; omega))) ?_)
                      refine wl_op (k := 4) (k' := 5) rfl rfl rfl (wo_run rfl rfl (run_assign rfl rfl) ?_)
                      refine wl_end rfl ?_
                      refine nm_blk ?_
                      refine nm_sub [(1, _), (3, _), (4, _), (5, _), (6, _), (7, _), (8, _), (9, _)] ⟨rfl, rfl, rfl, rfl, rfl, rfl, rfl, rfl, trivial⟩ ?_
                      refine nm_thn ?_
                      refine ws_region rfl ?_
                      refine wl_op (k := 0) (k' := 1) rfl rfl rfl (wo_run rfl rfl (run_move rfl rfl) ?_)
                      refine wl_op (k := 1) (k' := 2) rfl rfl rfl (wo_run rfl rfl (run_add rfl rfl rfl (by first | omega | (simp only [List.length_set, List.length_append, List.length_replicate, List.length_singleton, List.length_cons, List.length_nil]; omega))) ?_)
                      refine wl_op (k := 2) (k' := 3) rfl rfl rfl (wo_run rfl rfl (run_assign rfl rfl) ?_)
                      refine wl_end rfl ?_
                      refine nm_lp ?_
                      intro ax_ hax_
                      refine ⟨_, ?hq8m, ⟨k + 1, _, rfl, hax_.sub ⟨rfl, rfl, rfl, rfl, rfl, rfl, rfl, rfl, trivial⟩, S47.pick [1, 2, 3] [_, _, _] (by decide) ⟨rfl, rfl, rfl, trivial⟩, ?hq8f0, ?hq8f1⟩⟩
                      case hq8f0 => omega
                      case hq8f1 => (rw [entN, ← hm]; unfold pA pB; first | (rw [if_pos (by first | exact .inl ⟨by omega, by omega⟩ | exact .inr ⟨⟨by omega, by omega⟩, by omega⟩)]; done) | (rw [if_neg (by omega)]; done))
                      case hq8m => omega
                    · have hb84 := of_decide_eq_false hb84
                      refine ws_skip rfl ?_
                      refine nm_blk ?_
                      refine nm_sub [(1, _), (3, _), (4, _), (5, _), (6, _), (7, _), (8, _), (9, _)] ⟨rfl, rfl, rfl, rfl, rfl, rfl, rfl, rfl, trivial⟩ ?_
                      refine nm_thn ?_
                      refine ws_region rfl ?_
                      refine wl_op (k := 0) (k' := 1) rfl rfl rfl (wo_run rfl rfl (run_move rfl rfl) ?_)
                      refine wl_op (k := 1) (k' := 2) rfl rfl rfl (wo_run rfl rfl (run_add rfl rfl rfl (by first | omega | (simp only [List.length_set, List.length_append, List.length_replicate, List.length_singleton, List.length_cons, List.length_nil]; omega))) ?_)
                      refine wl_op (k := 2) (k' := 3) rfl rfl rfl (wo_run rfl rfl (run_assign rfl rfl) ?_)
                      refine wl_end rfl ?_
                      refine nm_lp ?_
                      intro ax_ hax_
                      refine ⟨_, ?hq9m, ⟨k + 1, _, rfl, hax_.sub ⟨rfl, rfl, rfl, rfl, rfl, rfl, rfl, rfl, trivial⟩, S44.pick [1, 2, 3] [_, _, _] (by decide) ⟨rfl, rfl, rfl, trivial⟩, ?hq9f0, ?hq9f1⟩⟩
                      case hq9f0 => omega
                      case hq9f1 => (rw [entN, ← hm]; unfold pA pB; first | (rw [if_pos (by first | exact .inl ⟨by omega, by omega⟩ | exact .inr ⟨⟨by omega, by omega⟩, by omega⟩)]; done) | (rw [if_neg (by omega)]; done))
                      case hq9m => omega
                  · have hg79 := of_decide_eq_false hg79
                    refine wl_no (k := 7) (k' := 8) (d := 80) rfl rfl ⟨_, _, _, rfl, rfl, rfl, rfl⟩ rfl rfl ?_
                    refine wl_no (k := 8) (k' := 9) (d := 81) rfl rfl ⟨_, _, _, rfl, rfl, rfl, rfl⟩ rfl rfl ?_
                    refine wl_no (k := 9) (k' := 10) (d := 82) rfl rfl ⟨_, _, _, rfl, rfl, rfl, rfl⟩ rfl rfl ?_
                    refine wl_opG (k := 10) (k' := 11) rfl rfl ⟨_, _, _, rfl, rfl, rfl, rfl⟩ rfl (wo_run rfl rfl (run_pickF rfl rfl rfl) ?_)
                    refine wl_op (k := 11) (k' := 12) rfl rfl rfl (wo_run rfl rfl (run_pickF rfl rfl rfl) ?_)
                    refine wl_end rfl ?_
                    refine nm_sub [(1, _), (3, _), (4, _), (5, _), (6, _), (7, _), (8, _), (9, _), (10, _), (84, _)] ⟨rfl, rfl, rfl, rfl, rfl, rfl, rfl, rfl, rfl, rfl, trivial⟩ ?_
                    refine nm_thn ?_
                    refine ws_condFN LinkingOf_n65 rfl rfl rfl ?_
                    refine ws_skip rfl ?_
                    refine nm_blk ?_
                    refine nm_sub [(1, _), (3, _), (4, _), (5, _), (6, _), (7, _), (8, _), (9, _)] ⟨rfl, rfl, rfl, rfl, rfl, rfl, rfl, rfl, trivial⟩ ?_
                    refine nm_thn ?_
                    refine ws_region rfl ?_
                    refine wl_op (k := 0) (k' := 1) rfl rfl rfl (wo_run rfl rfl (run_move rfl rfl) ?_)
                    refine wl_op (k := 1) (k' := 2) rfl rfl rfl (wo_run rfl rfl (run_add rfl rfl rfl (by first | omega | (simp only [List.length_set, List.length_append, List.length_replicate, List.length_singleton, List.length_cons, List.length_nil]; omega))) ?_)
                    refine wl_op (k := 2) (k' := 3) rfl rfl rfl (wo_run rfl rfl (run_assign rfl rfl) ?_)
                    refine wl_end rfl ?_
                    refine nm_lp ?_
                    intro ax_ hax_
                    refine ⟨_, ?hq10m, ⟨k + 1, _, rfl, hax_.sub ⟨rfl, rfl, rfl, rfl, rfl, rfl, rfl, rfl, trivial⟩, S44.pick [1, 2, 3] [_, _, _] (by decide) ⟨rfl, rfl, rfl, trivial⟩, ?hq10f0, ?hq10f1⟩⟩
                    case hq10f0 => omega
                    case hq10f1 => (rw [entN, ← hm]; unfold pA pB; first | (rw [if_pos (by first | exact .inl ⟨by omega, by omega⟩ | exact .inr ⟨⟨by omega, by omega⟩, by omega⟩)]; done) | (rw [if_neg (by omega)]; done))
                    case hq10m => omega
              · have hg64 := of_decide_eq_false hg64
                refine wa_no (i := 8) (d := 65) 8 rfl (by kernel_rfl) (by kernel_rfl) (by kernel_rfl) ⟨_, _, _, rfl, rfl, rfl, rfl⟩ rfl rfl ?_
                refine wa_no (i := 9) (d := 66) 7 rfl (by kernel_rfl) (by kernel_rfl) (by kernel_rfl) ⟨_, _, _, rfl, rfl, rfl, rfl⟩ rfl rfl ?_
                refine wa_no (i := 10) (d := 67) 6 rfl (by kernel_rfl) (by kernel_rfl) (by kernel_rfl) ⟨_, _, _, rfl, rfl, rfl, rfl⟩ rfl rfl ?_
                refine wa_no (i := 11) (d := 68) 5 rfl (by kernel_rfl) (by kernel_rfl) (by kernel_rfl) ⟨_, _, _, rfl, rfl, rfl, rfl⟩ rfl rfl ?_
                refine wa_no (i := 12) (d := 69) 4 rfl (by kernel_rfl) (by kernel_rfl) (by kernel_rfl) ⟨_, _, _, rfl, rfl, rfl, rfl⟩ rfl rfl ?_
                refine wa_no (i := 13) (d := 70) 3 rfl (by kernel_rfl) (by kernel_rfl) (by kernel_rfl) ⟨_, _, _, rfl, rfl, rfl, rfl⟩ rfl rfl ?_
                refine wa_no (i := 14) (d := 71) 2 rfl (by kernel_rfl) (by kernel_rfl) (by kernel_rfl) ⟨_, _, _, rfl, rfl, rfl, rfl⟩ rfl rfl ?_
                refine wa_takeP (i := 15) (d := 72) 1 rfl (by kernel_rfl) (by kernel_rfl) (by kernel_rfl) rfl rfl rfl (fun w47 => run_pickF rfl rfl rfl) ?_
                refine wa_takeP (i := 16) (d := 13) 0 rfl (by kernel_rfl) (by kernel_rfl) (by kernel_rfl) rfl rfl rfl (fun w48 => run_assign rfl rfl) ?_
                refine wa_end (by kernel_rfl) (fun w49 S50 => ?_)
                refine nm_sub [(1, _), (3, _), (4, _), (5, _), (6, _), (7, _), (8, _), (9, _), (10, _), (11, _), (12, _), (13, _)] ⟨rfl, rfl, rfl, rfl, rfl, rfl, rfl, rfl, rfl, rfl, rfl, rfl, trivial⟩ ?_
                refine nm_thn ?_
                refine ws_seqN LinkingOf_n62 LinkingOf_n63 rfl rfl rfl ?_
                refine ws_region rfl ?_
                refine wl_op (k := 0) (k' := 1) rfl rfl rfl (wo_run rfl rfl (run_move rfl rfl) ?_)
                refine wl_op (k := 1) (k' := 2) rfl rfl rfl (wo_run rfl rfl (run_move rfl rfl) ?_)
                refine wl_split (t := 74) rfl (fun hg74 => ?_) (fun hg74 => ?_)
                · have hg74 := of_decide_eq_true hg74
                  refine wl_opG (k := 2) (k' := 3) rfl rfl ⟨_, _, _, rfl, rfl, rfl, rfl⟩ rfl (wo_run rfl rfl (run_move rfl rfl) ?_)
                  refine wl_op (k := 3) (k' := 4) rfl rfl rfl (wo_run rfl rfl (run_pickT rfl rfl rfl) ?_)
                  refine wl_op (k := 4) (k' := 5) rfl rfl rfl (wo_run rfl rfl (run_move rfl rfl) ?_)
                  refine wl_split (t := 77) rfl (fun hg77 => ?_) (fun hg77 => ?_)
                  · have hg77 := of_decide_eq_true hg77
                    refine wl_no (k := 5) (k' := 6) (d := 78) rfl rfl ⟨_, _, _, rfl, rfl, rfl, rfl⟩ rfl rfl ?_
                    refine wl_no (k := 6) (k' := 7) (d := 79) rfl rfl ⟨_, _, _, rfl, rfl, rfl, rfl⟩ rfl rfl ?_
                    refine wl_no (k := 7) (k' := 8) (d := 80) rfl rfl ⟨_, _, _, rfl, rfl, rfl, rfl⟩ rfl rfl ?_
                    refine wl_no (k := 8) (k' := 9) (d := 81) rfl rfl ⟨_, _, _, rfl, rfl, rfl, rfl⟩ rfl rfl ?_
                    refine wl_no (k := 9) (k' := 10) (d := 82) rfl rfl ⟨_, _, _, rfl, rfl, rfl, rfl⟩ rfl rfl ?_
                    refine wl_no (k := 10) (k' := 11) (d := 83) rfl rfl ⟨_, _, _, rfl, rfl, rfl, rfl⟩ rfl rfl ?_
                    refine wl_op (k := 11) (k' := 12) rfl rfl rfl (wo_run rfl rfl (run_pickT rfl rfl rfl) ?_)
                    refine wl_end rfl ?_
                    refine nm_sub [(1, _), (3, _), (4, _), (5, _), (6, _), (7, _), (8, _), (9, _), (10, _), (84, _)] ⟨rfl, rfl, rfl, rfl, rfl, rfl, rfl, rfl, rfl, rfl, trivial⟩ ?_
                    refine nm_thn ?_
                    refine ws_condTN LinkingOf_n64 rfl rfl rfl ?_
                    refine ws_region rfl ?_
                    refine wl_op (k := 0) (k' := 1) rfl rfl rfl (wo_run rfl rfl (run_move rfl rfl) ?_)
                    refine wl_op (k := 1) (k' := 2) rfl rfl rfl (wo_run rfl rfl (run_loadN (us := [_, _, _, _, _]) rfl rfl Try.underlying73 rfl sz73 (S50.boxcs (i := 0) rfl ⟨rfl, rfl, rfl, rfl, rfl, trivial⟩)) ?_)
                    refine wl_op (k := 2) (k' := 3) rfl rfl rfl (wo_cq rfl rfl rfl rfl rfl rfl rfl cf79 S50 (signOf_q (ga d.crs k)  S50.lend) ?_)
                    rintro _ w50 S51 rfl; clear S50
                    refine wl_op (k := 3) (k' := 4) rfl rfl rfl (wo_run rfl rfl (run_add rfl rfl rfl (by first | omega | (simp only [List.length_set, List.length_append, List.length_replicate, List.length_singleton, List.length_cons, List.length_nil]; omega))) ?_)
                    refine wl_op (k := 4) (k' := 5) rfl rfl rfl (wo_run rfl rfl (run_assign rfl rfl) ?_)
                    refine wl_end rfl ?_
                    refine nm_blk ?_
                    refine nm_sub [(1, _), (3, _), (4, _), (5, _), (6, _), (7, _), (8, _), (9, _)] ⟨rfl, rfl, rfl, rfl, rfl, rfl, rfl, rfl, trivial⟩ ?_
                    refine nm_thn ?_
                    refine ws_region rfl ?_
                    refine wl_op (k := 0) (k' := 1) rfl rfl rfl (wo_run rfl rfl (run_move rfl rfl) ?_)
                    refine wl_op (k := 1) (k' := 2) rfl rfl rfl (wo_run rfl rfl (run_add rfl rfl rfl (by first | omega | (simp only [List.length_set, List.length_append, List.length_replicate, List.length_singleton, List.length_cons, List.length_nil]; omega))) ?_)
                    refine wl_op (k := 2) (k' := 3) rfl rfl rfl (wo_run rfl rfl (run_assign rfl rfl) ?_)
                    refine wl_end rfl ?_
                    refine nm_lp ?_
                    intro ax_ hax_
                    refine ⟨_, ?hq11m, ⟨k + 1, _, rfl, hax_.sub ⟨rfl, rfl, rfl, rfl, rfl, rfl, rfl, rfl, trivial⟩, S51.pick [1, 2, 3] [_, _, _] (by decide) ⟨rfl, rfl, rfl, trivial⟩, ?hq11f0, ?hq11f1⟩⟩
                    case hq11f0 => omega
                    case hq11f1 => (rw [entN, ← hm]; unfold pA pB; first | (rw [if_pos (by first | exact .inl ⟨by omega, by omega⟩ | exact .inr ⟨⟨by omega, by omega⟩, by omega⟩)]; done) | (rw [if_neg (by omega)]; done))
                    case hq11m => omega
                  · have hg77 := of_decide_eq_false hg77
                    refine wl_opG (k := 5) (k' := 6) rfl rfl ⟨_, _, _, rfl, rfl, rfl, rfl⟩ rfl (wo_run rfl rfl (run_move rfl rfl) ?_)
                    refine wl_opG (k := 6) (k' := 7) rfl rfl ⟨_, _, _, rfl, rfl, rfl, rfl⟩ rfl (wo_run rfl rfl (run_move rfl rfl) ?_)
                    refine wl_no (k := 7) (k' := 8) (d := 80) rfl rfl ⟨_, _, _, rfl, rfl, rfl, rfl⟩ rfl rfl ?_
                    refine wl_no (k := 8) (k' := 9) (d := 81) rfl rfl ⟨_, _, _, rfl, rfl, rfl, rfl⟩ rfl rfl ?_
                    refine wl_no (k := 9) (k' := 10) (d := 82) rfl rfl ⟨_, _, _, rfl, rfl, rfl, rfl⟩ rfl rfl ?_
                    refine wl_opG (k := 10) (k' := 11) rfl rfl ⟨_, _, _, rfl, rfl, rfl, rfl⟩ rfl (wo_run rfl rfl (run_pickF rfl rfl rfl) ?_)
                    refine wl_op (k := 11) (k' := 12) rfl rfl rfl (wo_run rfl rfl (run_pickF rfl rfl rfl) ?_)
                    refine wl_end rfl ?_
                    refine nm_sub [(1, _), (3, _), (4, _), (5, _), (6, _), (7, _), (8, _), (9, _), (10, _), (84, _)] ⟨rfl, rfl, rfl, rfl, rfl, rfl, rfl, rfl, rfl, rfl, trivial⟩ ?_
                    refine nm_thn ?_
                    refine ws_condFN LinkingOf_n65 rfl rfl rfl ?_
                    refine ws_skip rfl ?_
                    refine nm_blk ?_
                    refine nm_sub [(1, _), (3, _), (4, _), (5, _), (6, _), (7, _), (8, _), (9, _)] ⟨rfl, rfl, rfl, rfl, rfl, rfl, rfl, rfl, trivial⟩ ?_
                    refine nm_thn ?_
                    refine ws_region rfl ?_
                    refine wl_op (k := 0) (k' := 1) rfl rfl rfl (wo_run rfl rfl (run_move rfl rfl) ?_)
                    refine wl_op (k := 1) (k' := 2) rfl rfl rfl (wo_run rfl rfl (run_add rfl rfl rfl (by first | omega | (simp only [List.length_set, List.length_append, List.length_replicate, List.length_singleton, List.length_cons, List.length_nil]; omega))) ?_)
                    refine wl_op (k := 2) (k' := 3) rfl rfl rfl (wo_run rfl rfl (run_assign rfl rfl) ?_)
                    refine wl_end rfl ?_
                    refine nm_lp ?_
                    intro ax_ hax_
                    refine ⟨_, ?hq12m, ⟨k + 1, _, rfl, hax_.sub ⟨rfl, rfl, rfl, rfl, rfl, rfl, rfl, rfl, trivial⟩, S50.pick [1, 2, 3] [_, _, _] (by decide) ⟨rfl, rfl, rfl, trivial⟩, ?hq12f0, ?hq12f1⟩⟩
                    case hq12f0 => omega
                    case hq12f1 => (rw [entN, ← hm]; unfold pA pB; first | (rw [if_pos (by first | exact .inl ⟨by omega, by omega⟩ | exact .inr ⟨⟨by omega, by omega⟩, by omega⟩)]; done) | (rw [if_neg (by omega)]; done))
                    case hq12m => omega
                · have hg74 := of_decide_eq_false hg74
                  refine wl_no (k := 2) (k' := 3) (d := 75) rfl rfl ⟨_, _, _, rfl, rfl, rfl, rfl⟩ rfl rfl ?_
                  refine wl_op (k := 3) (k' := 4) rfl rfl rfl (wo_run rfl rfl (run_pickF rfl rfl rfl) ?_)
                  refine wl_op (k := 4) (k' := 5) rfl rfl rfl (wo_run rfl rfl (run_move rfl rfl) ?_)
                  refine wl_opG (k := 5) (k' := 6) rfl rfl ⟨_, _, _, rfl, rfl, rfl, rfl⟩ rfl (wo_run rfl rfl (run_move rfl rfl) ?_)
                  refine wl_opG (k := 6) (k' := 7) rfl rfl ⟨_, _, _, rfl, rfl, rfl, rfl⟩ rfl (wo_run rfl rfl (run_move rfl rfl) ?_)
                  refine wl_no (k := 7) (k' := 8) (d := 80) rfl rfl ⟨_, _, _, rfl, rfl, rfl, rfl⟩ rfl rfl ?_
                  refine wl_no (k := 8) (k' := 9) (d := 81) rfl rfl ⟨_, _, _, rfl, rfl, rfl, rfl⟩ rfl rfl ?_
                  refine wl_no (k := 9) (k' := 10) (d := 82) rfl rfl ⟨_, _, _, rfl, rfl, rfl, rfl⟩ rfl rfl ?_
                  refine wl_opG (k := 10) (k' := 11) rfl rfl ⟨_, _, _, rfl, rfl, rfl, rfl⟩ rfl (wo_run rfl rfl (run_pickF rfl rfl rfl) ?_)
                  refine wl_op (k := 11) (k' := 12) rfl rfl rfl (wo_run rfl rfl (run_pickF rfl rfl rfl) ?_)
                  refine wl_end rfl ?_
                  refine nm_sub [(1, _), (3, _), (4, _), (5, _), (6, _), (7, _), (8, _), (9, _), (10, _), (84, _)] ⟨rfl, rfl, rfl, rfl, rfl, rfl, rfl, rfl, rfl, rfl, trivial⟩ ?_
                  refine nm_thn ?_
                  refine ws_condFN LinkingOf_n65 rfl rfl rfl ?_
                  refine ws_skip rfl ?_
                  refine nm_blk ?_
                  refine nm_sub [(1, _), (3, _), (4, _), (5, _), (6, _), (7, _), (8, _), (9, _)] ⟨rfl, rfl, rfl, rfl, rfl, rfl, rfl, rfl, trivial⟩ ?_
                  refine nm_thn ?_
                  refine ws_region rfl ?_
                  refine wl_op (k := 0) (k' := 1) rfl rfl rfl (wo_run rfl rfl (run_move rfl rfl) ?_)
                  refine wl_op (k := 1) (k' := 2) rfl rfl rfl (wo_run rfl rfl (run_add rfl rfl rfl (by first | omega | (simp only [List.length_set, List.length_append, List.length_replicate, List.length_singleton, List.length_cons, List.length_nil]; omega))) ?_)
                  refine wl_op (k := 2) (k' := 3) rfl rfl rfl (wo_run rfl rfl (run_assign rfl rfl) ?_)
                  refine wl_end rfl ?_
                  refine nm_lp ?_
                  intro ax_ hax_
                  refine ⟨_, ?hq13m, ⟨k + 1, _, rfl, hax_.sub ⟨rfl, rfl, rfl, rfl, rfl, rfl, rfl, rfl, trivial⟩, S50.pick [1, 2, 3] [_, _, _] (by decide) ⟨rfl, rfl, rfl, trivial⟩, ?hq13f0, ?hq13f1⟩⟩
                  case hq13f0 => omega
                  case hq13f1 => (rw [entN, ← hm]; unfold pA pB; first | (rw [if_pos (by first | exact .inl ⟨by omega, by omega⟩ | exact .inr ⟨⟨by omega, by omega⟩, by omega⟩)]; done) | (rw [if_neg (by omega)]; done))
                  case hq13m => omega
            · have hb35 := of_decide_eq_false hb35
              refine ws_exit rfl rfl ?_
              refine nm_sub [(1, _), (3, _), (4, _), (5, _), (6, _), (7, _), (8, _)] ⟨rfl, rfl, rfl, rfl, rfl, rfl, rfl, trivial⟩ ?_
              refine nm_thn ?_
              refine ws_seqN LinkingOf_n66 LinkingOf_n67 rfl rfl rfl ?_
              refine ws_seqN LinkingOf_n68 LinkingOf_n69 rfl rfl rfl ?_
              refine ws_region rfl ?_
              refine wl_op (k := 0) (k' := 1) rfl rfl rfl (wo_run rfl rfl (run_move rfl rfl) ?_)
              refine wl_op (k := 1) (k' := 2) rfl rfl rfl (wo_run rfl rfl (run_move rfl rfl) ?_)
              refine wl_op (k := 2) (k' := 3) rfl rfl rfl (wo_run rfl rfl (run_neq rfl rfl rfl) ?_)
              refine wl_end rfl ?_
              refine nm_sub [(1, _), (3, _), (4, _), (5, _), (6, _), (7, _), (8, _), (91, _)] ⟨rfl, rfl, rfl, rfl, rfl, rfl, rfl, rfl, trivial⟩ ?_
              refine nm_thn ?_
              refine ws_condN LinkingOf_n70 LinkingOf_n71 rfl rfl rfl rfl (fun hb91 => ?_) (fun hb91 => ?_)
              · have hb91 := of_decide_eq_true hb91
                refine ws_region rfl ?_
                refine wl_op (k := 0) (k' := 1) rfl rfl rfl (wo_run rfl rfl (run_move rfl rfl) ?_)
                refine wl_op (k := 1) (k' := 2) rfl rfl rfl (wo_run rfl rfl (run_tquo rfl rfl rfl (by decide) (tdiv2_bd _ (by omega))) ?_)
                refine wl_op (k := 2) (k' := 3) rfl rfl rfl (wo_run rfl rfl (run_assign rfl rfl) ?_)
                refine wl_end rfl ?_
                refine nm_sub [(1, _), (3, _), (4, _), (5, _), (6, _), (7, _), (8, _)] ⟨rfl, rfl, rfl, rfl, rfl, rfl, rfl, trivial⟩ ?_
                refine nm_thn ?_
                refine ws_region rfl ?_
                refine wl_op (k := 0) (k' := 1) rfl rfl rfl (wo_run rfl rfl (run_move rfl rfl) ?_)
                refine wl_op (k := 1) (k' := 2) rfl rfl rfl (wo_run rfl rfl (run_move rfl rfl) ?_)
                refine wl_op (k := 2) (k' := 3) rfl rfl rfl (wo_run rfl rfl (run_move rfl rfl) ?_)
                refine wl_op (k := 3) (k' := 4) rfl rfl rfl (wo_run rfl rfl (run_indexR (C := cdInt) (i := 0) j rfl rfl rfl sl44 S7 rfl (by first | rfl | omega) (by first | omega | (simp only [List.length_set, List.length_append, List.length_replicate, List.length_singleton, List.length_cons, List.length_nil]; omega))) ?_)
                refine wl_op (k := 4) (k' := 5) rfl rfl rfl (wo_storeR (C := cdInt) (i := 0) (e := j) (j := 0) (us := [_]) (H' := [_, _, _]) (Int.tdiv (m) (2)) rfl rfl S7 rfl (by first | omega | (simp only [List.length_set, List.length_append, List.length_replicate, List.length_singleton, List.length_cons, List.length_nil]; omega)) rfl rfl rfl sz3 rfl rfl rfl rfl ?_)
                intro w51 S52; clear S7
                refine wl_end rfl ?_
                refine nm_blk ?_
                refine nm_sub [(1, _), (3, _), (4, _), (5, _), (6, _), (7, _)] ⟨rfl, rfl, rfl, rfl, rfl, rfl, trivial⟩ ?_
                refine nm_thn ?_
                refine ws_region rfl ?_
                refine wl_op (k := 0) (k' := 1) rfl rfl rfl (wo_run rfl rfl (run_move rfl rfl) ?_)
                refine wl_op (k := 1) (k' := 2) rfl rfl rfl (wo_run rfl rfl (run_add rfl rfl rfl (by first | omega | (simp only [List.length_set, List.length_append, List.length_replicate, List.length_singleton, List.length_cons, List.length_nil]; omega))) ?_)
                refine wl_op (k := 2) (k' := 3) rfl rfl rfl (wo_run rfl rfl (run_assign rfl rfl) ?_)
                refine wl_end rfl ?_
                refine nm_lp ?_
                intro ax_ hax_
                refine ⟨_, ?hq14m, ⟨j + 1, _, _, rfl, hax_.sub ⟨rfl, rfl, rfl, rfl, rfl, rfl, trivial⟩, S52.pick [0, 1, 2] [_, _, _] (by decide) ⟨rfl, rfl, rfl, trivial⟩, ?hq14f0, ?hq14f1⟩⟩
                case hq14f0 => omega
                case hq14f1 => (obtain rfl : k = d.crs.length := (by omega); rw [hrow, ← rowE_set d (by omega)]; refine congrArg _ ?_; unfold finE; first | (rw [if_neg (by omega), hm]; done) | (rw [if_pos (by omega), hm]; done))
                case hq14m => omega
              · have hb91 := of_decide_eq_false hb91
                refine ws_skip rfl ?_
                refine nm_sub [(1, _), (3, _), (4, _), (5, _), (6, _), (7, _), (8, _)] ⟨rfl, rfl, rfl, rfl, rfl, rfl, rfl, trivial⟩ ?_
                refine nm_thn ?_
                refine ws_region rfl ?_
                refine wl_op (k := 0) (k' := 1) rfl rfl rfl (wo_run rfl rfl (run_move rfl rfl) ?_)
                refine wl_op (k := 1) (k' := 2) rfl rfl rfl (wo_run rfl rfl (run_move rfl rfl) ?_)
                refine wl_op (k := 2) (k' := 3) rfl rfl rfl (wo_run rfl rfl (run_move rfl rfl) ?_)
                refine wl_op (k := 3) (k' := 4) rfl rfl rfl (wo_run rfl rfl (run_indexR (C := cdInt) (i := 0) j rfl rfl rfl sl44 S7 rfl (by first | rfl | omega) (by first | omega | (simp only [List.length_set, List.length_append, List.length_replicate, List.length_singleton, List.length_cons, List.length_nil]; omega))) ?_)
                refine wl_op (k := 4) (k' := 5) rfl rfl rfl (wo_storeR (C := cdInt) (i := 0) (e := j) (j := 0) (us := [_]) (H' := [_, _, _]) m rfl rfl S7 rfl (by first | omega | (simp only [List.length_set, List.length_append, List.length_replicate, List.length_singleton, List.length_cons, List.length_nil]; omega)) rfl rfl rfl sz3 rfl rfl rfl rfl ?_)
                intro w52 S53; clear S7
                refine wl_end rfl ?_
                refine nm_blk ?_
                refine nm_sub [(1, _), (3, _), (4, _), (5, _), (6, _), (7, _)] ⟨rfl, rfl, rfl, rfl, rfl, rfl, trivial⟩ ?_
                refine nm_thn ?_
                refine ws_region rfl ?_
                refine wl_op (k := 0) (k' := 1) rfl rfl rfl (wo_run rfl rfl (run_move rfl rfl) ?_)
                refine wl_op (k := 1) (k' := 2) rfl rfl rfl (wo_run rfl rfl (run_add rfl rfl rfl (by first | omega | (simp only [List.length_set, List.length_append, List.length_replicate, List.length_singleton, List.length_cons, List.length_nil]; omega))) ?_)
                refine wl_op (k := 2) (k' := 3) rfl rfl rfl (wo_run rfl rfl (run_assign rfl rfl) ?_)
                refine wl_end rfl ?_
                refine nm_lp ?_
                intro ax_ hax_
                refine ⟨_, ?hq15m, ⟨j + 1, _, _, rfl, hax_.sub ⟨rfl, rfl, rfl, rfl, rfl, rfl, trivial⟩, S53.pick [0, 1, 2] [_, _, _] (by decide) ⟨rfl, rfl, rfl, trivial⟩, ?hq15f0, ?hq15f1⟩⟩
                case hq15f0 => omega
                case hq15f1 => (obtain rfl : k = d.crs.length := (by omega); rw [hrow, ← rowE_set d (by omega)]; refine congrArg _ ?_; unfold finE; first | (rw [if_neg (by omega), hm]; done) | (rw [if_pos (by omega), hm]; done))
                case hq15m => omega
        · have hb28 := of_decide_eq_false hb28
          refine ws_exit rfl rfl ?_
          refine nm_sub [(1, _), (3, _), (4, _), (5, _), (6, _)] ⟨rfl, rfl, rfl, rfl, rfl, trivial⟩ ?_
          refine nm_thn ?_
          refine ws_region rfl ?_
          refine wl_op (k := 0) (k' := 1) rfl rfl rfl (wo_run rfl rfl (run_move rfl rfl) ?_)
          refine wl_op (k := 1) (k' := 2) rfl rfl rfl (wo_run rfl rfl (run_move rfl rfl) ?_)
          obtain ⟨M38, hle40, S54, ⟨A2, c2, e1, hr6⟩⟩ := S6.pubrow (i := 0) (H' := [_, _, _]) rfl rfl (by show _ * 8 ≤ _; first | omega | (simp only [List.length_set, List.length_append, List.length_replicate, List.length_singleton, List.length_cons, List.length_nil]; omega))
          clear S6; subst e1
          replace hdcrs := hdcrs.mono (Hp.un_mono hle40 S54.mx)
          replace hr1 := hr1.mono hle40
          replace hd1 := hd1.mono hle40
          replace hdo := hdo.mono hle40
          refine wl_op (k := 2) (k' := 3) rfl rfl rfl (wo_buildSlice1 (C := (cdV 44)) (l := [_]) rfl rfl rfl rfl sl37 rfl rfl rfl rfl S54 ?_)
          intro gb3 w53 S55; clear S54
          refine wl_op (k := 3) (k' := 4) rfl rfl rfl (wo_append1 (C := (cdV 44)) (i := 2) (q := 0) (⟨A2, row.length, c2⟩ : SlV) rfl rfl rfl rfl rfl rfl rfl rfl sl37 S55 rfl rfl rfl (by show (_ + 1) * 24 ≤ _; first | omega | (simp only [List.length_set, List.length_append, List.length_replicate, List.length_singleton, List.length_cons, List.length_nil]; omega)) ?_)
          intro vro1 w54 S56; clear S55
          have S57 := S56.pick [1, 2, 3] [_, _, _] (by decide) ⟨rfl, rfl, rfl, trivial⟩; clear S56
          have hd2 := hdo.snoc (c := c2) hr6
          refine wl_op (k := 4) (k' := 5) rfl rfl rfl (wo_run rfl rfl (run_assign rfl rfl) ?_)
          refine wl_end rfl ?_
          refine nm_blk ?_
          refine nm_sub [(1, _), (3, _), (4, _), (5, _)] ⟨rfl, rfl, rfl, rfl, trivial⟩ ?_
          refine nm_thn ?_
          refine ws_region rfl ?_
          refine wl_op (k := 0) (k' := 1) rfl rfl rfl (wo_run rfl rfl (run_move rfl rfl) ?_)
          refine wl_op (k := 1) (k' := 2) rfl rfl rfl (wo_run rfl rfl (run_add rfl rfl rfl (by first | omega | (simp only [List.length_set, List.length_append, List.length_replicate, List.length_singleton, List.length_cons, List.length_nil]; omega))) ?_)
          refine wl_op (k := 2) (k' := 3) rfl rfl rfl (wo_run rfl rfl (run_assign rfl rfl) ?_)
          refine wl_end rfl ?_
          refine nm_lp ?_
          intro ax_ hax_
          refine ⟨_, ?hq16m, ⟨i + 1, (outc ++ [row]), _, _, _, (hle2.trans hle40), rfl, hax_.sub ⟨rfl, rfl, rfl, rfl, trivial⟩, S57.pick [1, 2] [_, _] (by decide) ⟨rfl, rfl, trivial⟩, ?hq16f0, ?hq16f1, ?hq16f2⟩⟩
          case hq16f0 => omega
          case hq16f1 => (obtain rfl : j = (strandsL d).length := (by omega); rw [hoc, hrow, rowE_all d i (by omega), take_ga _ _ (by unfold lnkL; rw [tbl_len]; omega)])
          case hq16f2 => exact hd2
          case hq16m => omega
    · have hb19 := of_decide_eq_false hb19
      refine ws_exit rfl rfl ?_
      refine nm_sub [(4, _)] ⟨rfl, trivial⟩ ?_
      refine nm_thn ?_
      refine ws_seqN LinkingOf_n72 LinkingOf_n73 rfl rfl rfl ?_
      refine ws_region rfl ?_
      refine wl_op (k := 0) (k' := 1) rfl rfl rfl (wo_run rfl rfl (run_move rfl rfl) ?_)
      refine wl_op (k := 1) (k' := 2) rfl rfl rfl (wo_run rfl rfl (run_assign rfl rfl) ?_)
      refine wl_end rfl ?_
      refine nm_sub [(2, _)] ⟨rfl, trivial⟩ ?_
      refine nm_thn ?_
      obtain ⟨M39, hle41, S58, ⟨A3, c3, e2, hr7⟩⟩ := S4.pubrow (i := 0) (H' := [_, _]) rfl rfl (by show _ * 24 ≤ _; first | omega | (simp only [List.length_set, List.length_append, List.length_replicate, List.length_singleton, List.length_cons, List.length_nil]; omega))
      clear S4; subst e2
      replace hdcrs := hdcrs.mono (Hp.un_mono hle41 S58.mx)
      replace hr1 := hr1.mono hle41
      replace hd1 := hd1.mono hle41
      replace hdo := hdo.mono hle41
      refine ws_ret hC [_] rfl rfl ⟨rfl, trivial⟩ ?_
      refine ⟨_, rfl, _, (hle1.trans hle2).trans hle41, (S58.pick [] [] (by decide) trivial), ?_⟩
      obtain rfl : i = (strandsL d).length := by omega
      have e2 : lnkL d = outc := by (rw [hoc, List.take_of_length_le (by unfold lnkL; rw [tbl_len]; omega)])
      rw [e2]
      exact ⟨_, _, _, rfl, hr7, hdo⟩


theorem wnd_no {d : Dg} (h : errO d ≠ 0) : writheR d = 0 ∧ lnkR d = [] ∧ circR d = [] := by
  unfold writheR lnkR circR
  rw [if_neg h, if_neg h, if_neg h]
  exact ⟨rfl, rfl, rfl⟩
theorem wnd_ok {d : Dg} (h : errO d = 0) : writheR d = turns d ∧ lnkR d = lnkL d ∧ circR d = circL d := by
  unfold writheR lnkR circR
  rw [if_pos h, if_pos h, if_pos h]
  exact ⟨rfl, rfl, rfl⟩

noncomputable def WindTells_n0 : Code := Try.f11.body.getD .skip
noncomputable def WindTells_n1 : Code := cL WindTells_n0
noncomputable def WindTells_n2 : Code := cR WindTells_n0
noncomputable def WindTells_n3 : Code := cL WindTells_n2
noncomputable def WindTells_n4 : Code := cR WindTells_n2
noncomputable def WindTells_n5 : Code := cL WindTells_n4
noncomputable def WindTells_n6 : Code := cR WindTells_n4
noncomputable def WindTells_n7 : Code := cL WindTells_n6
noncomputable def WindTells_n8 : Code := cR WindTells_n6
noncomputable def WindTells_n9 : Code := cL WindTells_n8
noncomputable def WindTells_n10 : Code := cR WindTells_n8
noncomputable def WindTells_n11 : Code := cL WindTells_n10
noncomputable def WindTells_n12 : Code := cR WindTells_n10
noncomputable def WindTells_n13 : Code := cL WindTells_n11
noncomputable def WindTells_n14 : Code := cR WindTells_n11
noncomputable def WindTells_n15 : Code := cL WindTells_n14
noncomputable def WindTells_n16 : Code := cR WindTells_n14
noncomputable def WindTells_n17 : Code := cL WindTells_n15
noncomputable def WindTells_n18 : Code := cR WindTells_n15
noncomputable def WindTells_n19 : Code := cL WindTells_n12
noncomputable def WindTells_n20 : Code := cR WindTells_n12
set_option maxHeartbeats 1000000 in
set_option maxRecDepth 10000 in
theorem WindTells_t {w : World} {M : Hp} {X : Fr} (d : Dg) {dcrsA : Option Addr} {dcrsc : Nat} (hdcrs : RdA cdCr M dcrsA dcrsc d.crs) (S : SH w M X []) : Ct Try.prog 11 [.agg [.slice dcrsA d.crs.length dcrsc, .int .i64 d.loops].toArray] w M X (fun u _ => u = .bool true) := by
  unfold Ct
  have rmhdcrs : d.crs.length * 40 ≤ 140737488355328 := hdcrs.room
  refine calls_in (b := WindTells_n0) Try.func11 rfl Try.ntmps11 rfl (fun C hC => ?_)
  refine ws_sub [(0, _)] ⟨rfl, trivial⟩ ?_
  refine ws_seqN WindTells_n1 WindTells_n2 rfl rfl rfl ?_
  refine ws_region rfl ?_
  refine wl_op (k := 0) (k' := 1) rfl rfl rfl (wo_box (l := [_, _]) rfl rfl rfl rfl rfl S ?_)
  intro gb1 w1 S1; clear S
  refine wl_op (k := 1) (k' := 2) rfl rfl rfl (wo_run rfl rfl (run_assign rfl rfl) ?_)
  refine wl_end rfl ?_
  refine nm_sub [(1, _)] ⟨rfl, trivial⟩ ?_
  refine nm_thn ?_
  refine ws_seqN WindTells_n3 WindTells_n4 rfl rfl rfl ?_
  refine ws_region rfl ?_
  refine wl_op (k := 0) (k' := 1) rfl rfl rfl (wo_run rfl rfl (run_loadN (us := [_, _]) rfl rfl Try.underlying27 rfl sz27 (S1.boxcs (i := 0) rfl ⟨rfl, rfl, trivial⟩)) ?_)
  refine wl_op (k := 1) (k' := 2) rfl rfl rfl (wo_ct rfl rfl rfl rfl rfl rfl rfl cf16 S1 (DiagramOf_t d (hdcrs.mono (Hp.le_un _ _)) S1.lend) ?_)
  intro vw2 w2 M1 hle1 S2 hRw2; clear S1
  replace hdcrs := hdcrs.mono hle1
  obtain ⟨A1, c1, rfl, hr1⟩ := hRw2
  refine wl_op (k := 2) (k' := 3) rfl rfl rfl (wo_ct rfl rfl rfl rfl rfl rfl rfl cf44 S2 (Writhe_t d (hr1.mono (Hp.le_un _ _)) S2.lend) ?_)
  intro vw3 w3 M2 hle2 S3 hRw3; clear S2
  replace hdcrs := hdcrs.mono hle2
  replace hr1 := hr1.mono hle2
  obtain rfl := hRw3
  refine wl_op (k := 3) (k' := 4) rfl rfl rfl (wo_run rfl rfl (run_move rfl rfl) ?_)
  refine wl_op (k := 4) (k' := 5) rfl rfl rfl (wo_run rfl rfl (run_extract rfl rfl rfl) ?_)
  refine wl_op (k := 5) (k' := 6) rfl rfl rfl (wo_run rfl rfl (run_extract rfl rfl rfl) ?_)
  refine wl_op (k := 6) (k' := 7) rfl rfl rfl (wo_run rfl rfl (run_assign rfl rfl) ?_)
  refine wl_op (k := 7) (k' := 8) rfl rfl rfl (wo_run rfl rfl (run_assign rfl rfl) ?_)
  refine wl_end rfl ?_
  refine nm_sub [(1, _), (3, _), (4, _)] ⟨rfl, rfl, rfl, trivial⟩ ?_
  refine nm_thn ?_
  refine ws_seqN WindTells_n5 WindTells_n6 rfl rfl rfl ?_
  refine ws_region rfl ?_
  refine wl_op (k := 0) (k' := 1) rfl rfl rfl (wo_run rfl rfl (run_loadN (us := [_, _]) rfl rfl Try.underlying27 rfl sz27 (S3.boxcs (i := 0) rfl ⟨rfl, rfl, trivial⟩)) ?_)
  refine wl_op (k := 1) (k' := 2) rfl rfl rfl (wo_ct rfl rfl rfl rfl rfl rfl rfl cf16 S3 (DiagramOf_t d (hdcrs.mono (Hp.le_un _ _)) S3.lend) ?_)
  intro vw4 w4 M3 hle3 S4 hRw4; clear S3
  replace hdcrs := hdcrs.mono hle3
  replace hr1 := hr1.mono hle3
  obtain ⟨A2, c2, rfl, hr2⟩ := hRw4
  refine wl_op (k := 2) (k' := 3) rfl rfl rfl (wo_ct rfl rfl rfl rfl rfl rfl rfl cf45 S4 (Linking_t d (hr2.mono (Hp.le_un _ _)) S4.lend) ?_)
  intro vw5 w5 M4 hle4 S5 hRw5; clear S4
  replace hdcrs := hdcrs.mono hle4
  replace hr1 := hr1.mono hle4
  replace hr2 := hr2.mono hle4
  obtain ⟨A3, c3, vs1, rfl, hr3, hd1⟩ := hRw5
  have hlenlnkR := hd1.1
  refine wl_op (k := 3) (k' := 4) rfl rfl rfl (wo_run rfl rfl (run_move rfl rfl) ?_)
  refine wl_op (k := 4) (k' := 5) rfl rfl rfl (wo_run rfl rfl (run_extract rfl rfl rfl) ?_)
  refine wl_op (k := 5) (k' := 6) rfl rfl rfl (wo_run rfl rfl (run_extract rfl rfl rfl) ?_)
  refine wl_op (k := 6) (k' := 7) rfl rfl rfl (wo_run rfl rfl (run_assign rfl rfl) ?_)
  refine wl_op (k := 7) (k' := 8) rfl rfl rfl (wo_run rfl rfl (run_assign rfl rfl) ?_)
  refine wl_end rfl ?_
  refine nm_sub [(1, _), (3, _), (4, _), (5, _), (6, _)] ⟨rfl, rfl, rfl, rfl, rfl, trivial⟩ ?_
  refine nm_thn ?_
  refine ws_seqN WindTells_n7 WindTells_n8 rfl rfl rfl ?_
  refine ws_region rfl ?_
  refine wl_op (k := 0) (k' := 1) rfl rfl rfl (wo_run rfl rfl (run_loadN (us := [_, _]) rfl rfl Try.underlying27 rfl sz27 (S5.boxcs (i := 0) rfl ⟨rfl, rfl, trivial⟩)) ?_)
  refine wl_op (k := 1) (k' := 2) rfl rfl rfl (wo_ct rfl rfl rfl rfl rfl rfl rfl cf16 S5 (DiagramOf_t d (hdcrs.mono (Hp.le_un _ _)) S5.lend) ?_)
  intro vw6 w6 M5 hle5 S6 hRw6; clear S5
  replace hdcrs := hdcrs.mono hle5
  replace hr1 := hr1.mono hle5
  replace hr2 := hr2.mono hle5
  replace hr3 := hr3.mono hle5
  replace hd1 := hd1.mono hle5
  obtain ⟨A4, c4, rfl, hr4⟩ := hRw6
  refine wl_op (k := 2) (k' := 3) rfl rfl rfl (wo_ct rfl rfl rfl rfl rfl rfl rfl cf46 S6 (WCircles_t d (hr4.mono (Hp.le_un _ _)) S6.lend) ?_)
  intro vw7 w7 M6 hle6 S7 hRw7; clear S6
  replace hdcrs := hdcrs.mono hle6
  replace hr1 := hr1.mono hle6
  replace hr2 := hr2.mono hle6
  replace hr3 := hr3.mono hle6
  replace hd1 := hd1.mono hle6
  replace hr4 := hr4.mono hle6
  obtain ⟨A5, c5, vs2, rfl, hr5, hd2⟩ := hRw7
  have hlencircR := hd2.1
  refine wl_op (k := 3) (k' := 4) rfl rfl rfl (wo_run rfl rfl (run_move rfl rfl) ?_)
  refine wl_op (k := 4) (k' := 5) rfl rfl rfl (wo_run rfl rfl (run_extract rfl rfl rfl) ?_)
  refine wl_op (k := 5) (k' := 6) rfl rfl rfl (wo_run rfl rfl (run_extract rfl rfl rfl) ?_)
  refine wl_op (k := 6) (k' := 7) rfl rfl rfl (wo_run rfl rfl (run_assign rfl rfl) ?_)
  refine wl_op (k := 7) (k' := 8) rfl rfl rfl (wo_run rfl rfl (run_assign rfl rfl) ?_)
  refine wl_end rfl ?_
  refine nm_sub [(1, _), (3, _), (4, _), (5, _), (6, _), (7, _), (8, _)] ⟨rfl, rfl, rfl, rfl, rfl, rfl, rfl, trivial⟩ ?_
  refine nm_thn ?_
  refine ws_seqN WindTells_n9 WindTells_n10 rfl rfl rfl ?_
  refine ws_region rfl ?_
  refine wl_op (k := 0) (k' := 1) rfl rfl rfl (wo_run rfl rfl (run_loadN (us := [_, _]) rfl rfl Try.underlying27 rfl sz27 (S7.boxcs (i := 0) rfl ⟨rfl, rfl, trivial⟩)) ?_)
  refine wl_op (k := 1) (k' := 2) rfl rfl rfl (wo_ct rfl rfl rfl rfl rfl rfl rfl cf39 S7 (PlanarMay_t d (hdcrs.mono (Hp.le_un _ _)) S7.lend) ?_)
  intro vw8 w8 M7 hle7 S8 hRw8; clear S7
  replace hdcrs := hdcrs.mono hle7
  replace hr1 := hr1.mono hle7
  replace hr2 := hr2.mono hle7
  replace hr3 := hr3.mono hle7
  replace hd1 := hd1.mono hle7
  replace hr4 := hr4.mono hle7
  replace hr5 := hr5.mono hle7
  replace hd2 := hd2.mono hle7
  obtain rfl := hRw8
  refine wl_op (k := 2) (k' := 3) rfl rfl rfl (wo_run rfl rfl (run_assign rfl rfl) ?_)
  refine wl_end rfl ?_
  refine nm_sub [(1, _), (3, _), (4, _), (5, _), (6, _), (7, _), (8, _), (9, _)] ⟨rfl, rfl, rfl, rfl, rfl, rfl, rfl, rfl, trivial⟩ ?_
  refine nm_thn ?_
  refine ws_seqN WindTells_n11 WindTells_n12 rfl rfl rfl ?_
  refine ws_seqN WindTells_n13 WindTells_n14 rfl rfl rfl ?_
  refine ws_region rfl ?_
  refine wl_op (k := 0) (k' := 1) rfl rfl rfl (wo_run rfl rfl (run_move rfl rfl) ?_)
  refine wl_op (k := 1) (k' := 2) rfl rfl rfl (wo_run rfl rfl (run_neq rfl rfl rfl) ?_)
  refine wl_end rfl ?_
  refine nm_sub [(1, _), (3, _), (4, _), (5, _), (6, _), (7, _), (8, _), (9, _), (31, _)] ⟨rfl, rfl, rfl, rfl, rfl, rfl, rfl, rfl, rfl, trivial⟩ ?_
  refine nm_thn ?_
  refine ws_condN WindTells_n15 WindTells_n16 rfl rfl rfl rfl (fun hb31 => ?_) (fun hb31 => ?_)
  · have hb31 := of_decide_eq_true hb31
    obtain ⟨e1, e2, e3⟩ := wnd_no hb31
    rw [e2] at hlenlnkR
    rw [e3] at hlencircR
    replace hlenlnkR := hlenlnkR.trans List.length_nil
    replace hlencircR := hlencircR.trans List.length_nil
    refine ws_seqN WindTells_n17 WindTells_n18 rfl rfl rfl ?_
    refine ws_region rfl ?_
    refine wl_op (k := 0) (k' := 1) rfl rfl rfl (wo_run rfl rfl (run_move rfl rfl) ?_)
    refine wl_op (k := 1) (k' := 2) rfl rfl rfl (wo_run rfl rfl (run_move rfl rfl) ?_)
    refine wl_op (k := 2) (k' := 3) rfl rfl rfl (wo_run rfl rfl (run_eql rfl rfl rfl) ?_)
    refine wl_op (k := 3) (k' := 4) rfl rfl rfl (wo_run rfl rfl (run_move rfl rfl) ?_)
    refine wl_split (t := 35) rfl (fun hg35 => ?_) (fun hg35 => ?_)
    · have hg35 := of_decide_eq_true hg35
      refine wl_opG (k := 4) (k' := 5) rfl rfl ⟨_, _, _, rfl, rfl, rfl, rfl⟩ rfl (wo_run rfl rfl (run_move rfl rfl) ?_)
      refine wl_opG (k := 5) (k' := 6) rfl rfl ⟨_, _, _, rfl, rfl, rfl, rfl⟩ rfl (wo_run rfl rfl (run_move rfl rfl) ?_)
      refine wl_opG (k := 6) (k' := 7) rfl rfl ⟨_, _, _, rfl, rfl, rfl, rfl⟩ rfl (wo_run rfl rfl (run_eql rfl rfl rfl) ?_)
      refine wl_op (k := 7) (k' := 8) rfl rfl rfl (wo_run rfl rfl (run_pickT rfl rfl rfl) ?_)
      refine wl_op (k := 8) (k' := 9) rfl rfl rfl (wo_run rfl rfl (run_move rfl rfl) ?_)
      refine wl_split (t := 40) rfl (fun hg40 => ?_) (fun hg40 => ?_)
      · have hg40 := of_decide_eq_true hg40
        refine wl_opG (k := 9) (k' := 10) rfl rfl ⟨_, _, _, rfl, rfl, rfl, rfl⟩ rfl (wo_run rfl rfl (run_move rfl rfl) ?_)
        refine wl_opG (k := 10) (k' := 11) rfl rfl ⟨_, _, _, rfl, rfl, rfl, rfl⟩ rfl (wo_run rfl rfl (run_move rfl rfl) ?_)
        refine wl_opG (k := 11) (k' := 12) rfl rfl ⟨_, _, _, rfl, rfl, rfl, rfl⟩ rfl (wo_run rfl rfl (run_eql rfl rfl rfl) ?_)
        refine wl_op (k := 12) (k' := 13) rfl rfl rfl (wo_run rfl rfl (run_pickT rfl rfl rfl) ?_)
        refine wl_op (k := 13) (k' := 14) rfl rfl rfl (wo_run rfl rfl (run_move rfl rfl) ?_)
        refine wl_split (t := 45) rfl (fun hg45 => ?_) (fun hg45 => ?_)
        · have hg45 := of_decide_eq_true hg45
          refine wl_opG (k := 14) (k' := 15) rfl rfl ⟨_, _, _, rfl, rfl, rfl, rfl⟩ rfl (wo_run rfl rfl (run_move rfl rfl) ?_)
          refine wl_opG (k := 15) (k' := 16) rfl rfl ⟨_, _, _, rfl, rfl, rfl, rfl⟩ rfl (wo_run rfl rfl (run_eql rfl rfl rfl) ?_)
          refine wl_op (k := 16) (k' := 17) rfl rfl rfl (wo_run rfl rfl (run_pickT rfl rfl rfl) ?_)
          refine wl_op (k := 17) (k' := 18) rfl rfl rfl (wo_run rfl rfl (run_move rfl rfl) ?_)
          refine wl_split (t := 49) rfl (fun hg49 => ?_) (fun hg49 => ?_)
          · have hg49 := of_decide_eq_true hg49
            refine wl_opG (k := 18) (k' := 19) rfl rfl ⟨_, _, _, rfl, rfl, rfl, rfl⟩ rfl (wo_run rfl rfl (run_move rfl rfl) ?_)
            refine wl_opG (k := 19) (k' := 20) rfl rfl ⟨_, _, _, rfl, rfl, rfl, rfl⟩ rfl (wo_run rfl rfl (run_len rfl rfl rfl rfl rfl rfl Try.underlying37) ?_)
            refine wl_opG (k := 20) (k' := 21) rfl rfl ⟨_, _, _, rfl, rfl, rfl, rfl⟩ rfl (wo_run rfl rfl (run_eql rfl rfl rfl) ?_)
            refine wl_op (k := 21) (k' := 22) rfl rfl rfl (wo_run rfl rfl (run_pickT rfl rfl rfl) ?_)
            refine wl_op (k := 22) (k' := 23) rfl rfl rfl (wo_run rfl rfl (run_move rfl rfl) ?_)
            refine wl_split (t := 54) rfl (fun hg54 => ?_) (fun hg54 => ?_)
            · have hg54 := of_decide_eq_true hg54
              refine wl_opG (k := 23) (k' := 24) rfl rfl ⟨_, _, _, rfl, rfl, rfl, rfl⟩ rfl (wo_run rfl rfl (run_move rfl rfl) ?_)
              refine wl_opG (k := 24) (k' := 25) rfl rfl ⟨_, _, _, rfl, rfl, rfl, rfl⟩ rfl (wo_run rfl rfl (run_len rfl rfl rfl rfl rfl rfl Try.underlying37) ?_)
              refine wl_opG (k := 25) (k' := 26) rfl rfl ⟨_, _, _, rfl, rfl, rfl, rfl⟩ rfl (wo_run rfl rfl (run_eql rfl rfl rfl) ?_)
              refine wl_op (k := 26) (k' := 27) rfl rfl rfl (wo_run rfl rfl (run_pickT rfl rfl rfl) ?_)
              refine wl_op (k := 27) (k' := 28) rfl rfl rfl (wo_run rfl rfl (run_assign rfl rfl) ?_)
              refine wl_end rfl ?_
              refine nm_sub [(2, _)] ⟨rfl, trivial⟩ ?_
              refine nm_thn ?_
              refine ws_ret hC [_] rfl rfl ⟨rfl, trivial⟩ ?_
              refine ⟨_, rfl, _, (((((hle1.trans hle2).trans hle3).trans hle4).trans hle5).trans hle6).trans hle7, (S8.pick [] [] (by decide) trivial), ?_⟩
              show Value.bool _ = _
              refine congrArg Value.bool ?_
              first | rfl | (rw [decide_eq_true_iff]; omega) | (simp_all; done)
            · have hg54 := of_decide_eq_false hg54
              exfalso; first | omega | (simp_all; done) | contradiction
          · have hg49 := of_decide_eq_false hg49
            exfalso; first | omega | (simp_all; done) | contradiction
        · have hg45 := of_decide_eq_false hg45
          exfalso; first | omega | (simp_all; done) | contradiction
      · have hg40 := of_decide_eq_false hg40
        exfalso; first | omega | (simp_all; done) | contradiction
    · have hg35 := of_decide_eq_false hg35
      exfalso; first | omega | (simp_all; done) | contradiction
  · have hb31 := of_decide_eq_false hb31
    have h0 : errO d = 0 := by omega
    obtain ⟨e1, hlk, hck⟩ := wnd_ok h0
    refine ws_skip rfl ?_
    refine nm_sub [(1, _), (3, _), (4, _), (5, _), (6, _), (7, _), (8, _), (9, _)] ⟨rfl, rfl, rfl, rfl, rfl, rfl, rfl, rfl, trivial⟩ ?_
    refine nm_thn ?_
    refine ws_seqN WindTells_n19 WindTells_n20 rfl rfl rfl ?_
    refine ws_region rfl ?_
    refine wl_op (k := 0) (k' := 1) rfl rfl rfl (wo_run rfl rfl (run_move rfl rfl) ?_)
    refine wl_op (k := 1) (k' := 2) rfl rfl rfl (wo_run rfl rfl (run_move rfl rfl) ?_)
    refine wl_op (k := 2) (k' := 3) rfl rfl rfl (wo_run rfl rfl (run_eql rfl rfl rfl) ?_)
    refine wl_op (k := 3) (k' := 4) rfl rfl rfl (wo_run rfl rfl (run_move rfl rfl) ?_)
    refine wl_split (t := 62) rfl (fun hg62 => ?_) (fun hg62 => ?_)
    · have hg62 := of_decide_eq_true hg62
      refine wl_opG (k := 4) (k' := 5) rfl rfl ⟨_, _, _, rfl, rfl, rfl, rfl⟩ rfl (wo_run rfl rfl (run_move rfl rfl) ?_)
      refine wl_opG (k := 5) (k' := 6) rfl rfl ⟨_, _, _, rfl, rfl, rfl, rfl⟩ rfl (wo_run rfl rfl (run_move rfl rfl) ?_)
      refine wl_opG (k := 6) (k' := 7) rfl rfl ⟨_, _, _, rfl, rfl, rfl, rfl⟩ rfl (wo_run rfl rfl (run_eql rfl rfl rfl) ?_)
      refine wl_op (k := 7) (k' := 8) rfl rfl rfl (wo_run rfl rfl (run_pickT rfl rfl rfl) ?_)
      refine wl_op (k := 8) (k' := 9) rfl rfl rfl (wo_run rfl rfl (run_move rfl rfl) ?_)
      refine wl_split (t := 67) rfl (fun hg67 => ?_) (fun hg67 => ?_)
      · have hg67 := of_decide_eq_true hg67
        refine wl_opG (k := 9) (k' := 10) rfl rfl ⟨_, _, _, rfl, rfl, rfl, rfl⟩ rfl (wo_run rfl rfl (run_move rfl rfl) ?_)
        refine wl_opG (k := 10) (k' := 11) rfl rfl ⟨_, _, _, rfl, rfl, rfl, rfl⟩ rfl (wo_run rfl rfl (run_move rfl rfl) ?_)
        refine wl_opG (k := 11) (k' := 12) rfl rfl ⟨_, _, _, rfl, rfl, rfl, rfl⟩ rfl (wo_run rfl rfl (run_eql rfl rfl rfl) ?_)
        refine wl_op (k := 12) (k' := 13) rfl rfl rfl (wo_run rfl rfl (run_pickT rfl rfl rfl) ?_)
        refine wl_op (k := 13) (k' := 14) rfl rfl rfl (wo_run rfl rfl (run_move rfl rfl) ?_)
        refine wl_split (t := 72) rfl (fun hg72 => ?_) (fun hg72 => ?_)
        · have hg72 := of_decide_eq_true hg72
          refine wl_opG (k := 14) (k' := 15) rfl rfl ⟨_, _, _, rfl, rfl, rfl, rfl⟩ rfl (wo_run rfl rfl (run_move rfl rfl) ?_)
          refine wl_opG (k := 15) (k' := 16) rfl rfl ⟨_, _, _, rfl, rfl, rfl, rfl⟩ rfl (wo_run rfl rfl (run_loadN (us := [_, _]) rfl rfl Try.underlying27 rfl sz27 (S8.boxcs (i := 0) rfl ⟨rfl, rfl, trivial⟩)) ?_)
          refine wl_opG (k := 16) (k' := 17) rfl rfl ⟨_, _, _, rfl, rfl, rfl, rfl⟩ rfl (wo_cq rfl rfl rfl rfl rfl rfl rfl cf47 S8 (WritheOf_q d (hdcrs.mono (Hp.le_un _ _)) ((mayO (errO_ok (by omega)).1).1) S8.lend) ?_)
          rintro _ w9 S9 rfl; clear S8
          refine wl_opG (k := 17) (k' := 18) rfl rfl ⟨_, _, _, rfl, rfl, rfl, rfl⟩ rfl (wo_run rfl rfl (run_eql rfl rfl rfl) ?_)
          refine wl_op (k := 18) (k' := 19) rfl rfl rfl (wo_run rfl rfl (run_pickT rfl rfl rfl) ?_)
          refine wl_op (k := 19) (k' := 20) rfl rfl rfl (wo_run rfl rfl (run_move rfl rfl) ?_)
          refine wl_split (t := 78) rfl (fun hg78 => ?_) (fun hg78 => ?_)
          · have hg78 := of_decide_eq_true hg78
            refine wl_opG (k := 20) (k' := 21) rfl rfl ⟨_, _, _, rfl, rfl, rfl, rfl⟩ rfl (wo_run rfl rfl (run_move rfl rfl) ?_)
            refine wl_opG (k := 21) (k' := 22) rfl rfl ⟨_, _, _, rfl, rfl, rfl, rfl⟩ rfl (wo_run rfl rfl (run_loadN (us := [_, _]) rfl rfl Try.underlying27 rfl sz27 (S9.boxcs (i := 0) rfl ⟨rfl, rfl, trivial⟩)) ?_)
            refine wl_opG (k := 22) (k' := 23) rfl rfl ⟨_, _, _, rfl, rfl, rfl, rfl⟩ rfl (wo_ct rfl rfl rfl rfl rfl rfl rfl cf49 S9 (LinkingOf_t d (hdcrs.mono (Hp.le_un _ _)) ((mayO (errO_ok (by omega)).1).1) ((mayO (errO_ok (by omega)).1).2.1) S9.lend) ?_)
            intro vw10 w10 M8 hle8 S10 hRw10; clear S9
            replace hdcrs := hdcrs.mono hle8
            replace hr1 := hr1.mono hle8
            replace hr2 := hr2.mono hle8
            replace hr3 := hr3.mono hle8
            replace hd1 := hd1.mono hle8
            replace hr4 := hr4.mono hle8
            replace hr5 := hr5.mono hle8
            replace hd2 := hd2.mono hle8
            obtain ⟨A6, c6, vs3, rfl, hr6, hd3⟩ := hRw10
            have hlenlnkL := hd3.1
            refine wl_opG (k := 23) (k' := 24) rfl rfl ⟨_, _, _, rfl, rfl, rfl, rfl⟩ rfl (wo_cq rfl rfl rfl rfl rfl rfl rfl cf48 S10 (sameTables_q (lnkR d) (lnkL d) (hr3.mono (Hp.le_un _ _)) (hd1.mono (Hp.le_un _ _)) (hr6.mono (Hp.le_un _ _)) (hd3.mono (Hp.le_un _ _)) ((by first | exact hlk | exact hck)) S10.lend) ?_)
            rintro _ w11 S11 rfl; clear S10
            refine wl_op (k := 24) (k' := 25) rfl rfl rfl (wo_run rfl rfl (run_pickT rfl rfl rfl) ?_)
            refine wl_op (k := 25) (k' := 26) rfl rfl rfl (wo_run rfl rfl (run_move rfl rfl) ?_)
            refine wl_opG (k := 26) (k' := 27) rfl rfl ⟨_, _, _, rfl, rfl, rfl, rfl⟩ rfl (wo_run rfl rfl (run_move rfl rfl) ?_)
            refine wl_opG (k := 27) (k' := 28) rfl rfl ⟨_, _, _, rfl, rfl, rfl, rfl⟩ rfl (wo_run rfl rfl (run_loadN (us := [_, _]) rfl rfl Try.underlying27 rfl sz27 (S11.boxcs (i := 0) rfl ⟨rfl, rfl, trivial⟩)) ?_)
            refine wl_opG (k := 28) (k' := 29) rfl rfl ⟨_, _, _, rfl, rfl, rfl, rfl⟩ rfl (wo_ct rfl rfl rfl rfl rfl rfl rfl cf50 S11 (CirclesOf_t d (hdcrs.mono (Hp.le_un _ _)) ((mayO (errO_ok (by omega)).1).1) ((mayO (errO_ok (by omega)).1).2.1) S11.lend) ?_)
            intro vw12 w12 M9 hle9 S12 hRw12; clear S11
            replace hdcrs := hdcrs.mono hle9
            replace hr1 := hr1.mono hle9
            replace hr2 := hr2.mono hle9
            replace hr3 := hr3.mono hle9
            replace hd1 := hd1.mono hle9
            replace hr4 := hr4.mono hle9
            replace hr5 := hr5.mono hle9
            replace hd2 := hd2.mono hle9
            replace hr6 := hr6.mono hle9
            replace hd3 := hd3.mono hle9
            obtain ⟨A7, c7, vs4, rfl, hr7, hd4⟩ := hRw12
            have hlencircL := hd4.1
            refine wl_opG (k := 29) (k' := 30) rfl rfl ⟨_, _, _, rfl, rfl, rfl, rfl⟩ rfl (wo_cq rfl rfl rfl rfl rfl rfl rfl cf48 S12 (sameTables_q (circR d) (circL d) (hr5.mono (Hp.le_un _ _)) (hd2.mono (Hp.le_un _ _)) (hr7.mono (Hp.le_un _ _)) (hd4.mono (Hp.le_un _ _)) ((by first | exact hlk | exact hck)) S12.lend) ?_)
            rintro _ w13 S13 rfl; clear S12
            refine wl_op (k := 30) (k' := 31) rfl rfl rfl (wo_run rfl rfl (run_pickT rfl rfl rfl) ?_)
            refine wl_op (k := 31) (k' := 32) rfl rfl rfl (wo_run rfl rfl (run_assign rfl rfl) ?_)
            refine wl_end rfl ?_
            refine nm_sub [(2, _)] ⟨rfl, trivial⟩ ?_
            refine nm_thn ?_
            refine ws_ret hC [_] rfl rfl ⟨rfl, trivial⟩ ?_
            refine ⟨_, rfl, _, (((((((hle1.trans hle2).trans hle3).trans hle4).trans hle5).trans hle6).trans hle7).trans hle8).trans hle9, (S13.pick [] [] (by decide) trivial), ?_⟩
            show Value.bool _ = _
            refine congrArg Value.bool ?_
            first | rfl | (rw [decide_eq_true_iff]; omega) | (simp_all; done)
          · have hg78 := of_decide_eq_false hg78
            exfalso; first | omega | (simp_all; done) | contradiction
        · have hg72 := of_decide_eq_false hg72
          exfalso; first | omega | (simp_all; done) | contradiction
      · have hg67 := of_decide_eq_false hg67
        exfalso; first | omega | (simp_all; done) | contradiction
    · have hg62 := of_decide_eq_false hg62
      exfalso; first | omega | (simp_all; done) | contradiction


end Go.Proofs.Ytlbpgnimpcflaaa
