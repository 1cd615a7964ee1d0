/- Part 8 of the proof of the law AlexTables: the walks through its functions and the plain laws that they need. -/
import Derived.Test.YtkcighnochjlgaaAlTZ7
import Derived.Lib.AppendZeros
set_option linter.unusedSimpArgs false
set_option linter.unusedVariables false
namespace Go.Proofs.Ytkcighnochjlgaa
open Go.ChangeShapes Go.WideShapes Go.ChangeAt Go.RowKit
theorem pr_append (a b : List Tm) : pr (a ++ b) = pr a ++ pr b := List.map_append
theorem mk_take {b : List Tm} {i : Nat} (h : i < b.length) : mk (pr (b.take (i + 1))) = mk (pr (b.take i)) + mono (ga b i).e (ga b i).c := by
  rw [take_ga b i h, pr_append, mk_append]
  show mk (pr (b.take i)) + (mono (ga b i).e (ga b i).c + Pol.o) = _
  rw [Pol.add_zero]
theorem bd_at {b : List Tm} {B : Nat} (h : Bd b B) {i : Nat} (hi : i < b.length) : -(B : Int) ≤ (ga b i).e ∧ (ga b i).e ≤ B := h _ (ga_mem hi)
noncomputable def Put_n0 : Code := Try.f62.body.getD .skip
noncomputable def Put_n1 : Code := cL Put_n0
noncomputable def Put_n2 : Code := cR Put_n0
noncomputable def Put_n3 : Code := cL Put_n2
noncomputable def Put_n4 : Code := cR Put_n2
noncomputable def Put_n5 : Code := cL Put_n3
noncomputable def Put_n6 : Code := cR Put_n3
noncomputable def Put_n7 : Code := cL Put_n6
noncomputable def Put_n8 : Code := cR Put_n6
noncomputable def Put_n9 : Code := cL Put_n7
noncomputable def Put_n10 : Code := cR Put_n7
noncomputable def Put_n11 : Code := cL Put_n4
noncomputable def Put_n12 : Code := cR Put_n4
noncomputable def Put_n13 : Code := cL Put_n12
noncomputable def Put_n14 : Code := cR Put_n12
noncomputable def Put_n15 : Code := cL Put_n13
noncomputable def Put_n16 : Code := cL Put_n15
noncomputable def Put_n17 : Code := cL Put_n16
noncomputable def Put_n18 : Code := cR Put_n16
noncomputable def Put_n19 : Code := cL Put_n17
noncomputable def Put_n20 : Code := cR Put_n17
noncomputable def Put_n21 : Code := cL Put_n20
noncomputable def Put_n22 : Code := cR Put_n20
noncomputable def Put_n23 : Code := cL Put_n18
noncomputable def Put_n24 : Code := cL Put_n14
noncomputable def Put_n25 : Code := cR Put_n14
noncomputable def Put_n26 : Code := cL Put_n25
noncomputable def Put_n27 : Code := cR Put_n25
noncomputable def Put_n28 : Code := cL Put_n27
noncomputable def Put_n29 : Code := cR Put_n27
noncomputable def Put_n30 : Code := cL Put_n28
noncomputable def Put_n31 : Code := cR Put_n28
noncomputable def Put_n32 : Code := cL Put_n31
noncomputable def Put_n33 : Code := cR Put_n31
noncomputable def Put_n34 : Code := cL Put_n32
noncomputable def Put_n35 : Code := cR Put_n32
noncomputable def Put_n36 : Code := cL Put_n34
noncomputable def Put_n37 : Code := cR Put_n34
noncomputable def Put_n38 : Code := cL Put_n37
noncomputable def Put_n39 : Code := cR Put_n37
noncomputable def Put_n40 : Code := cL Put_n29
noncomputable def Put_n41 : Code := cR Put_n29
set_option maxRecDepth 10000 in
theorem Put_t {w : World} {M : Hp} {X : Fr} (l : List Tm) {lA : Option Addr} {lc : Nat} (e : Int) (c : Int) (hl : RdA cdTm M lA lc l) (hro : l.length + 1 ≤ 4398046511104) (S : SH w M X []) : Ct Try.prog 62 [.slice lA l.length lc, .int .i64 e, .int .i64 c] w M X (LsE (put l e c)) := by
  unfold Ct
  have rmhl : l.length * 16 ≤ 140737488355328 := hl.room
  refine calls_in (b := Put_n0) Try.func62 rfl Try.ntmps62 rfl (fun C hC => ?_)
  refine ws_sub [(0, _), (1, _), (2, _)] ⟨rfl, rfl, rfl, trivial⟩ ?_
  refine ws_seqN Put_n1 Put_n2 rfl rfl rfl ?_
  refine ws_region rfl ?_
  refine wl_op (k := 0) (k' := 1) rfl rfl rfl (wo_run rfl rfl (run_assign rfl rfl) ?_)
  refine wl_end rfl ?_
  refine nm_sub [(0, _), (1, _), (2, _)] ⟨rfl, rfl, rfl, trivial⟩ ?_
  refine nm_thn ?_
  refine ws_seqN Put_n3 Put_n4 rfl rfl rfl ?_
  refine ws_seqN Put_n5 Put_n6 rfl rfl rfl ?_
  refine ws_region rfl ?_
  refine wl_op (k := 0) (k' := 1) rfl rfl rfl (wo_run rfl rfl (run_move rfl rfl) ?_)
  refine wl_op (k := 1) (k' := 2) rfl rfl rfl (wo_run rfl rfl (run_eql rfl rfl rfl) ?_)
  refine wl_end rfl ?_
  refine nm_sub [(0, _), (1, _), (2, _), (10, _)] ⟨rfl, rfl, rfl, rfl, trivial⟩ ?_
  refine nm_thn ?_
  refine ws_condN Put_n7 Put_n8 rfl rfl rfl rfl (fun hb10 => ?_) (fun hb10 => ?_)
  · have hb10 := of_decide_eq_true hb10
    refine ws_seqN Put_n9 Put_n10 rfl rfl rfl ?_
    refine ws_region rfl ?_
    refine wl_op (k := 0) (k' := 1) rfl rfl rfl (wo_run rfl rfl (run_move rfl rfl) ?_)
    refine wl_op (k := 1) (k' := 2) rfl rfl rfl (wo_run rfl rfl (run_assign rfl rfl) ?_)
    refine wl_end rfl ?_
    refine nm_sub [(6, _)] ⟨rfl, trivial⟩ ?_
    refine nm_thn ?_
    refine ws_ret hC [_] rfl rfl ⟨rfl, trivial⟩ ?_
    refine ⟨_, rfl, _, Hp.le_refl _, (S.pick [] [] (by decide) trivial), ?_⟩
    have e9 : put l e c = l := by rw [hb10]; exact put_zero l e
    rw [e9]
    exact ⟨_, _, rfl, hl⟩
  · have hb10 := of_decide_eq_false hb10
    refine ws_skip rfl ?_
    refine nm_sub [(0, _), (1, _), (2, _)] ⟨rfl, rfl, rfl, trivial⟩ ?_
    refine nm_thn ?_
    refine ws_seqN Put_n11 Put_n12 rfl rfl rfl ?_
    refine ws_region rfl ?_
    refine wl_op (k := 0) (k' := 1) rfl rfl rfl (wo_run rfl rfl (run_assign rfl rfl) ?_)
    refine wl_end rfl ?_
    refine nm_thn ?_
    refine ws_seqN Put_n13 Put_n14 rfl rfl rfl ?_
    refine ws_blockN Put_n15 0 rfl rfl rfl ?_
    refine ws_loopE (fun mx_ ax_ wx_ => ∃ (k : Nat), mx_ = l.length - k ∧ Env 78 [(0, .slice lA l.length lc), (1, .int .i64 e), (2, .int .i64 c), (7, .int .i64 (k : Int))] ax_ ∧ SH wx_ M X [] ∧ k ≤ l.length ∧ (∀ j, j < k → (ga l j).e < e)) rfl ?_ ?_
    · intro ax_ hax_
      refine ⟨_, ⟨0, rfl, hax_.sub ⟨rfl, rfl, rfl, rfl, trivial⟩, S.pick [] [] (by decide) trivial, ?hq1f0, ?hq1f1⟩⟩
      case hq1f0 => omega
      case hq1f1 => (intro j hj; omega)
    · rintro m1 a1 w1 ⟨k, rfl, he1, S1, hk, hlt⟩
      clear S
      refine ws_in he1 (c := Put_n16) rfl ?_
      clear he1 a1
      refine ws_seqN Put_n17 Put_n18 rfl rfl rfl ?_
      refine ws_seqN Put_n19 Put_n20 rfl rfl rfl ?_
      refine ws_region rfl ?_
      refine wl_op (k := 0) (k' := 1) rfl rfl rfl (wo_run rfl rfl (run_move rfl rfl) ?_)
      refine wl_op (k := 1) (k' := 2) rfl rfl rfl (wo_run rfl rfl (run_move rfl rfl) ?_)
      refine wl_op (k := 2) (k' := 3) rfl rfl rfl (wo_run rfl rfl (run_len rfl rfl rfl rfl rfl rfl Try.underlying22) ?_)
      refine wl_op (k := 3) (k' := 4) rfl rfl rfl (wo_run rfl rfl (run_lss rfl rfl rfl) ?_)
      refine wl_op (k := 4) (k' := 5) rfl rfl rfl (wo_run rfl rfl (run_move rfl rfl) ?_)
      refine wl_split (t := 16) rfl (fun hg16 => ?_) (fun hg16 => ?_)
      · have hg16 := of_decide_eq_true hg16
        refine wl_opG (k := 5) (k' := 6) rfl rfl ⟨_, _, _, rfl, rfl, rfl, rfl⟩ rfl (wo_run rfl rfl (run_move rfl rfl) ?_)
        refine wl_opG (k := 6) (k' := 7) rfl rfl ⟨_, _, _, rfl, rfl, rfl, rfl⟩ rfl (wo_run rfl rfl (run_move rfl rfl) ?_)
        refine wl_opG (k := 7) (k' := 8) rfl rfl ⟨_, _, _, rfl, rfl, rfl, rfl⟩ rfl (wo_run rfl rfl (run_indexM (C := cdTm) k rfl rfl rfl sl22 (by first | rfl | omega) hl (by first | omega | (simp only [List.length_set, List.length_append, List.length_replicate, List.length_singleton, List.length_cons, List.length_nil]; omega))) ?_)
        refine wl_opG (k := 8) (k' := 9) rfl rfl ⟨_, _, _, rfl, rfl, rfl, rfl⟩ rfl (wo_run rfl rfl (run_fieldAddr rfl rfl Try.underlying89 rfl (ce3) (nf3)) ?_)
        refine wl_opG (k := 9) (k' := 10) rfl rfl ⟨_, _, _, rfl, rfl, rfl, rfl⟩ rfl (wo_run rfl rfl (run_load1 rfl rfl Try.underlying3 rfl (hl.cell S1.m (i := k) (by first | omega | (simp only [List.length_set, List.length_append, List.length_replicate, List.length_singleton, List.length_cons, List.length_nil]; omega)) 0 rfl rfl)) ?_)
        refine wl_opG (k := 10) (k' := 11) rfl rfl ⟨_, _, _, rfl, rfl, rfl, rfl⟩ rfl (wo_run rfl rfl (run_move rfl rfl) ?_)
        refine wl_opG (k := 11) (k' := 12) rfl rfl ⟨_, _, _, rfl, rfl, rfl, rfl⟩ rfl (wo_run rfl rfl (run_lss rfl rfl rfl) ?_)
        refine wl_op (k := 12) (k' := 13) rfl rfl rfl (wo_run rfl rfl (run_pickT rfl rfl rfl) ?_)
        refine wl_end rfl ?_
        refine nm_sub [(0, _), (1, _), (2, _), (7, _), (24, _)] ⟨rfl, rfl, rfl, rfl, rfl, trivial⟩ ?_
        refine nm_thn ?_
        refine ws_condN Put_n21 Put_n22 rfl rfl rfl rfl (fun hb24 => ?_) (fun hb24 => ?_)
        · have hb24 := of_decide_eq_true hb24
          refine ws_skip rfl ?_
          refine nm_sub [(0, _), (1, _), (2, _), (7, _)] ⟨rfl, rfl, rfl, rfl, trivial⟩ ?_
          refine nm_thn ?_
          refine ws_blockN Put_n23 1 rfl rfl rfl ?_
          refine ws_region rfl ?_
          refine wl_op (k := 0) (k' := 1) rfl rfl rfl (wo_run rfl rfl (run_move rfl rfl) ?_)
          refine wl_op (k := 1) (k' := 2) rfl rfl rfl (wo_run rfl rfl (run_add rfl rfl rfl (by first | omega | (simp only [List.length_set, List.length_append, List.length_replicate, List.length_singleton, List.length_cons, List.length_nil]; omega))) ?_)
          refine wl_op (k := 2) (k' := 3) rfl rfl rfl (wo_run rfl rfl (run_assign rfl rfl) ?_)
          refine wl_end rfl ?_
          refine nm_blk ?_
          refine nm_lp ?_
          intro ax_ hax_
          refine ⟨_, ?hq2m, ⟨k + 1, rfl, hax_.sub ⟨rfl, rfl, rfl, rfl, trivial⟩, S1.pick [] [] (by decide) trivial, ?hq2f0, ?hq2f1⟩⟩
          case hq2f0 => omega
          case hq2f1 => (intro j hj; by_cases h : j = k; (subst h; assumption); exact hlt j (by omega))
          case hq2m => omega
        · have hb24 := of_decide_eq_false hb24
          refine ws_exit rfl rfl ?_
          refine nm_sub [(0, _), (1, _), (2, _), (7, _)] ⟨rfl, rfl, rfl, rfl, trivial⟩ ?_
          refine nm_thn ?_
          refine ws_seqN Put_n24 Put_n25 rfl rfl rfl ?_
          refine ws_region rfl ?_
          refine wl_op (k := 0) (k' := 1) rfl rfl rfl (wo_run rfl rfl (run_assign rfl rfl) ?_)
          refine wl_end rfl ?_
          refine nm_thn ?_
          refine ws_seqN Put_n26 Put_n27 rfl rfl rfl ?_
          refine ws_region rfl ?_
          refine wl_op (k := 0) (k' := 1) rfl rfl rfl (wo_run rfl rfl (run_move rfl rfl) ?_)
          refine wl_op (k := 1) (k' := 2) rfl rfl rfl (wo_run rfl rfl (run_move rfl rfl) ?_)
          refine wl_op (k := 2) (k' := 3) rfl rfl rfl (wo_run rfl rfl (run_move rfl rfl) ?_)
          refine wl_op (k := 3) (k' := 4) rfl rfl rfl (wo_sliceT (C := cdTm) k rfl rfl rfl rfl rfl sl22 (by first | rfl | omega) (by first | omega | (simp only [List.length_set, List.length_append, List.length_replicate, List.length_singleton, List.length_cons, List.length_nil]; omega)) hl ?_)
          intro A1 c1 hr1
          have S2 := S1.nilrow cdTm; clear S1
          refine wl_op (k := 4) (k' := 5) rfl rfl rfl (wo_appendM (C := cdTm) (i := 0) rfl rfl rfl rfl rfl rfl rfl rfl sl22 S2 rfl hr1 S2.m (by show (0 + _) * 16 ≤ _; rw [List.length_take]; omega) ?_)
          intro vr2 w2 S3; clear S2
          change SH _ _ _ [Rs.row cdTm vr2 (l.take k)] at S3
          refine wl_op (k := 5) (k' := 6) rfl rfl rfl (wo_run rfl rfl (run_assign rfl rfl) ?_)
          refine wl_end rfl ?_
          refine nm_sub [(0, _), (1, _), (2, _), (7, _), (8, _)] ⟨rfl, rfl, rfl, rfl, rfl, trivial⟩ ?_
          refine nm_thn ?_
          refine ws_seqN Put_n28 Put_n29 rfl rfl rfl ?_
          refine ws_seqN Put_n30 Put_n31 rfl rfl rfl ?_
          refine ws_region rfl ?_
          refine wl_op (k := 0) (k' := 1) rfl rfl rfl (wo_run rfl rfl (run_move rfl rfl) ?_)
          refine wl_op (k := 1) (k' := 2) rfl rfl rfl (wo_run rfl rfl (run_move rfl rfl) ?_)
          refine wl_op (k := 2) (k' := 3) rfl rfl rfl (wo_run rfl rfl (run_len rfl rfl rfl rfl rfl rfl Try.underlying22) ?_)
          refine wl_op (k := 3) (k' := 4) rfl rfl rfl (wo_run rfl rfl (run_lss rfl rfl rfl) ?_)
          refine wl_op (k := 4) (k' := 5) rfl rfl rfl (wo_run rfl rfl (run_move rfl rfl) ?_)
          refine wl_split (t := 36) rfl (fun hg36 => ?_) (fun hg36 => ?_)
          · have hg36 := of_decide_eq_true hg36
            refine wl_opG (k := 5) (k' := 6) rfl rfl ⟨_, _, _, rfl, rfl, rfl, rfl⟩ rfl (wo_run rfl rfl (run_move rfl rfl) ?_)
            refine wl_opG (k := 6) (k' := 7) rfl rfl ⟨_, _, _, rfl, rfl, rfl, rfl⟩ rfl (wo_run rfl rfl (run_move rfl rfl) ?_)
            refine wl_opG (k := 7) (k' := 8) rfl rfl ⟨_, _, _, rfl, rfl, rfl, rfl⟩ rfl (wo_run rfl rfl (run_indexM (C := cdTm) k rfl rfl rfl sl22 (by first | rfl | omega) hl (by first | omega | (simp only [List.length_set, List.length_append, List.length_replicate, List.length_singleton, List.length_cons, List.length_nil]; omega))) ?_)
            refine wl_opG (k := 8) (k' := 9) rfl rfl ⟨_, _, _, rfl, rfl, rfl, rfl⟩ rfl (wo_run rfl rfl (run_fieldAddr rfl rfl Try.underlying89 rfl (ce3) (nf3)) ?_)
            refine wl_opG (k := 9) (k' := 10) rfl rfl ⟨_, _, _, rfl, rfl, rfl, rfl⟩ rfl (wo_run rfl rfl (run_load1 rfl rfl Try.underlying3 rfl (hl.cell S3.m (i := k) (by first | omega | (simp only [List.length_set, List.length_append, List.length_replicate, List.length_singleton, List.length_cons, List.length_nil]; omega)) 0 rfl rfl)) ?_)
            refine wl_opG (k := 10) (k' := 11) rfl rfl ⟨_, _, _, rfl, rfl, rfl, rfl⟩ rfl (wo_run rfl rfl (run_move rfl rfl) ?_)
            refine wl_opG (k := 11) (k' := 12) rfl rfl ⟨_, _, _, rfl, rfl, rfl, rfl⟩ rfl (wo_run rfl rfl (run_eql rfl rfl rfl) ?_)
            refine wl_op (k := 12) (k' := 13) rfl rfl rfl (wo_run rfl rfl (run_pickT rfl rfl rfl) ?_)
            refine wl_end rfl ?_
            refine nm_sub [(0, _), (1, _), (2, _), (7, _), (8, _), (44, _)] ⟨rfl, rfl, rfl, rfl, rfl, rfl, trivial⟩ ?_
            refine nm_thn ?_
            refine ws_condN Put_n32 Put_n33 rfl rfl rfl rfl (fun hb44 => ?_) (fun hb44 => ?_)
            · have hb44 := of_decide_eq_true hb44
              refine ws_seqN Put_n34 Put_n35 rfl rfl rfl ?_
              refine ws_seqN Put_n36 Put_n37 rfl rfl rfl ?_
              refine ws_region rfl ?_
              refine wl_op (k := 0) (k' := 1) rfl rfl rfl (wo_run rfl rfl (run_move rfl rfl) ?_)
              refine wl_op (k := 1) (k' := 2) rfl rfl rfl (wo_run rfl rfl (run_move rfl rfl) ?_)
              refine wl_op (k := 2) (k' := 3) rfl rfl rfl (wo_run rfl rfl (run_indexM (C := cdTm) k rfl rfl rfl sl22 (by first | rfl | omega) hl (by first | omega | (simp only [List.length_set, List.length_append, List.length_replicate, List.length_singleton, List.length_cons, List.length_nil]; omega))) ?_)
              refine wl_op (k := 3) (k' := 4) rfl rfl rfl (wo_run rfl rfl (run_fieldAddr rfl rfl Try.underlying89 rfl (ce3) (nf3)) ?_)
              refine wl_op (k := 4) (k' := 5) rfl rfl rfl (wo_run rfl rfl (run_load1 rfl rfl Try.underlying3 rfl (hl.cell S3.m (i := k) (by first | omega | (simp only [List.length_set, List.length_append, List.length_replicate, List.length_singleton, List.length_cons, List.length_nil]; omega)) 1 rfl rfl)) ?_)
              refine wl_op (k := 5) (k' := 6) rfl rfl rfl (wo_run rfl rfl (run_move rfl rfl) ?_)
              refine wl_op (k := 6) (k' := 7) rfl rfl rfl (wo_run rfl rfl (run_addW rfl rfl rfl) ?_)
              refine wl_op (k := 7) (k' := 8) rfl rfl rfl (wo_run rfl rfl (run_neq rfl rfl rfl) ?_)
              refine wl_end rfl ?_
              refine nm_sub [(0, _), (1, _), (2, _), (7, _), (8, _), (52, _)] ⟨rfl, rfl, rfl, rfl, rfl, rfl, trivial⟩ ?_
              refine nm_thn ?_
              refine ws_condN Put_n38 Put_n39 rfl rfl rfl rfl (fun hb52 => ?_) (fun hb52 => ?_)
              · have hb52 := of_decide_eq_true hb52
                refine ws_region rfl ?_
                refine wl_op (k := 0) (k' := 1) rfl rfl rfl (wo_run rfl rfl (run_move rfl rfl) ?_)
                refine wl_op (k := 1) (k' := 2) rfl rfl rfl (wo_run rfl rfl (run_move rfl rfl) ?_)
                refine wl_op (k := 2) (k' := 3) rfl rfl rfl (wo_run rfl rfl (run_move rfl rfl) ?_)
                refine wl_op (k := 3) (k' := 4) rfl rfl rfl (wo_run rfl rfl (run_move rfl rfl) ?_)
                refine wl_op (k := 4) (k' := 5) rfl rfl rfl (wo_run rfl rfl (run_indexM (C := cdTm) k rfl rfl rfl sl22 (by first | rfl | omega) hl (by first | omega | (simp only [List.length_set, List.length_append, List.length_replicate, List.length_singleton, List.length_cons, List.length_nil]; omega))) ?_)
                refine wl_op (k := 5) (k' := 6) rfl rfl rfl (wo_run rfl rfl (run_fieldAddr rfl rfl Try.underlying89 rfl (ce3) (nf3)) ?_)
                refine wl_op (k := 6) (k' := 7) rfl rfl rfl (wo_run rfl rfl (run_load1 rfl rfl Try.underlying3 rfl (hl.cell S3.m (i := k) (by first | omega | (simp only [List.length_set, List.length_append, List.length_replicate, List.length_singleton, List.length_cons, List.length_nil]; omega)) 1 rfl rfl)) ?_)
                refine wl_op (k := 7) (k' := 8) rfl rfl rfl (wo_run rfl rfl (run_move rfl rfl) ?_)
                refine wl_op (k := 8) (k' := 9) rfl rfl rfl (wo_run rfl rfl (run_addW rfl rfl rfl) ?_)
                refine wl_op (k := 9) (k' := 10) rfl rfl rfl (wo_run rfl rfl (run_build (l := [_, _]) rfl rfl st89 rfl rfl) ?_)
                refine wl_op (k := 10) (k' := 11) rfl rfl rfl (wo_buildSlice1 (C := cdTm) (l := [_, _]) rfl rfl rfl rfl sl22 rfl rfl rfl rfl S3 ?_)
                intro gb1 w3 S4; clear S3
                refine wl_op (k := 11) (k' := 12) rfl rfl rfl (wo_append1 (C := cdTm) (i := 1) (q := 0) (⟨e, wr (((ga l k).c) + c)⟩ : Tm) rfl rfl rfl rfl rfl rfl rfl rfl sl22 S4 rfl rfl rfl (by show (_ + 1) * 16 ≤ _; first | omega | (simp only [List.length_append, List.length_take, List.length_cons, List.length_nil, List.length_map]; omega)) ?_)
                intro vr3 w4 S5; clear S4
                have S6 := S5.pick [1] [_] (by decide) ⟨rfl, trivial⟩; clear S5
                refine wl_op (k := 12) (k' := 13) rfl rfl rfl (wo_run rfl rfl (run_assign rfl rfl) ?_)
                refine wl_end rfl ?_
                refine nm_sub [(0, _), (7, _), (8, _)] ⟨rfl, rfl, rfl, trivial⟩ ?_
                refine nm_thn ?_
                refine ws_region rfl ?_
                refine wl_op (k := 0) (k' := 1) rfl rfl rfl (wo_run rfl rfl (run_move rfl rfl) ?_)
                refine wl_op (k := 1) (k' := 2) rfl rfl rfl (wo_run rfl rfl (run_add rfl rfl rfl (by first | omega | (simp only [List.length_set, List.length_append, List.length_replicate, List.length_singleton, List.length_cons, List.length_nil]; omega))) ?_)
                refine wl_op (k := 2) (k' := 3) rfl rfl rfl (wo_run rfl rfl (run_assign rfl rfl) ?_)
                refine wl_end rfl ?_
                refine nm_sub [(0, _), (7, _), (8, _)] ⟨rfl, rfl, rfl, trivial⟩ ?_
                refine nm_thn ?_
                refine ws_seqN Put_n40 Put_n41 rfl rfl rfl ?_
                refine ws_region rfl ?_
                refine wl_op (k := 0) (k' := 1) rfl rfl rfl (wo_run rfl rfl (run_move rfl rfl) ?_)
                refine wl_op (k := 1) (k' := 2) rfl rfl rfl (wo_run rfl rfl (run_move rfl rfl) ?_)
                refine wl_op (k := 2) (k' := 3) rfl rfl rfl (wo_run rfl rfl (run_move rfl rfl) ?_)
                refine wl_op (k := 3) (k' := 4) rfl rfl rfl (wo_sliceD (C := cdTm) (k + 1) rfl rfl rfl rfl rfl sl22 (by first | rfl | omega) (by first | omega | (simp only [List.length_set, List.length_append, List.length_replicate, List.length_singleton, List.length_cons, List.length_nil]; omega)) hl ?_)
                intro A2 c2 hr2
                refine wl_op (k := 4) (k' := 5) rfl rfl rfl (wo_appendM (C := cdTm) (i := 0) rfl rfl rfl rfl rfl rfl rfl rfl sl22 S6 rfl hr2 S6.m (by show (_ + _) * 16 ≤ _; simp only [List.length_append, List.length_take, List.length_drop, List.length_cons, List.length_nil]; omega) ?_)
                intro vr4 w5 S7; clear S6
                change SH _ _ _ [Rs.row cdTm vr4 (((l.take k) ++ [(⟨e, wr (((ga l k).c) + c)⟩ : Tm)]) ++ (l.drop (k + 1)))] at S7
                refine wl_op (k := 5) (k' := 6) rfl rfl rfl (wo_run rfl rfl (run_assign rfl rfl) ?_)
                refine wl_end rfl ?_
                refine nm_sub [(6, _)] ⟨rfl, trivial⟩ ?_
                refine nm_thn ?_
                obtain ⟨M1, hle2, S8, ⟨A3, c3, e1, hr3⟩⟩ := S7.pubrow (i := 0) (H' := [_]) rfl rfl (by have e1 : (l.take k).length = k := (by rw [List.length_take]; omega); have e2 := @List.length_drop _ k l; have e3 := @List.length_drop _ (k + 1) l; show _ * 16 ≤ _; simp only [List.length_append, List.length_cons, List.length_nil]; first | omega | (simp only [List.length_set, List.length_append, List.length_replicate, List.length_singleton, List.length_cons, List.length_nil]; omega))
                clear S7; subst e1
                replace hl := hl.mono hle2
                replace hr1 := hr1.mono hle2
                replace hr2 := hr2.mono hle2
                refine ws_ret hC [_] rfl rfl ⟨rfl, trivial⟩ ?_
                refine ⟨_, rfl, _, hle2, (S8.pick [] [] (by decide) trivial), ?_⟩
                have hpe := put_eq (l := l) (e := e) (c := c) (k := k) (by omega) hlt hb10 (by omega)
                have e9 : put l e c = ((l.take k) ++ [(⟨e, wr (((ga l k).c) + c)⟩ : Tm)]) ++ (l.drop (k + 1)) := by
                  rw [hpe]
                  first
                  | (exfalso; omega)
                  | (rw [if_pos (show k < l.length ∧ (ga l k).e = e by omega)]; first | (rw [if_pos (show wr ((ga l k).c + c) = 0 by omega)]; simp) | (rw [if_neg (show ¬ wr ((ga l k).c + c) = 0 by omega)]; simp))
                  | (rw [if_neg (show ¬ (k < l.length ∧ (ga l k).e = e) by omega)]; simp)
                rw [e9]
                exact ⟨_, _, rfl, hr3⟩
              · have hb52 := of_decide_eq_false hb52
                refine ws_skip rfl ?_
                refine nm_sub [(0, _), (7, _), (8, _)] ⟨rfl, rfl, rfl, trivial⟩ ?_
                refine nm_thn ?_
                refine ws_region rfl ?_
                refine wl_op (k := 0) (k' := 1) rfl rfl rfl (wo_run rfl rfl (run_move rfl rfl) ?_)
                refine wl_op (k := 1) (k' := 2) rfl rfl rfl (wo_run rfl rfl (run_add rfl rfl rfl (by first | omega | (simp only [List.length_set, List.length_append, List.length_replicate, List.length_singleton, List.length_cons, List.length_nil]; omega))) ?_)
                refine wl_op (k := 2) (k' := 3) rfl rfl rfl (wo_run rfl rfl (run_assign rfl rfl) ?_)
                refine wl_end rfl ?_
                refine nm_sub [(0, _), (7, _), (8, _)] ⟨rfl, rfl, rfl, trivial⟩ ?_
                refine nm_thn ?_
                refine ws_seqN Put_n40 Put_n41 rfl rfl rfl ?_
                refine ws_region rfl ?_
                refine wl_op (k := 0) (k' := 1) rfl rfl rfl (wo_run rfl rfl (run_move rfl rfl) ?_)
                refine wl_op (k := 1) (k' := 2) rfl rfl rfl (wo_run rfl rfl (run_move rfl rfl) ?_)
                refine wl_op (k := 2) (k' := 3) rfl rfl rfl (wo_run rfl rfl (run_move rfl rfl) ?_)
                refine wl_op (k := 3) (k' := 4) rfl rfl rfl (wo_sliceD (C := cdTm) (k + 1) rfl rfl rfl rfl rfl sl22 (by first | rfl | omega) (by first | omega | (simp only [List.length_set, List.length_append, List.length_replicate, List.length_singleton, List.length_cons, List.length_nil]; omega)) hl ?_)
                intro A4 c4 hr4
                refine wl_op (k := 4) (k' := 5) rfl rfl rfl (wo_appendM (C := cdTm) (i := 0) rfl rfl rfl rfl rfl rfl rfl rfl sl22 S3 rfl hr4 S3.m (by show (_ + _) * 16 ≤ _; simp only [List.length_append, List.length_take, List.length_drop, List.length_cons, List.length_nil]; omega) ?_)
                intro vr5 w6 S9; clear S3
                change SH _ _ _ [Rs.row cdTm vr5 ((l.take k) ++ (l.drop (k + 1)))] at S9
                refine wl_op (k := 5) (k' := 6) rfl rfl rfl (wo_run rfl rfl (run_assign rfl rfl) ?_)
                refine wl_end rfl ?_
                refine nm_sub [(6, _)] ⟨rfl, trivial⟩ ?_
                refine nm_thn ?_
                obtain ⟨M2, hle3, S10, ⟨A5, c5, e2, hr5⟩⟩ := S9.pubrow (i := 0) (H' := [_]) rfl rfl (by have e1 : (l.take k).length = k := (by rw [List.length_take]; omega); have e2 := @List.length_drop _ k l; have e3 := @List.length_drop _ (k + 1) l; show _ * 16 ≤ _; simp only [List.length_append, List.length_cons, List.length_nil]; first | omega | (simp only [List.length_set, List.length_append, List.length_replicate, List.length_singleton, List.length_cons, List.length_nil]; omega))
                clear S9; subst e2
                replace hl := hl.mono hle3
                replace hr1 := hr1.mono hle3
                replace hr4 := hr4.mono hle3
                refine ws_ret hC [_] rfl rfl ⟨rfl, trivial⟩ ?_
                refine ⟨_, rfl, _, hle3, (S10.pick [] [] (by decide) trivial), ?_⟩
                have hpe := put_eq (l := l) (e := e) (c := c) (k := k) (by omega) hlt hb10 (by omega)
                have e9 : put l e c = (l.take k) ++ (l.drop (k + 1)) := by
                  rw [hpe]
                  first
                  | (exfalso; omega)
                  | (rw [if_pos (show k < l.length ∧ (ga l k).e = e by omega)]; first | (rw [if_pos (show wr ((ga l k).c + c) = 0 by omega)]; simp) | (rw [if_neg (show ¬ wr ((ga l k).c + c) = 0 by omega)]; simp))
                  | (rw [if_neg (show ¬ (k < l.length ∧ (ga l k).e = e) by omega)]; simp)
                rw [e9]
                exact ⟨_, _, rfl, hr5⟩
            · have hb44 := of_decide_eq_false hb44
              refine ws_region rfl ?_
              refine wl_op (k := 0) (k' := 1) rfl rfl rfl (wo_run rfl rfl (run_move rfl rfl) ?_)
              refine wl_op (k := 1) (k' := 2) rfl rfl rfl (wo_run rfl rfl (run_move rfl rfl) ?_)
              refine wl_op (k := 2) (k' := 3) rfl rfl rfl (wo_run rfl rfl (run_move rfl rfl) ?_)
              refine wl_op (k := 3) (k' := 4) rfl rfl rfl (wo_run rfl rfl (run_build (l := [_, _]) rfl rfl st89 rfl rfl) ?_)
              refine wl_op (k := 4) (k' := 5) rfl rfl rfl (wo_buildSlice1 (C := cdTm) (l := [_, _]) rfl rfl rfl rfl sl22 rfl rfl rfl rfl S3 ?_)
              intro gb2 w7 S11; clear S3
              refine wl_op (k := 5) (k' := 6) rfl rfl rfl (wo_append1 (C := cdTm) (i := 1) (q := 0) (⟨e, c⟩ : Tm) rfl rfl rfl rfl rfl rfl rfl rfl sl22 S11 rfl rfl rfl (by show (_ + 1) * 16 ≤ _; first | omega | (simp only [List.length_append, List.length_take, List.length_cons, List.length_nil, List.length_map]; omega)) ?_)
              intro vr6 w8 S12; clear S11
              have S13 := S12.pick [1] [_] (by decide) ⟨rfl, trivial⟩; clear S12
              refine wl_op (k := 6) (k' := 7) rfl rfl rfl (wo_run rfl rfl (run_assign rfl rfl) ?_)
              refine wl_end rfl ?_
              refine nm_sub [(0, _), (7, _), (8, _)] ⟨rfl, rfl, rfl, trivial⟩ ?_
              refine nm_thn ?_
              refine ws_seqN Put_n40 Put_n41 rfl rfl rfl ?_
              refine ws_region rfl ?_
              refine wl_op (k := 0) (k' := 1) rfl rfl rfl (wo_run rfl rfl (run_move rfl rfl) ?_)
              refine wl_op (k := 1) (k' := 2) rfl rfl rfl (wo_run rfl rfl (run_move rfl rfl) ?_)
              refine wl_op (k := 2) (k' := 3) rfl rfl rfl (wo_run rfl rfl (run_move rfl rfl) ?_)
              refine wl_op (k := 3) (k' := 4) rfl rfl rfl (wo_sliceD (C := cdTm) k rfl rfl rfl rfl rfl sl22 (by first | rfl | omega) (by first | omega | (simp only [List.length_set, List.length_append, List.length_replicate, List.length_singleton, List.length_cons, List.length_nil]; omega)) hl ?_)
              intro A6 c6 hr6
              refine wl_op (k := 4) (k' := 5) rfl rfl rfl (wo_appendM (C := cdTm) (i := 0) rfl rfl rfl rfl rfl rfl rfl rfl sl22 S13 rfl hr6 S13.m (by show (_ + _) * 16 ≤ _; simp only [List.length_append, List.length_take, List.length_drop, List.length_cons, List.length_nil]; omega) ?_)
              intro vr7 w9 S14; clear S13
              change SH _ _ _ [Rs.row cdTm vr7 (((l.take k) ++ [(⟨e, c⟩ : Tm)]) ++ (l.drop k))] at S14
              refine wl_op (k := 5) (k' := 6) rfl rfl rfl (wo_run rfl rfl (run_assign rfl rfl) ?_)
              refine wl_end rfl ?_
              refine nm_sub [(6, _)] ⟨rfl, trivial⟩ ?_
              refine nm_thn ?_
              obtain ⟨M3, hle4, S15, ⟨A7, c7, e3, hr7⟩⟩ := S14.pubrow (i := 0) (H' := [_]) rfl rfl (by have e1 : (l.take k).length = k := (by rw [List.length_take]; omega); have e2 := @List.length_drop _ k l; have e3 := @List.length_drop _ (k + 1) l; show _ * 16 ≤ _; simp only [List.length_append, List.length_cons, List.length_nil]; first | omega | (simp only [List.length_set, List.length_append, List.length_replicate, List.length_singleton, List.length_cons, List.length_nil]; omega))
              clear S14; subst e3
              replace hl := hl.mono hle4
              replace hr1 := hr1.mono hle4
              replace hr6 := hr6.mono hle4
              refine ws_ret hC [_] rfl rfl ⟨rfl, trivial⟩ ?_
              refine ⟨_, rfl, _, hle4, (S15.pick [] [] (by decide) trivial), ?_⟩
              have hpe := put_eq (l := l) (e := e) (c := c) (k := k) (by omega) hlt hb10 (by omega)
              have e9 : put l e c = ((l.take k) ++ [(⟨e, c⟩ : Tm)]) ++ (l.drop k) := by
                rw [hpe]
                first
                | (exfalso; omega)
                | (rw [if_pos (show k < l.length ∧ (ga l k).e = e by omega)]; first | (rw [if_pos (show wr ((ga l k).c + c) = 0 by omega)]; simp) | (rw [if_neg (show ¬ wr ((ga l k).c + c) = 0 by omega)]; simp))
                | (rw [if_neg (show ¬ (k < l.length ∧ (ga l k).e = e) by omega)]; simp)
              rw [e9]
              exact ⟨_, _, rfl, hr7⟩
          · have hg36 := of_decide_eq_false hg36
            refine wl_no (k := 5) (k' := 6) (d := 37) rfl rfl ⟨_, _, _, rfl, rfl, rfl, rfl⟩ rfl rfl ?_
            refine wl_no (k := 6) (k' := 7) (d := 38) rfl rfl ⟨_, _, _, rfl, rfl, rfl, rfl⟩ rfl rfl ?_
            refine wl_no (k := 7) (k' := 8) (d := 39) rfl rfl ⟨_, _, _, rfl, rfl, rfl, rfl⟩ rfl rfl ?_
            refine wl_no (k := 8) (k' := 9) (d := 40) rfl rfl ⟨_, _, _, rfl, rfl, rfl, rfl⟩ rfl rfl ?_
            refine wl_no (k := 9) (k' := 10) (d := 41) rfl rfl ⟨_, _, _, rfl, rfl, rfl, rfl⟩ rfl rfl ?_
            refine wl_no (k := 10) (k' := 11) (d := 42) rfl rfl ⟨_, _, _, rfl, rfl, rfl, rfl⟩ rfl rfl ?_
            refine wl_no (k := 11) (k' := 12) (d := 43) rfl rfl ⟨_, _, _, rfl, rfl, rfl, rfl⟩ rfl rfl ?_
            refine wl_op (k := 12) (k' := 13) rfl rfl rfl (wo_run rfl rfl (run_pickF rfl rfl rfl) ?_)
            refine wl_end rfl ?_
            refine nm_sub [(0, _), (1, _), (2, _), (7, _), (8, _), (44, _)] ⟨rfl, rfl, rfl, rfl, rfl, rfl, trivial⟩ ?_
            refine nm_thn ?_
            refine ws_condFN Put_n33 rfl rfl rfl ?_
            refine ws_region rfl ?_
            refine wl_op (k := 0) (k' := 1) rfl rfl rfl (wo_run rfl rfl (run_move rfl rfl) ?_)
            refine wl_op (k := 1) (k' := 2) rfl rfl rfl (wo_run rfl rfl (run_move rfl rfl) ?_)
            refine wl_op (k := 2) (k' := 3) rfl rfl rfl (wo_run rfl rfl (run_move rfl rfl) ?_)
            refine wl_op (k := 3) (k' := 4) rfl rfl rfl (wo_run rfl rfl (run_build (l := [_, _]) rfl rfl st89 rfl rfl) ?_)
            refine wl_op (k := 4) (k' := 5) rfl rfl rfl (wo_buildSlice1 (C := cdTm) (l := [_, _]) rfl rfl rfl rfl sl22 rfl rfl rfl rfl S3 ?_)
            intro gb3 w10 S16; clear S3
            refine wl_op (k := 5) (k' := 6) rfl rfl rfl (wo_append1 (C := cdTm) (i := 1) (q := 0) (⟨e, c⟩ : Tm) rfl rfl rfl rfl rfl rfl rfl rfl sl22 S16 rfl rfl rfl (by show (_ + 1) * 16 ≤ _; first | omega | (simp only [List.length_append, List.length_take, List.length_cons, List.length_nil, List.length_map]; omega)) ?_)
            intro vr8 w11 S17; clear S16
            have S18 := S17.pick [1] [_] (by decide) ⟨rfl, trivial⟩; clear S17
            refine wl_op (k := 6) (k' := 7) rfl rfl rfl (wo_run rfl rfl (run_assign rfl rfl) ?_)
            refine wl_end rfl ?_
            refine nm_sub [(0, _), (7, _), (8, _)] ⟨rfl, rfl, rfl, trivial⟩ ?_
            refine nm_thn ?_
            refine ws_seqN Put_n40 Put_n41 rfl rfl rfl ?_
            refine ws_region rfl ?_
            refine wl_op (k := 0) (k' := 1) rfl rfl rfl (wo_run rfl rfl (run_move rfl rfl) ?_)
            refine wl_op (k := 1) (k' := 2) rfl rfl rfl (wo_run rfl rfl (run_move rfl rfl) ?_)
            refine wl_op (k := 2) (k' := 3) rfl rfl rfl (wo_run rfl rfl (run_move rfl rfl) ?_)
            refine wl_op (k := 3) (k' := 4) rfl rfl rfl (wo_sliceD (C := cdTm) k rfl rfl rfl rfl rfl sl22 (by first | rfl | omega) (by first | omega | (simp only [List.length_set, List.length_append, List.length_replicate, List.length_singleton, List.length_cons, List.length_nil]; omega)) hl ?_)
            intro A8 c8 hr8
            refine wl_op (k := 4) (k' := 5) rfl rfl rfl (wo_appendM (C := cdTm) (i := 0) rfl rfl rfl rfl rfl rfl rfl rfl sl22 S18 rfl hr8 S18.m (by show (_ + _) * 16 ≤ _; simp only [List.length_append, List.length_take, List.length_drop, List.length_cons, List.length_nil]; omega) ?_)
            intro vr9 w12 S19; clear S18
            change SH _ _ _ [Rs.row cdTm vr9 (((l.take k) ++ [(⟨e, c⟩ : Tm)]) ++ (l.drop k))] at S19
            refine wl_op (k := 5) (k' := 6) rfl rfl rfl (wo_run rfl rfl (run_assign rfl rfl) ?_)
            refine wl_end rfl ?_
            refine nm_sub [(6, _)] ⟨rfl, trivial⟩ ?_
            refine nm_thn ?_
            obtain ⟨M4, hle5, S20, ⟨A9, c9, e4, hr9⟩⟩ := S19.pubrow (i := 0) (H' := [_]) rfl rfl (by have e1 : (l.take k).length = k := (by rw [List.length_take]; omega); have e2 := @List.length_drop _ k l; have e3 := @List.length_drop _ (k + 1) l; show _ * 16 ≤ _; simp only [List.length_append, List.length_cons, List.length_nil]; first | omega | (simp only [List.length_set, List.length_append, List.length_replicate, List.length_singleton, List.length_cons, List.length_nil]; omega))
            clear S19; subst e4
            replace hl := hl.mono hle5
            replace hr1 := hr1.mono hle5
            replace hr8 := hr8.mono hle5
            refine ws_ret hC [_] rfl rfl ⟨rfl, trivial⟩ ?_
            refine ⟨_, rfl, _, hle5, (S20.pick [] [] (by decide) trivial), ?_⟩
            have hpe := put_eq (l := l) (e := e) (c := c) (k := k) (by omega) hlt hb10 (by omega)
            have e9 : put l e c = ((l.take k) ++ [(⟨e, c⟩ : Tm)]) ++ (l.drop k) := by
              rw [hpe]
              first
              | (exfalso; omega)
              | (rw [if_pos (show k < l.length ∧ (ga l k).e = e by omega)]; first | (rw [if_pos (show wr ((ga l k).c + c) = 0 by omega)]; simp) | (rw [if_neg (show ¬ wr ((ga l k).c + c) = 0 by omega)]; simp))
              | (rw [if_neg (show ¬ (k < l.length ∧ (ga l k).e = e) by omega)]; simp)
            rw [e9]
            exact ⟨_, _, rfl, hr9⟩
      · have hg16 := of_decide_eq_false hg16
        refine wl_no (k := 5) (k' := 6) (d := 17) rfl rfl ⟨_, _, _, rfl, rfl, rfl, rfl⟩ rfl rfl ?_
        refine wl_no (k := 6) (k' := 7) (d := 18) rfl rfl ⟨_, _, _, rfl, rfl, rfl, rfl⟩ rfl rfl ?_
        refine wl_no (k := 7) (k' := 8) (d := 19) rfl rfl ⟨_, _, _, rfl, rfl, rfl, rfl⟩ rfl rfl ?_
        refine wl_no (k := 8) (k' := 9) (d := 20) rfl rfl ⟨_, _, _, rfl, rfl, rfl, rfl⟩ rfl rfl ?_
        refine wl_no (k := 9) (k' := 10) (d := 21) rfl rfl ⟨_, _, _, rfl, rfl, rfl, rfl⟩ rfl rfl ?_
        refine wl_no (k := 10) (k' := 11) (d := 22) rfl rfl ⟨_, _, _, rfl, rfl, rfl, rfl⟩ rfl rfl ?_
        refine wl_no (k := 11) (k' := 12) (d := 23) rfl rfl ⟨_, _, _, rfl, rfl, rfl, rfl⟩ rfl rfl ?_
        refine wl_op (k := 12) (k' := 13) rfl rfl rfl (wo_run rfl rfl (run_pickF rfl rfl rfl) ?_)
        refine wl_end rfl ?_
        refine nm_sub [(0, _), (1, _), (2, _), (7, _), (24, _)] ⟨rfl, rfl, rfl, rfl, rfl, trivial⟩ ?_
        refine nm_thn ?_
        refine ws_condFN Put_n22 rfl rfl rfl ?_
        refine ws_exit rfl rfl ?_
        refine nm_sub [(0, _), (1, _), (2, _), (7, _)] ⟨rfl, rfl, rfl, rfl, trivial⟩ ?_
        refine nm_thn ?_
        refine ws_seqN Put_n24 Put_n25 rfl rfl rfl ?_
        refine ws_region rfl ?_
        refine wl_op (k := 0) (k' := 1) rfl rfl rfl (wo_run rfl rfl (run_assign rfl rfl) ?_)
        refine wl_end rfl ?_
        refine nm_thn ?_
        refine ws_seqN Put_n26 Put_n27 rfl rfl rfl ?_
        refine ws_region rfl ?_
        refine wl_op (k := 0) (k' := 1) rfl rfl rfl (wo_run rfl rfl (run_move rfl rfl) ?_)
        refine wl_op (k := 1) (k' := 2) rfl rfl rfl (wo_run rfl rfl (run_move rfl rfl) ?_)
        refine wl_op (k := 2) (k' := 3) rfl rfl rfl (wo_run rfl rfl (run_move rfl rfl) ?_)
        refine wl_op (k := 3) (k' := 4) rfl rfl rfl (wo_sliceT (C := cdTm) k rfl rfl rfl rfl rfl sl22 (by first | rfl | omega) (by first | omega | (simp only [List.length_set, List.length_append, List.length_replicate, List.length_singleton, List.length_cons, List.length_nil]; omega)) hl ?_)
        intro A10 c10 hr10
        have S21 := S1.nilrow cdTm; clear S1
        refine wl_op (k := 4) (k' := 5) rfl rfl rfl (wo_appendM (C := cdTm) (i := 0) rfl rfl rfl rfl rfl rfl rfl rfl sl22 S21 rfl hr10 S21.m (by show (0 + _) * 16 ≤ _; rw [List.length_take]; omega) ?_)
        intro vr11 w13 S22; clear S21
        change SH _ _ _ [Rs.row cdTm vr11 (l.take k)] at S22
        refine wl_op (k := 5) (k' := 6) rfl rfl rfl (wo_run rfl rfl (run_assign rfl rfl) ?_)
        refine wl_end rfl ?_
        refine nm_sub [(0, _), (1, _), (2, _), (7, _), (8, _)] ⟨rfl, rfl, rfl, rfl, rfl, trivial⟩ ?_
        refine nm_thn ?_
        refine ws_seqN Put_n28 Put_n29 rfl rfl rfl ?_
        refine ws_seqN Put_n30 Put_n31 rfl rfl rfl ?_
        refine ws_region rfl ?_
        refine wl_op (k := 0) (k' := 1) rfl rfl rfl (wo_run rfl rfl (run_move rfl rfl) ?_)
        refine wl_op (k := 1) (k' := 2) rfl rfl rfl (wo_run rfl rfl (run_move rfl rfl) ?_)
        refine wl_op (k := 2) (k' := 3) rfl rfl rfl (wo_run rfl rfl (run_len rfl rfl rfl rfl rfl rfl Try.underlying22) ?_)
        refine wl_op (k := 3) (k' := 4) rfl rfl rfl (wo_run rfl rfl (run_lss rfl rfl rfl) ?_)
        refine wl_op (k := 4) (k' := 5) rfl rfl rfl (wo_run rfl rfl (run_move rfl rfl) ?_)
        refine wl_split (t := 36) rfl (fun hg36 => ?_) (fun hg36 => ?_)
        · have hg36 := of_decide_eq_true hg36
          refine wl_opG (k := 5) (k' := 6) rfl rfl ⟨_, _, _, rfl, rfl, rfl, rfl⟩ rfl (wo_run rfl rfl (run_move rfl rfl) ?_)
          refine wl_opG (k := 6) (k' := 7) rfl rfl ⟨_, _, _, rfl, rfl, rfl, rfl⟩ rfl (wo_run rfl rfl (run_move rfl rfl) ?_)
          refine wl_opG (k := 7) (k' := 8) rfl rfl ⟨_, _, _, rfl, rfl, rfl, rfl⟩ rfl (wo_run rfl rfl (run_indexM (C := cdTm) k rfl rfl rfl sl22 (by first | rfl | omega) hl (by first | omega | (simp only [List.length_set, List.length_append, List.length_replicate, List.length_singleton, List.length_cons, List.length_nil]; omega))) ?_)
          refine wl_opG (k := 8) (k' := 9) rfl rfl ⟨_, _, _, rfl, rfl, rfl, rfl⟩ rfl (wo_run rfl rfl (run_fieldAddr rfl rfl Try.underlying89 rfl (ce3) (nf3)) ?_)
          refine wl_opG (k := 9) (k' := 10) rfl rfl ⟨_, _, _, rfl, rfl, rfl, rfl⟩ rfl (wo_run rfl rfl (run_load1 rfl rfl Try.underlying3 rfl (hl.cell S22.m (i := k) (by first | omega | (simp only [List.length_set, List.length_append, List.length_replicate, List.length_singleton, List.length_cons, List.length_nil]; omega)) 0 rfl rfl)) ?_)
          refine wl_opG (k := 10) (k' := 11) rfl rfl ⟨_, _, _, rfl, rfl, rfl, rfl⟩ rfl (wo_run rfl rfl (run_move rfl rfl) ?_)
          refine wl_opG (k := 11) (k' := 12) rfl rfl ⟨_, _, _, rfl, rfl, rfl, rfl⟩ rfl (wo_run rfl rfl (run_eql rfl rfl rfl) ?_)
          refine wl_op (k := 12) (k' := 13) rfl rfl rfl (wo_run rfl rfl (run_pickT rfl rfl rfl) ?_)
          refine wl_end rfl ?_
          refine nm_sub [(0, _), (1, _), (2, _), (7, _), (8, _), (44, _)] ⟨rfl, rfl, rfl, rfl, rfl, rfl, trivial⟩ ?_
          refine nm_thn ?_
          refine ws_condN Put_n32 Put_n33 rfl rfl rfl rfl (fun hb44 => ?_) (fun hb44 => ?_)
          · have hb44 := of_decide_eq_true hb44
            refine ws_seqN Put_n34 Put_n35 rfl rfl rfl ?_
            refine ws_seqN Put_n36 Put_n37 rfl rfl rfl ?_
            refine ws_region rfl ?_
            refine wl_op (k := 0) (k' := 1) rfl rfl rfl (wo_run rfl rfl (run_move rfl rfl) ?_)
            refine wl_op (k := 1) (k' := 2) rfl rfl rfl (wo_run rfl rfl (run_move rfl rfl) ?_)
            refine wl_op (k := 2) (k' := 3) rfl rfl rfl (wo_run rfl rfl (run_indexM (C := cdTm) k rfl rfl rfl sl22 (by first | rfl | omega) hl (by first | omega | (simp only [List.length_set, List.length_append, List.length_replicate, List.length_singleton, List.length_cons, List.length_nil]; omega))) ?_)
            refine wl_op (k := 3) (k' := 4) rfl rfl rfl (wo_run rfl rfl (run_fieldAddr rfl rfl Try.underlying89 rfl (ce3) (nf3)) ?_)
            refine wl_op (k := 4) (k' := 5) rfl rfl rfl (wo_run rfl rfl (run_load1 rfl rfl Try.underlying3 rfl (hl.cell S22.m (i := k) (by first | omega | (simp only [List.length_set, List.length_append, List.length_replicate, List.length_singleton, List.length_cons, List.length_nil]; omega)) 1 rfl rfl)) ?_)
            refine wl_op (k := 5) (k' := 6) rfl rfl rfl (wo_run rfl rfl (run_move rfl rfl) ?_)
            refine wl_op (k := 6) (k' := 7) rfl rfl rfl (wo_run rfl rfl (run_addW rfl rfl rfl) ?_)
            refine wl_op (k := 7) (k' := 8) rfl rfl rfl (wo_run rfl rfl (run_neq rfl rfl rfl) ?_)
            refine wl_end rfl ?_
            refine nm_sub [(0, _), (1, _), (2, _), (7, _), (8, _), (52, _)] ⟨rfl, rfl, rfl, rfl, rfl, rfl, trivial⟩ ?_
            refine nm_thn ?_
            refine ws_condN Put_n38 Put_n39 rfl rfl rfl rfl (fun hb52 => ?_) (fun hb52 => ?_)
            · have hb52 := of_decide_eq_true hb52
              refine ws_region rfl ?_
              refine wl_op (k := 0) (k' := 1) rfl rfl rfl (wo_run rfl rfl (run_move rfl rfl) ?_)
              refine wl_op (k := 1) (k' := 2) rfl rfl rfl (wo_run rfl rfl (run_move rfl rfl) ?_)
              refine wl_op (k := 2) (k' := 3) rfl rfl rfl (wo_run rfl rfl (run_move rfl rfl) ?_)
              refine wl_op (k := 3) (k' := 4) rfl rfl rfl (wo_run rfl rfl (run_move rfl rfl) ?_)
              refine wl_op (k := 4) (k' := 5) rfl rfl rfl (wo_run rfl rfl (run_indexM (C := cdTm) k rfl rfl rfl sl22 (by first | rfl | omega) hl (by first | omega | (simp only [List.length_set, List.length_append, List.length_replicate, List.length_singleton, List.length_cons, List.length_nil]; omega))) ?_)
              refine wl_op (k := 5) (k' := 6) rfl rfl rfl (wo_run rfl rfl (run_fieldAddr rfl rfl Try.underlying89 rfl (ce3) (nf3)) ?_)
              refine wl_op (k := 6) (k' := 7) rfl rfl rfl (wo_run rfl rfl (run_load1 rfl rfl Try.underlying3 rfl (hl.cell S22.m (i := k) (by first | omega | (simp only [List.length_set, List.length_append, List.length_replicate, List.length_singleton, List.length_cons, List.length_nil]; omega)) 1 rfl rfl)) ?_)
              refine wl_op (k := 7) (k' := 8) rfl rfl rfl (wo_run rfl rfl (run_move rfl rfl) ?_)
              refine wl_op (k := 8) (k' := 9) rfl rfl rfl (wo_run rfl rfl (run_addW rfl rfl rfl) ?_)
              refine wl_op (k := 9) (k' := 10) rfl rfl rfl (wo_run rfl rfl (run_build (l := [_, _]) rfl rfl st89 rfl rfl) ?_)
              refine wl_op (k := 10) (k' := 11) rfl rfl rfl (wo_buildSlice1 (C := cdTm) (l := [_, _]) rfl rfl rfl rfl sl22 rfl rfl rfl rfl S22 ?_)
              intro gb4 w14 S23; clear S22
              refine wl_op (k := 11) (k' := 12) rfl rfl rfl (wo_append1 (C := cdTm) (i := 1) (q := 0) (⟨e, wr (((ga l k).c) + c)⟩ : Tm) rfl rfl rfl rfl rfl rfl rfl rfl sl22 S23 rfl rfl rfl (by show (_ + 1) * 16 ≤ _; first | omega | (simp only [List.length_append, List.length_take, List.length_cons, List.length_nil, List.length_map]; omega)) ?_)
              intro vr12 w15 S24; clear S23
              have S25 := S24.pick [1] [_] (by decide) ⟨rfl, trivial⟩; clear S24
              refine wl_op (k := 12) (k' := 13) rfl rfl rfl (wo_run rfl rfl (run_assign rfl rfl) ?_)
              refine wl_end rfl ?_
              refine nm_sub [(0, _), (7, _), (8, _)] ⟨rfl, rfl, rfl, trivial⟩ ?_
              refine nm_thn ?_
              refine ws_region rfl ?_
              refine wl_op (k := 0) (k' := 1) rfl rfl rfl (wo_run rfl rfl (run_move rfl rfl) ?_)
              refine wl_op (k := 1) (k' := 2) rfl rfl rfl (wo_run rfl rfl (run_add rfl rfl rfl (by first | omega | (simp only [List.length_set, List.length_append, List.length_replicate, List.length_singleton, List.length_cons, List.length_nil]; omega))) ?_)
              refine wl_op (k := 2) (k' := 3) rfl rfl rfl (wo_run rfl rfl (run_assign rfl rfl) ?_)
              refine wl_end rfl ?_
              refine nm_sub [(0, _), (7, _), (8, _)] ⟨rfl, rfl, rfl, trivial⟩ ?_
              refine nm_thn ?_
              refine ws_seqN Put_n40 Put_n41 rfl rfl rfl ?_
              refine ws_region rfl ?_
              refine wl_op (k := 0) (k' := 1) rfl rfl rfl (wo_run rfl rfl (run_move rfl rfl) ?_)
              refine wl_op (k := 1) (k' := 2) rfl rfl rfl (wo_run rfl rfl (run_move rfl rfl) ?_)
              refine wl_op (k := 2) (k' := 3) rfl rfl rfl (wo_run rfl rfl (run_move rfl rfl) ?_)
              refine wl_op (k := 3) (k' := 4) rfl rfl rfl (wo_sliceD (C := cdTm) (k + 1) rfl rfl rfl rfl rfl sl22 (by first | rfl | omega) (by first | omega | (simp only [List.length_set, List.length_append, List.length_replicate, List.length_singleton, List.length_cons, List.length_nil]; omega)) hl ?_)
              intro A11 c11 hr11
              refine wl_op (k := 4) (k' := 5) rfl rfl rfl (wo_appendM (C := cdTm) (i := 0) rfl rfl rfl rfl rfl rfl rfl rfl sl22 S25 rfl hr11 S25.m (by show (_ + _) * 16 ≤ _; simp only [List.length_append, List.length_take, List.length_drop, List.length_cons, List.length_nil]; omega) ?_)
              intro vr13 w16 S26; clear S25
              change SH _ _ _ [Rs.row cdTm vr13 (((l.take k) ++ [(⟨e, wr (((ga l k).c) + c)⟩ : Tm)]) ++ (l.drop (k + 1)))] at S26
              refine wl_op (k := 5) (k' := 6) rfl rfl rfl (wo_run rfl rfl (run_assign rfl rfl) ?_)
              refine wl_end rfl ?_
              refine nm_sub [(6, _)] ⟨rfl, trivial⟩ ?_
              refine nm_thn ?_
              obtain ⟨M5, hle6, S27, ⟨A12, c12, e5, hr12⟩⟩ := S26.pubrow (i := 0) (H' := [_]) rfl rfl (by have e1 : (l.take k).length = k := (by rw [List.length_take]; omega); have e2 := @List.length_drop _ k l; have e3 := @List.length_drop _ (k + 1) l; show _ * 16 ≤ _; simp only [List.length_append, List.length_cons, List.length_nil]; first | omega | (simp only [List.length_set, List.length_append, List.length_replicate, List.length_singleton, List.length_cons, List.length_nil]; omega))
              clear S26; subst e5
              replace hl := hl.mono hle6
              replace hr10 := hr10.mono hle6
              replace hr11 := hr11.mono hle6
              refine ws_ret hC [_] rfl rfl ⟨rfl, trivial⟩ ?_
              refine ⟨_, rfl, _, hle6, (S27.pick [] [] (by decide) trivial), ?_⟩
              have hpe := put_eq (l := l) (e := e) (c := c) (k := k) (by omega) hlt hb10 (by omega)
              have e9 : put l e c = ((l.take k) ++ [(⟨e, wr (((ga l k).c) + c)⟩ : Tm)]) ++ (l.drop (k + 1)) := by
                rw [hpe]
                first
                | (exfalso; omega)
                | (rw [if_pos (show k < l.length ∧ (ga l k).e = e by omega)]; first | (rw [if_pos (show wr ((ga l k).c + c) = 0 by omega)]; simp) | (rw [if_neg (show ¬ wr ((ga l k).c + c) = 0 by omega)]; simp))
                | (rw [if_neg (show ¬ (k < l.length ∧ (ga l k).e = e) by omega)]; simp)
              rw [e9]
              exact ⟨_, _, rfl, hr12⟩
            · have hb52 := of_decide_eq_false hb52
              refine ws_skip rfl ?_
              refine nm_sub [(0, _), (7, _), (8, _)] ⟨rfl, rfl, rfl, trivial⟩ ?_
              refine nm_thn ?_
              refine ws_region rfl ?_
              refine wl_op (k := 0) (k' := 1) rfl rfl rfl (wo_run rfl rfl (run_move rfl rfl) ?_)
              refine wl_op (k := 1) (k' := 2) rfl rfl rfl (wo_run rfl rfl (run_add rfl rfl rfl (by first | omega | (simp only [List.length_set, List.length_append, List.length_replicate, List.length_singleton, List.length_cons, List.length_nil]; omega))) ?_)
              refine wl_op (k := 2) (k' := 3) rfl rfl rfl (wo_run rfl rfl (run_assign rfl rfl) ?_)
              refine wl_end rfl ?_
              refine nm_sub [(0, _), (7, _), (8, _)] ⟨rfl, rfl, rfl, trivial⟩ ?_
              refine nm_thn ?_
              refine ws_seqN Put_n40 Put_n41 rfl rfl rfl ?_
              refine ws_region rfl ?_
              refine wl_op (k := 0) (k' := 1) rfl rfl rfl (wo_run rfl rfl (run_move rfl rfl) ?_)
              refine wl_op (k := 1) (k' := 2) rfl rfl rfl (wo_run rfl rfl (run_move rfl rfl) ?_)
              refine wl_op (k := 2) (k' := 3) rfl rfl rfl (wo_run rfl rfl (run_move rfl rfl) ?_)
              refine wl_op (k := 3) (k' := 4) rfl rfl rfl (wo_sliceD (C := cdTm) (k + 1) rfl rfl rfl rfl rfl sl22 (by first | rfl | omega) (by first | omega | (simp only [List.length_set, List.length_append, List.length_replicate, List.length_singleton, List.length_cons, List.length_nil]; omega)) hl ?_)
              intro A13 c13 hr13
              refine wl_op (k := 4) (k' := 5) rfl rfl rfl (wo_appendM (C := cdTm) (i := 0) rfl rfl rfl rfl rfl rfl rfl rfl sl22 S22 rfl hr13 S22.m (by show (_ + _) * 16 ≤ _; simp only [List.length_append, List.length_take, List.length_drop, List.length_cons, List.length_nil]; omega) ?_)
              intro vr14 w17 S28; clear S22
              change SH _ _ _ [Rs.row cdTm vr14 ((l.take k) ++ (l.drop (k + 1)))] at S28
              refine wl_op (k := 5) (k' := 6) rfl rfl rfl (wo_run rfl rfl (run_assign rfl rfl) ?_)
              refine wl_end rfl ?_
              refine nm_sub [(6, _)] ⟨rfl, trivial⟩ ?_
              refine nm_thn ?_
              obtain ⟨M6, hle7, S29, ⟨A14, c14, e6, hr14⟩⟩ := S28.pubrow (i := 0) (H' := [_]) rfl rfl (by have e1 : (l.take k).length = k := (by rw [List.length_take]; omega); have e2 := @List.length_drop _ k l; have e3 := @List.length_drop _ (k + 1) l; show _ * 16 ≤ _; simp only [List.length_append, List.length_cons, List.length_nil]; first | omega | (simp only [List.length_set, List.length_append, List.length_replicate, List.length_singleton, List.length_cons, List.length_nil]; omega))
              clear S28; subst e6
              replace hl := hl.mono hle7
              replace hr10 := hr10.mono hle7
              replace hr13 := hr13.mono hle7
              refine ws_ret hC [_] rfl rfl ⟨rfl, trivial⟩ ?_
              refine ⟨_, rfl, _, hle7, (S29.pick [] [] (by decide) trivial), ?_⟩
              have hpe := put_eq (l := l) (e := e) (c := c) (k := k) (by omega) hlt hb10 (by omega)
              have e9 : put l e c = (l.take k) ++ (l.drop (k + 1)) := by
                rw [hpe]
                first
                | (exfalso; omega)
                | (rw [if_pos (show k < l.length ∧ (ga l k).e = e by omega)]; first | (rw [if_pos (show wr ((ga l k).c + c) = 0 by omega)]; simp) | (rw [if_neg (show ¬ wr ((ga l k).c + c) = 0 by omega)]; simp))
                | (rw [if_neg (show ¬ (k < l.length ∧ (ga l k).e = e) by omega)]; simp)
              rw [e9]
              exact ⟨_, _, rfl, hr14⟩
          · have hb44 := of_decide_eq_false hb44
            refine ws_region rfl ?_
            refine wl_op (k := 0) (k' := 1) rfl rfl rfl (wo_run rfl rfl (run_move rfl rfl) ?_)
            refine wl_op (k := 1) (k' := 2) rfl rfl rfl (wo_run rfl rfl (run_move rfl rfl) ?_)
            refine wl_op (k := 2) (k' := 3) rfl rfl rfl (wo_run rfl rfl (run_move rfl rfl) ?_)
            refine wl_op (k := 3) (k' := 4) rfl rfl rfl (wo_run rfl rfl (run_build (l := [_, _]) rfl rfl st89 rfl rfl) ?_)
            refine wl_op (k := 4) (k' := 5) rfl rfl rfl (wo_buildSlice1 (C := cdTm) (l := [_, _]) rfl rfl rfl rfl sl22 rfl rfl rfl rfl S22 ?_)
            intro gb5 w18 S30; clear S22
            refine wl_op (k := 5) (k' := 6) rfl rfl rfl (wo_append1 (C := cdTm) (i := 1) (q := 0) (⟨e, c⟩ : Tm) rfl rfl rfl rfl rfl rfl rfl rfl sl22 S30 rfl rfl rfl (by show (_ + 1) * 16 ≤ _; first | omega | (simp only [List.length_append, List.length_take, List.length_cons, List.length_nil, List.length_map]; omega)) ?_)
            intro vr15 w19 S31; clear S30
            have S32 := S31.pick [1] [_] (by decide) ⟨rfl, trivial⟩; clear S31
            refine wl_op (k := 6) (k' := 7) rfl rfl rfl (wo_run rfl rfl (run_assign rfl rfl) ?_)
            refine wl_end rfl ?_
            refine nm_sub [(0, _), (7, _), (8, _)] ⟨rfl, rfl, rfl, trivial⟩ ?_
            refine nm_thn ?_
            refine ws_seqN Put_n40 Put_n41 rfl rfl rfl ?_
            refine ws_region rfl ?_
            refine wl_op (k := 0) (k' := 1) rfl rfl rfl (wo_run rfl rfl (run_move rfl rfl) ?_)
            refine wl_op (k := 1) (k' := 2) rfl rfl rfl (wo_run rfl rfl (run_move rfl rfl) ?_)
            refine wl_op (k := 2) (k' := 3) rfl rfl rfl (wo_run rfl rfl (run_move rfl rfl) ?_)
            refine wl_op (k := 3) (k' := 4) rfl rfl rfl (wo_sliceD (C := cdTm) k rfl rfl rfl rfl rfl sl22 (by first | rfl | omega) (by first | omega | (simp only [List.length_set, List.length_append, List.length_replicate, List.length_singleton, List.length_cons, List.length_nil]; omega)) hl ?_)
            intro A15 c15 hr15
            refine wl_op (k := 4) (k' := 5) rfl rfl rfl (wo_appendM (C := cdTm) (i := 0) rfl rfl rfl rfl rfl rfl rfl rfl sl22 S32 rfl hr15 S32.m (by show (_ + _) * 16 ≤ _; simp only [List.length_append, List.length_take, List.length_drop, List.length_cons, List.length_nil]; omega) ?_)
            intro vr16 w20 S33; clear S32
            change SH _ _ _ [Rs.row cdTm vr16 (((l.take k) ++ [(⟨e, c⟩ : Tm)]) ++ (l.drop k))] at S33
            refine wl_op (k := 5) (k' := 6) rfl rfl rfl (wo_run rfl rfl (run_assign rfl rfl) ?_)
            refine wl_end rfl ?_
            refine nm_sub [(6, _)] ⟨rfl, trivial⟩ ?_
            refine nm_thn ?_
            obtain ⟨M7, hle8, S34, ⟨A16, c16, e7, hr16⟩⟩ := S33.pubrow (i := 0) (H' := [_]) rfl rfl (by have e1 : (l.take k).length = k := (by rw [List.length_take]; omega); have e2 := @List.length_drop _ k l; have e3 := @List.length_drop _ (k + 1) l; show _ * 16 ≤ _; simp only [List.length_append, List.length_cons, List.length_nil]; first | omega | (simp only [List.length_set, List.length_append, List.length_replicate, List.length_singleton, List.length_cons, List.length_nil]; omega))
            clear S33; subst e7
            replace hl := hl.mono hle8
            replace hr10 := hr10.mono hle8
            replace hr15 := hr15.mono hle8
            refine ws_ret hC [_] rfl rfl ⟨rfl, trivial⟩ ?_
            refine ⟨_, rfl, _, hle8, (S34.pick [] [] (by decide) trivial), ?_⟩
            have hpe := put_eq (l := l) (e := e) (c := c) (k := k) (by omega) hlt hb10 (by omega)
            have e9 : put l e c = ((l.take k) ++ [(⟨e, c⟩ : Tm)]) ++ (l.drop k) := by
              rw [hpe]
              first
              | (exfalso; omega)
              | (rw [if_pos (show k < l.length ∧ (ga l k).e = e by omega)]; first | (rw [if_pos (show wr ((ga l k).c + c) = 0 by omega)]; simp) | (rw [if_neg (show ¬ wr ((ga l k).c + c) = 0 by omega)]; simp))
              | (rw [if_neg (show ¬ (k < l.length ∧ (ga l k).e = e) by omega)]; simp)
            rw [e9]
            exact ⟨_, _, rfl, hr16⟩
        · have hg36 := of_decide_eq_false hg36
          refine wl_no (k := 5) (k' := 6) (d := 37) rfl rfl ⟨_, _, _, rfl, rfl, rfl, rfl⟩ rfl rfl ?_
          refine wl_no (k := 6) (k' := 7) (d := 38) rfl rfl ⟨_, _, _, rfl, rfl, rfl, rfl⟩ rfl rfl ?_
          refine wl_no (k := 7) (k' := 8) (d := 39) rfl rfl ⟨_, _, _, rfl, rfl, rfl, rfl⟩ rfl rfl ?_
          refine wl_no (k := 8) (k' := 9) (d := 40) rfl rfl ⟨_, _, _, rfl, rfl, rfl, rfl⟩ rfl rfl ?_
          refine wl_no (k := 9) (k' := 10) (d := 41) rfl rfl ⟨_, _, _, rfl, rfl, rfl, rfl⟩ rfl rfl ?_
          refine wl_no (k := 10) (k' := 11) (d := 42) rfl rfl ⟨_, _, _, rfl, rfl, rfl, rfl⟩ rfl rfl ?_
          refine wl_no (k := 11) (k' := 12) (d := 43) rfl rfl ⟨_, _, _, rfl, rfl, rfl, rfl⟩ rfl rfl ?_
          refine wl_op (k := 12) (k' := 13) rfl rfl rfl (wo_run rfl rfl (run_pickF rfl rfl rfl) ?_)
          refine wl_end rfl ?_
          refine nm_sub [(0, _), (1, _), (2, _), (7, _), (8, _), (44, _)] ⟨rfl, rfl, rfl, rfl, rfl, rfl, trivial⟩ ?_
          refine nm_thn ?_
          refine ws_condFN Put_n33 rfl rfl rfl ?_
          refine ws_region rfl ?_
          refine wl_op (k := 0) (k' := 1) rfl rfl rfl (wo_run rfl rfl (run_move rfl rfl) ?_)
          refine wl_op (k := 1) (k' := 2) rfl rfl rfl (wo_run rfl rfl (run_move rfl rfl) ?_)
          refine wl_op (k := 2) (k' := 3) rfl rfl rfl (wo_run rfl rfl (run_move rfl rfl) ?_)
          refine wl_op (k := 3) (k' := 4) rfl rfl rfl (wo_run rfl rfl (run_build (l := [_, _]) rfl rfl st89 rfl rfl) ?_)
          refine wl_op (k := 4) (k' := 5) rfl rfl rfl (wo_buildSlice1 (C := cdTm) (l := [_, _]) rfl rfl rfl rfl sl22 rfl rfl rfl rfl S22 ?_)
          intro gb6 w21 S35; clear S22
          refine wl_op (k := 5) (k' := 6) rfl rfl rfl (wo_append1 (C := cdTm) (i := 1) (q := 0) (⟨e, c⟩ : Tm) rfl rfl rfl rfl rfl rfl rfl rfl sl22 S35 rfl rfl rfl (by show (_ + 1) * 16 ≤ _; first | omega | (simp only [List.length_append, List.length_take, List.length_cons, List.length_nil, List.length_map]; omega)) ?_)
          intro vr17 w22 S36; clear S35
          have S37 := S36.pick [1] [_] (by decide) ⟨rfl, trivial⟩; clear S36
          refine wl_op (k := 6) (k' := 7) rfl rfl rfl (wo_run rfl rfl (run_assign rfl rfl) ?_)
          refine wl_end rfl ?_
          refine nm_sub [(0, _), (7, _), (8, _)] ⟨rfl, rfl, rfl, trivial⟩ ?_
          refine nm_thn ?_
          refine ws_seqN Put_n40 Put_n41 rfl rfl rfl ?_
          refine ws_region rfl ?_
          refine wl_op (k := 0) (k' := 1) rfl rfl rfl (wo_run rfl rfl (run_move rfl rfl) ?_)
          refine wl_op (k := 1) (k' := 2) rfl rfl rfl (wo_run rfl rfl (run_move rfl rfl) ?_)
          refine wl_op (k := 2) (k' := 3) rfl rfl rfl (wo_run rfl rfl (run_move rfl rfl) ?_)
          refine wl_op (k := 3) (k' := 4) rfl rfl rfl (wo_sliceD (C := cdTm) k rfl rfl rfl rfl rfl sl22 (by first | rfl | omega) (by first | omega | (simp only [List.length_set, List.length_append, List.length_replicate, List.length_singleton, List.length_cons, List.length_nil]; omega)) hl ?_)
          intro A17 c17 hr17
          refine wl_op (k := 4) (k' := 5) rfl rfl rfl (wo_appendM (C := cdTm) (i := 0) rfl rfl rfl rfl rfl rfl rfl rfl sl22 S37 rfl hr17 S37.m (by show (_ + _) * 16 ≤ _; simp only [List.length_append, List.length_take, List.length_drop, List.length_cons, List.length_nil]; omega) ?_)
          intro vr18 w23 S38; clear S37
          change SH _ _ _ [Rs.row cdTm vr18 (((l.take k) ++ [(⟨e, c⟩ : Tm)]) ++ (l.drop k))] at S38
          refine wl_op (k := 5) (k' := 6) rfl rfl rfl (wo_run rfl rfl (run_assign rfl rfl) ?_)
          refine wl_end rfl ?_
          refine nm_sub [(6, _)] ⟨rfl, trivial⟩ ?_
          refine nm_thn ?_
          obtain ⟨M8, hle9, S39, ⟨A18, c18, e8, hr18⟩⟩ := S38.pubrow (i := 0) (H' := [_]) rfl rfl (by have e1 : (l.take k).length = k := (by rw [List.length_take]; omega); have e2 := @List.length_drop _ k l; have e3 := @List.length_drop _ (k + 1) l; show _ * 16 ≤ _; simp only [List.length_append, List.length_cons, List.length_nil]; first | omega | (simp only [List.length_set, List.length_append, List.length_replicate, List.length_singleton, List.length_cons, List.length_nil]; omega))
          clear S38; subst e8
          replace hl := hl.mono hle9
          replace hr10 := hr10.mono hle9
          replace hr17 := hr17.mono hle9
          refine ws_ret hC [_] rfl rfl ⟨rfl, trivial⟩ ?_
          refine ⟨_, rfl, _, hle9, (S39.pick [] [] (by decide) trivial), ?_⟩
          have hpe := put_eq (l := l) (e := e) (c := c) (k := k) (by omega) hlt hb10 (by omega)
          have e9 : put l e c = ((l.take k) ++ [(⟨e, c⟩ : Tm)]) ++ (l.drop k) := by
            rw [hpe]
            first
            | (exfalso; omega)
            | (rw [if_pos (show k < l.length ∧ (ga l k).e = e by omega)]; first | (rw [if_pos (show wr ((ga l k).c + c) = 0 by omega)]; simp) | (rw [if_neg (show ¬ wr ((ga l k).c + c) = 0 by omega)]; simp))
            | (rw [if_neg (show ¬ (k < l.length ∧ (ga l k).e = e) by omega)]; simp)
          rw [e9]
          exact ⟨_, _, rfl, hr18⟩
end Go.Proofs.Ytkcighnochjlgaa
namespace Go.Proofs.Ytkcighnochjlgaa
open Go.ChangeShapes Go.WideShapes Go.ChangeAt Go.RowKit
theorem SH.down {w : World} {M M' : Hp} {X : Fr} {H : List Rs} (S : SH w M' X H) (h : M.le M') : SH w M X H := by
  have hn : ∀ b, M' b = none → M b = none := fun b e => by
    cases hm : M b with
    | none => rfl
    | some o => rw [h b o hm] at e; cases e
  exact ⟨h.trans S.m, S.x, fun b o e => hn b (S.mx b o e), S.ok, fun r hr b hb => ⟨(S.bl r hr b hb).1, hn b (S.bl r hr b hb).2.1, (S.bl r hr b hb).2.2⟩, S.ap, S.like⟩
/-- No block stands in two things. -/
def apartL (H : List Rs) : Prop := H.Pairwise fun r s => ∀ b ∈ r.bl, b ∉ s.bl
theorem apart_iff {H : List Rs} : apartL H ↔ ∀ (i j : Nat) r s, i ≠ j → H[i]? = some r → H[j]? = some s → ∀ b ∈ r.bl, b ∉ s.bl := by
  unfold apartL
  rw [List.pairwise_iff_getElem]
  constructor
  · intro h i j r s hij hi hj b hb hbs
    obtain ⟨i1, e1⟩ := List.getElem?_eq_some_iff.1 hi
    obtain ⟨j1, e2⟩ := List.getElem?_eq_some_iff.1 hj
    rcases Nat.lt_or_ge i j with h1 | h1
    · exact h i j i1 j1 h1 b (by rw [e1]; exact hb) (by rw [e2]; exact hbs)
    · exact h j i j1 i1 (by omega) b (by rw [e2]; exact hbs) (by rw [e1]; exact hb)
  · intro h i j hi hj hij
    exact h i j _ _ (by omega) (List.getElem?_eq_getElem hi) (List.getElem?_eq_getElem hj)
section
variable {w : World} {M : Hp} {X : Fr} {A B H H' : List Rs}
theorem SH.perm (S : SH w M X H) (h : H.Perm H') : SH w M X H' :=
  ⟨S.m, S.x, S.mx, fun r hr => S.ok r (h.mem_iff.2 hr), fun r hr => S.bl r (h.mem_iff.2 hr), apart_iff.1 ((h.pairwise_iff (fun {_ _} hrs b hb hbr => hrs b hbr hb)).1 (apart_iff.2 S.ap)), S.like⟩
theorem SH.bunC (S : SH w M X (A ++ B)) : SH w M X (Rs.bun A :: B) := by
  have hap := apart_iff.2 S.ap
  obtain ⟨h1, h2, h3⟩ := List.pairwise_append.1 hap
  refine ⟨S.m, S.x, S.mx, fun r hr => ?_, fun r hr b hb => ?_, apart_iff.1 (List.pairwise_cons.2 ⟨fun s hs b hb => ?_, h2⟩), S.like⟩
  · rcases List.mem_cons.1 hr with rfl | hr
    · exact ⟨fun r hr => S.ok r (by simp [hr]), apart_iff.1 h1⟩
    · exact S.ok r (by simp [hr])
  · rcases List.mem_cons.1 hr with rfl | hr
    · obtain ⟨q, hq, hb⟩ := List.mem_flatMap.1 hb
      exact S.bl q (by simp [hq]) b hb
    · exact S.bl r (by simp [hr]) b hb
  · obtain ⟨q, hq, hb⟩ := List.mem_flatMap.1 hb
    exact h3 q hq s hs b hb
theorem SH.unbunC (S : SH w M X (Rs.bun A :: B)) : SH w M X (A ++ B) := by
  obtain ⟨hok, hap⟩ := S.ok (Rs.bun A) (by simp)
  obtain ⟨h1, h2⟩ := List.pairwise_cons.1 (apart_iff.2 S.ap)
  refine ⟨S.m, S.x, S.mx, fun r hr => ?_, fun r hr b hb => ?_, apart_iff.1 (List.pairwise_append.2 ⟨apart_iff.2 hap, h2, fun r hr s hs b hb => h1 s hs b (List.mem_flatMap.2 ⟨r, hr, hb⟩)⟩), S.like⟩
  · rcases List.mem_append.1 hr with hr | hr
    · exact hok r hr
    · exact S.ok r (by simp [hr])
  · rcases List.mem_append.1 hr with hr | hr
    · exact S.bl (Rs.bun A) (by simp) b (List.mem_flatMap.2 ⟨r, hr, hb⟩)
    · exact S.bl r (by simp [hr]) b hb
end
def rgA : Code → Code
  | .rangeFunc _ _ a _ => a
  | c => c
def rgB : Code → Code
  | .rangeFunc _ _ _ b => b
  | c => c
namespace InF
section
variable {P : Program} {n : Nat} {C : Ctx} {c : Code} {s : List K} {L : List (Nat × Value)} {w : World} {M : Hp} {X : Fr} {H : List Rs}
/-- What is asked of the function that is ranged over: from s0 on each value that it yields takes one step; in the end fin holds. -/
def IterX {σ : Type} (P : Program) (f : FuncId) (lb : List Value) (s0 : σ) (stp : σ → Value → σ → Prop) (fin : σ → Prop) (M : Hp) (X : Fr) : Prop :=
  ∀ (l : Nat) (J : σ → Hp → Rs → Prop) (w : World) (M1 : Hp) (B : Rs), M.le M1 →
    (∀ k v k' M' B' H0 w', stp k v k' → M1.le M' → SH w' M' X (B' :: H0) → J k M' B' → YieldAt Fence.wide 0 P l #[v] w' fun e w'' => ∃ u, e = .returned u ∧ u = .bool true ∧ ∃ M'' B'', M'.le M'' ∧ SH w'' M'' X (B'' :: H0) ∧ J k' M'' B'') →
    SH w M1 X [B] → J s0 M1 B → CallsIn Fence.wide 0 P f ((Value.func (.yield l) #[] #[]) :: lb).toArray w fun e w' => (∃ v, e = .returned v) ∧ ∃ k M' B', fin k ∧ M1.le M' ∧ SH w' M' X [B'] ∧ J k M' B'
theorem ws_rangeFuncX {σ : Type} {s0 : σ} {stp : σ → Value → σ → Prop} {fin : σ → Prop} {p : Nat} {g : Operand} {asg bd : Code} {f : FuncId} {lb : List Value} (hr : C.r = none) (hc : c = .rangeFunc g #[p] asg bd) (hp' : Nat.blt p n = true) (hg : oev L g = some (.func (.func f) #[] lb.toArray)) (hen : ∀ args w, (callFunc f args).run P w = .ok (.enter f args) w)
    (S : SH w M X H) (I : σ → Hp → List Rs → Prop) (I1 : σ → Act → Hp → List Rs → Prop) (h0 : I s0 M H) (hit : IterX P f lb s0 stp fin M X)
    (hassign : ∀ (k k' : σ) (v : Value) (M' : Hp) (H' : List Rs) (w' : World) (C' : Ctx) (R0 : Rs), stp k v k' → M.le M' → SH w' M' X (R0 :: H') → I k M' H' → WS P n C' asg [.lp (fun a w'' => ∃ M'' H'', M'.le M'' ∧ SH w'' M'' X (R0 :: H'') ∧ I1 k' a M'' H'')] ((p, v) :: L) w')
    (hbody : ∀ (k : σ) (M' : Hp) (H' : List Rs) (w' : World) (C' : Ctx) (R0 : Rs) (a : Act), M.le M' → SH w' M' X (R0 :: H') → I1 k a M' H' → bd.wpIn C'.F 0 P (post P C' [.lp (fun _ w'' => ∃ M'' H'', M'.le M'' ∧ SH w'' M'' X (R0 :: H'') ∧ I k M'' H'')]) a w')
    (hdone : ∀ (k : σ) (a : Act) (M' : Hp) (H' : List Rs) (w' : World) (D l : Nat) (rc : Loop), fin k → Env n L a → M.le M' → SH w' M' X (Rs.lr l D rc :: H') → I k M' H' → post P C s .normal { a with defers := [{ target := .collected D, args := #[] }] } w') : WS P n C c s L w := by
  have hF : C.F = Fence.wide := by unfold Ctx.F; rw [hr]
  intro a ha
  subst hc
  rw [hF]
  refine wpIn_rangeFunc ?_
  intro fn _
  rw [show Fence.wide.round = none from rfl]
  obtain ⟨rec, hrec⟩ : ∃ rec : LoopState → Loop, rec = fun st => { state := st, pending := none, fn, tmps := a.tmps, params := #[p], assign := asg, body := bd, defers := w.heap.size } := ⟨_, rfl⟩
  obtain ⟨W1, hW1⟩ : ∃ W1, (w.alloc (.deferred (some []))).alloc (.loop (rec .ready)) = W1 := ⟨_, rfl⟩
  have hL1 : W1.heap[w.heap.size + 1]? = some (.loop (rec .ready)) := by
    rw [← hW1]; have := World.alloc_heap_new (w.alloc (.deferred (some []))) (.loop (rec .ready)); rwa [World.size_alloc] at this
  have hK1 : W1.heap[w.heap.size]? = some (.deferred (some [])) := by
    rw [← hW1]; exact (Below.heap_alloc _ _ _ (by simp)).trans (World.alloc_heap_new w _)
  have hkeep : ∀ b, b < w.heap.size → hp W1 b = hp w b := fun b hb => by
    rw [← hW1]
    exact (keep_alloc (w.alloc (.deferred (some []))) _ b (by rw [size_al]; omega)).trans (keep_alloc w _ b hb)
  have S1 : SH W1 M X (Rs.lr (w.heap.size + 1) w.heap.size (rec .ready) :: H) := by
    have hl : Like w W1 := by rw [← hW1]; exact (like_alloc w _).trans (like_alloc _ _)
    refine S.cons hl hkeep ⟨hL1, hK1⟩ (fun b hb => ?_)
    have hsz : W1.heap.size = w.heap.size + 2 := by rw [← hW1, size_al, size_al]
    simp only [Rs.lr, List.mem_cons, List.not_mem_nil, or_false] at hb
    omega
  have hdf : a.defers = [] := ha.df
  refine ⟨w.heap.size + 1, [{ target := .collected w.heap.size, args := #[] }], W1, { target := .fn (.func f) lb.toArray, args := #[.func (.yield (w.heap.size + 1)) #[] #[]] }, W1, f,
    #[.func (.yield (w.heap.size + 1)) #[] #[]] ++ lb.toArray, W1, ?_, ?_, fun _ _ => trivial, ?_, fun h => (by cases h), ?_⟩
  · rw [← hW1, hrec]; exact run_enterLoop_outer _ _ _ _ _
  · simp only [resolve, ha.eval hg]
    simp [go_sem]
  · simp [invoke, go_sem, hen]
  · rw [show (#[.func (.yield (w.heap.size + 1)) #[] #[]] ++ lb.toArray : Array Value) = ((Value.func (.yield (w.heap.size + 1)) #[] #[]) :: lb).toArray from by simp]
    refine (hit (w.heap.size + 1) (fun k M' B => ∃ H', B = Rs.bun (Rs.lr (w.heap.size + 1) w.heap.size (rec .ready) :: H') ∧ I k M' H') W1 M _ (Hp.le_refl _) ?_ S1.bun ⟨H, rfl, h0⟩).mono ?_
    · rintro k v k' M' B' H0 w' hk hle SB ⟨H', rfl, hI⟩
      have sw : ∀ (q : Rs) (A : List Rs), (q :: A ++ H0).Perm (q :: H0 ++ A) := fun q A => by simpa using (List.perm_append_comm : (A ++ H0).Perm (H0 ++ A))
      have S' := SB.unbunC.perm (sw _ _)
      obtain ⟨hl, hD⟩ := S'.ok (Rs.lr (w.heap.size + 1) w.heap.size (rec .ready)) (by simp)
      have hy := run_yield (P := P) (args := #[v]) hl (by rw [hrec]; rfl)
      rw [hrec] at hy
      refine ⟨fn, _, asg, bd, hy, roundIn_of_wpIn trivial ?_⟩
      have hC' : (Ctx.mk (fun _ _ _ => False) (some (w.heap.size + 1))).F = Fence.wide.inRound (w.heap.size + 1) := rfl
      have e1 : ((#[p] : Array Tmp).zip #[v]).foldl (fun tmps (t, a) => tmps.setIfInBounds t a) a.tmps = a.tmps.setIfInBounds p v := by simp
      rw [← hC']
      have hA := hassign k k' v M' H' w' (Ctx.mk (fun _ _ _ => False) (some (w.heap.size + 1))) (Rs.bun (Rs.lr (w.heap.size + 1) w.heap.size (rec .ready) :: H0)) hk hle S'.bunC hI _ (env_start ha (by simpa using hp'))
      rw [e1]
      refine wpIn_mono hA ?_
      rintro e a2 w2 hq
      cases e with
      | normal =>
        obtain ⟨M2, H2, hle2, S2b, hI1⟩ := hq
        have S2 := S2b.unbunC
        obtain ⟨hl2, _⟩ := S2.ok (Rs.lr (w.heap.size + 1) w.heap.size (rec .ready)) (by simp)
        refine ⟨_, run_beginRound hl2 (by rw [hrec]), ?_⟩
        have S3 := lr_put (rc' := { rec .ready with state := .busy }) S2
        refine wpIn_mono (hbody k' M2 H2 _ (Ctx.mk (fun _ _ _ => False) (some (w.heap.size + 1))) _ a2 (hle.trans hle2) (SH.bunC (A := Rs.lr (w.heap.size + 1) w.heap.size { rec .ready with state := .busy } :: H0) (B := H2) S3) hI1) ?_
        rintro e a3 w3 hq3
        cases e with
        | normal =>
          obtain ⟨M4, H4, hle4, S4b, hI4⟩ := hq3
          have S4 := S4b.unbunC
          obtain ⟨hl4, _⟩ := S4.ok (Rs.lr (w.heap.size + 1) w.heap.size { rec .ready with state := .busy }) (by simp)
          have he := run_endRound (P := P) none hl4
          have S5 := lr_put (rc' := rec .ready) S4
          refine ⟨_, _, he, _, rfl, rfl, M4, Rs.bun (Rs.lr (w.heap.size + 1) w.heap.size (rec .ready) :: H4), hle2.trans hle4, ?_, H4, rfl, hI4⟩
          have e2 : ({ ({ rec .ready with state := .busy } : Loop) with state := (if (none : Option Code).isNone = true then LoopState.ready else LoopState.done), pending := none } : Loop) = rec .ready := by rw [hrec]; rfl
          rw [e2]
          exact SH.bunC (A := Rs.lr (w.heap.size + 1) w.heap.size (rec .ready) :: H4) (B := H0) (SH.perm (H := Rs.lr (w.heap.size + 1) w.heap.size (rec .ready) :: H0 ++ H4) S5 (sw (Rs.lr (w.heap.size + 1) w.heap.size (rec .ready)) H4).symm)
        | _ => exact hq3.elim
      | _ => exact hq.elim
    · rintro e w2 ⟨⟨v, rfl⟩, k, M', B', hfin, hle, SB, H', rfl, hI⟩
      have S' := SB.unbun
      obtain ⟨hl, hD⟩ := S'.ok (Rs.lr (w.heap.size + 1) w.heap.size (rec .ready)) (by simp)
      have he := run_endLoop (P := P) hl (by rw [hrec]; simp)
      refine ⟨none, w2.putObj (w.heap.size + 1) (.loop { rec .ready with state := .exhausted }), by rw [he, hrec], ?_⟩
      have := hdone k a M' H' _ w.heap.size (w.heap.size + 1) _ hfin ha hle (lr_put (rc' := { rec .ready with state := .exhausted }) S') hI
      rw [hdf]
      exact this
end
end InF
end Go.Proofs.Ytkcighnochjlgaa
set_option linter.unusedSimpArgs false
set_option linter.unusedVariables false
namespace Go.Proofs.Ytkcighnochjlgaa
open Go.ChangeShapes Go.WideShapes Go.ChangeAt Go.RowKit
def KeysR (g : Nat) (u : Value) (M : Hp) : Prop := ∃ b, u = .func (.func 144) #[] [.pointer (some ⟨b, 0, none⟩)].toArray ∧ BxM M b 87 [.map (some g)]
theorem SH.pubB2 {w : World} {M : Hp} {X : Fr} {H H' : List Rs} {i g : Nat} {T : TypeId} {l : List Value} (S : SH w M X H) (hi : nth H i = some (Rs.box g T l)) (hH : H.set i Rs.emp = H') : ∃ M', M.le M' ∧ SH w M' X H' ∧ BxM M' g T l := by
  obtain ⟨h1, h2, h3⟩ := S.pub hi hH
  refine ⟨_, h1, h2, ?_⟩
  show (M.put w _) g = _
  rw [h3 g (by simp [Rs.box])]
  exact S.get hi
/-- One key more. -/
def stpK (s : List Int × List Int) (v : Value) (s' : List Int × List Int) : Prop := ∃ dn l1 x l2, s = (dn, l1 ++ x :: l2) ∧ v = .int .i64 x ∧ s' = (dn ++ [x], l1 ++ l2)
noncomputable def Keys_n0 : Code := Try.f106.body.getD .skip
noncomputable def Keys_n1 : Code := cL Keys_n0
noncomputable def Keys_n2 : Code := cR Keys_n0
noncomputable def Keys_n3 : Code := cL Keys_n2
noncomputable def Keys_n4 : Code := cR Keys_n2
set_option maxRecDepth 10000 in
theorem Keys_t {w : World} {M : Hp} {X : Fr} (es : List (Int × Int)) {ges : Nat} (hmes : MpOk (Value.int .i64) (Value.int .i64) ges es M) (S : SH w M X []) : Ct Try.prog 106 [.map (some ges)] w M X (KeysR ges) := by
  unfold Ct
  refine calls_in (b := Keys_n0) Try.func106 rfl Try.ntmps106 rfl (fun C hC => ?_)
  refine ws_sub [(0, _)] ⟨rfl, trivial⟩ ?_
  refine ws_seqN Keys_n1 Keys_n2 rfl rfl rfl ?_
  refine ws_region rfl ?_
  refine wl_op (k := 0) (k' := 1) rfl rfl rfl (wo_box (l := [_]) rfl rfl rfl rfl rfl S ?_)
  intro gb1 w1 S1; clear S
  refine wl_op (k := 1) (k' := 2) rfl rfl rfl (wo_run rfl rfl (run_assign rfl rfl) ?_)
  refine wl_end rfl ?_
  refine nm_sub [(1, _)] ⟨rfl, trivial⟩ ?_
  refine nm_thn ?_
  refine ws_seqN Keys_n3 Keys_n4 rfl rfl rfl ?_
  refine ws_region rfl ?_
  refine wl_op (k := 0) (k' := 1) rfl rfl rfl (wo_run rfl rfl (run_makeFunc (vs := [_]) rfl rfl rfl rfl) ?_)
  refine wl_op (k := 1) (k' := 2) rfl rfl rfl (wo_run rfl rfl (run_assign rfl rfl) ?_)
  refine wl_end rfl ?_
  refine nm_sub [(2, _)] ⟨rfl, trivial⟩ ?_
  refine nm_thn ?_
  obtain ⟨M1, hle1, S2, hbx1⟩ := S1.pubB2 (i := 0) (H' := [_]) rfl rfl
  clear S1
  replace hmes := hmes.mono hle1
  refine ws_ret hC [_] rfl rfl ⟨rfl, trivial⟩ ?_
  refine ⟨_, rfl, _, hle1, (S2.pick [] [] (by decide) trivial), ?_⟩
  exact ⟨_, rfl, hbx1⟩
namespace InF
noncomputable def Keys1_n0 : Code := Try.f144.body.getD .skip
noncomputable def Keys1_n1 : Code := cL Keys1_n0
noncomputable def Keys1_n2 : Code := cR Keys1_n0
noncomputable def Keys1_n3 : Code := cL Keys1_n2
noncomputable def Keys1_n4 : Code := cL Keys1_n3
noncomputable def Keys1_n5 : Code := cL Keys1_n4
noncomputable def Keys1_n6 : Code := cR Keys1_n4
noncomputable def Keys1_n7 : Code := cL Keys1_n6
noncomputable def Keys1_n8 : Code := cR Keys1_n6
noncomputable def Keys1_n9 : Code := cL Keys1_n7
noncomputable def Keys1_n10 : Code := cR Keys1_n7
noncomputable def Keys1_n11 : Code := cL Keys1_n8
noncomputable def Keys1_n12 : Code := cL Keys1_n11
noncomputable def Keys1_n13 : Code := cR Keys1_n11
noncomputable def Keys1_n14 : Code := cL Keys1_n13
noncomputable def Keys1_n15 : Code := cR Keys1_n13
noncomputable def Keys1_n17 : Code := cR Keys1_n15
set_option maxRecDepth 10000 in
theorem Keys1_iter {M : Hp} {X : Fr} {es : List (Int × Int)} {gm b : Nat} (hm : MpOk (Value.int .i64) (Value.int .i64) gm es M) (hbx : BxM M b 87 [.map (some gm)]) : IterX Try.prog 144 [.pointer (some ⟨b, 0, none⟩)] ([], es.map Prod.fst) stpK (fun s => s.2 = []) M X := by
  intro l J w M1 B hle0 hY S hJ0
  replace hm := hm.mono hle0
  replace hbx := hbx.mono hle0
  refine calls_in (b := Keys1_n0) Try.func144 rfl Try.ntmps144 rfl (fun C hCr hC => ?_)
  have hCF : C.F = Fence.wide := by unfold Ctx.F; rw [hCr]
  refine ws_sub [(0, _), (1, _)] ⟨rfl, rfl, trivial⟩ ?_
  refine ws_seqN Keys1_n1 Keys1_n2 rfl rfl rfl ?_
  refine ws_region rfl ?_
  refine wl_op (k := 0) (k' := 1) rfl rfl rfl (wo_run rfl rfl (run_load1 rfl rfl Try.underlying87 rfl (hbx.cell S.m rfl)) ?_)
  obtain ⟨arr1, clk1, hE1⟩ := hm.ents
  refine wl_op (k := 1) (k' := 2) rfl rfl rfl (wo_range rfl rfl rfl rfl Try.underlying87 S hE1 S.m ?_)
  intro r1 w1 S1; clear S
  refine wl_end rfl ?_
  refine nm_sub [(0, _), (5, _)] ⟨rfl, rfl, trivial⟩ ?_
  refine nm_thn ?_
  refine ws_blockN Keys1_n3 0 rfl rfl rfl ?_
  refine ws_loopE (fun mx_ ax_ wx_ => ∃ (sn : Array Nat) (dn : List (Int × Int)) (lf : List (Int × Int)) (B1 : Rs) (M2 : Hp), M1.le M2 ∧ mx_ = lf.length ∧ Env 14 [(0, .func (.yield l) #[] #[]), (5, .pointer (some ⟨r1, 0, none⟩))] ax_ ∧ SH wx_ M2 X [Rs.itr gm clk1 r1 sn, B1] ∧ Lft (Value.int .i64) (Value.int .i64) arr1 sn lf ∧ (dn ++ lf).Perm es ∧ J (dn.map Prod.fst, lf.map Prod.fst) M2 B1) rfl ?_ ?_
  · intro ax_ hax_
    refine ⟨_, ⟨#[], [], es, _, _, Hp.le_refl _, rfl, hax_.sub ⟨rfl, rfl, trivial⟩, S1.pick [0, 1] [_, _] (by decide) ⟨rfl, rfl, trivial⟩, ?hq1f0, ?hq1f1, ?hq1f2⟩⟩
    case hq1f0 => exact hE1.lft
    case hq1f1 => exact List.Perm.refl _
    case hq1f2 => exact hJ0
  · rintro m1 a1 w2 ⟨sn, dn, lf, B1, M2, hle1, rfl, he1, S2, hlf, hpm, hJa⟩
    clear S1
    refine ws_in he1 (c := Keys1_n4) rfl ?_
    clear he1 a1
    replace hbx := hbx.mono hle1
    replace hm := hm.mono hle1
    replace hE1 := hE1.mono hle1
    refine ws_seqN Keys1_n5 Keys1_n6 rfl rfl rfl ?_
    refine ws_region rfl ?_
    refine wl_op (k := 0) (k' := 1) rfl rfl rfl (wo_next (i := 0) rfl rfl rfl rfl S2 rfl hE1 S2.m hlf (fun hlf1 => ?_) (fun k1 v1 l1_1 l2_1 sn1 w3 hlf1 hlft1 hlst1 S3 => ?_))
    · refine wl_op (k := 1) (k' := 2) rfl rfl rfl (wo_run rfl rfl (run_extract rfl rfl rfl) ?_)
      refine wl_end rfl ?_
      refine nm_sub [(0, _), (5, _), (7, _)] ⟨rfl, rfl, rfl, trivial⟩ ?_
      refine nm_thn ?_
      refine ws_seqN Keys1_n7 Keys1_n8 rfl rfl rfl ?_
      refine ws_condFN Keys1_n10 rfl rfl rfl ?_
      refine ws_exit rfl rfl ?_
      refine nm_end hC [] rfl trivial ?_
      obtain rfl : lf = [] := hlf1
      exact ⟨⟨_, rfl⟩, _, _, _, rfl, hle1, S2.pick [1] [_] (by decide) ⟨rfl, trivial⟩, hJa⟩
    · clear S2
      change SH _ _ _ [Rs.itr gm clk1 r1 sn1, _] at S3
      refine wl_op (k := 1) (k' := 2) rfl rfl rfl (wo_run rfl rfl (run_extract rfl rfl rfl) ?_)
      refine wl_end rfl ?_
      refine nm_sub [(0, _), (5, _), (7, _)] ⟨rfl, rfl, rfl, trivial⟩ ?_
      refine nm_thn ?_
      refine ws_seqN Keys1_n7 Keys1_n8 rfl rfl rfl ?_
      refine ws_condTN Keys1_n9 rfl rfl rfl ?_
      refine ws_skip rfl ?_
      refine nm_sub [(0, _), (5, _)] ⟨rfl, rfl, trivial⟩ ?_
      refine nm_thn ?_
      refine ws_blockN Keys1_n11 1 rfl rfl rfl ?_
      refine ws_seqN Keys1_n12 Keys1_n13 rfl rfl rfl ?_
      refine ws_region rfl ?_
      refine wl_op (k := 0) (k' := 1) rfl rfl rfl (wo_run rfl rfl (run_entry (i := 0) rfl rfl S3 rfl hE1 S3.m hlst1) ?_)
      refine wl_op (k := 1) (k' := 2) rfl rfl rfl (wo_run rfl rfl (run_extract rfl rfl rfl) ?_)
      refine wl_op (k := 2) (k' := 3) rfl rfl rfl (wo_run rfl rfl (run_assign rfl rfl) ?_)
      refine wl_end rfl ?_
      refine nm_sub [(0, _), (5, _), (3, _)] ⟨rfl, rfl, rfl, trivial⟩ ?_
      refine nm_thn ?_
      refine ws_seqN Keys1_n14 Keys1_n15 rfl rfl rfl ?_
      refine ws_region rfl ?_
      refine wl_op (k := 0) (k' := 1) rfl rfl rfl (wo_run rfl rfl (run_move rfl rfl) ?_)
      refine wl_op (k := 1) (k' := 2) rfl rfl rfl (wo_run rfl rfl (run_move rfl rfl) ?_)
      have hst : stpK (dn.map Prod.fst, lf.map Prod.fst) (.int .i64 k1) ((dn ++ [(k1, v1)]).map Prod.fst, (l1_1 ++ l2_1).map Prod.fst) := ⟨dn.map Prod.fst, l1_1.map Prod.fst, k1, l2_1.map Prod.fst, by rw [hlf1]; simp, rfl, by simp⟩
      have S4 := S3.perm (List.Perm.swap _ _ _)
      refine wl_yield (k := 2) (k' := 3) rfl rfl rfl rfl rfl rfl rfl rfl rfl rfl (by rw [hCF]; exact hY _ _ _ _ _ [_] _ hst (hle1) S4 hJa) ?_
      rintro _ w4 ⟨rfl, M3, B6, hle2, S5, hJ1⟩; clear S3
      replace hbx := hbx.mono hle2
      replace hm := hm.mono hle2
      replace hE1 := hE1.mono hle2
      refine wl_op (k := 3) (k' := 4) rfl rfl rfl (wo_run rfl rfl (run_not rfl rfl) ?_)
      refine wl_end rfl ?_
      refine nm_sub [(0, _), (5, _), (13, _)] ⟨rfl, rfl, rfl, trivial⟩ ?_
      refine nm_thn ?_
      refine ws_condFN Keys1_n17 rfl rfl rfl ?_
      refine ws_skip rfl ?_
      refine nm_blk ?_
      refine nm_lp ?_
      intro ax_ hax_
      refine ⟨_, ?hq2m, ⟨sn1, dn ++ [(k1, v1)], l1_1 ++ l2_1, _, _, (hle1.trans hle2), rfl, hax_.sub ⟨rfl, rfl, trivial⟩, S5.pick [1, 0] [_, _] (by decide) ⟨rfl, rfl, trivial⟩, ?hq2f0, ?hq2f1, ?hq2f2⟩⟩
      case hq2f0 => assumption
      case hq2f1 => (refine List.Perm.trans ?_ hpm; simp only [*, List.append_assoc, List.cons_append, List.nil_append]; exact (List.perm_append_left_iff _).2 (List.perm_middle.symm))
      case hq2f2 => assumption
      case hq2m => (simp only [*, List.length_append, List.length_cons]; omega)
end InF
noncomputable def ASeq_rf : Code := cL (cR (cL (cR (Try.f160.body.getD .skip))))
/-- What holds between two rounds. -/
def ASeqI (ks : List Int) (g2 : Nat) (s : List Int × List Int) (M : Hp) (H : List Rs) : Prop := ∃ v, H = [Rs.row cdInt v s.1, Rs.box g2 36 [v]] ∧ (s.1 ++ s.2).Perm ks
def ASeqI1 (ks : List Int) (g2 : Nat) (s : List Int × List Int) (a : Act) (M : Hp) (H : List Rs) : Prop := ∃ v dn x, Env 13 [(2, .pointer (some ⟨g2, 0, none⟩)), (5, .int .i64 x)] a ∧ H = [Rs.row cdInt v dn, Rs.box g2 36 [v]] ∧ s.1 = dn ++ [x] ∧ (s.1 ++ s.2).Perm ks
namespace InF
set_option maxRecDepth 10000 in
theorem ASeq_assign {w : World} {M : Hp} {X : Fr} {ks : List Int} {gq2 : Nat} {C : Ctx} {R0 : Rs} {H : List Rs} {L : List (Nat × Value)} {k k1 : List Int × List Int} {u : Value} (hL : Sub L [(2, .pointer (some ⟨gq2, 0, none⟩)), (7, u)]) (hst : stpK k u k1) (S : SH w M X (R0 :: H)) (hI : ASeqI ks gq2 k M H) :
    WS Try.prog 13 C (rgA ASeq_rf) [.lp (fun a w2 => ∃ M2 H2, M.le M2 ∧ SH w2 M2 X (R0 :: H2) ∧ ASeqI1 ks gq2 k1 a M2 H2)] L w := by
  obtain ⟨dn, l1, x, l2, rfl, rfl, rfl⟩ := hst
  obtain ⟨vro, rfl, hpm⟩ := hI
  change SH w M X [R0, Rs.row cdInt vro dn, _] at S
  refine ws_sub _ hL ?_
  refine ws_region rfl ?_
  refine wl_op (k := 0) (k' := 1) rfl rfl rfl (wo_run rfl rfl (run_assign rfl rfl) ?_)
  refine wl_end rfl ?_
  refine nm_lp ?_
  intro ax_ hax_
  refine ⟨M, _, Hp.le_refl _, S.pick [0, 1, 2] [_, _, _] (by decide) ⟨rfl, rfl, rfl, trivial⟩, vro, dn, x, hax_.sub ⟨rfl, rfl, trivial⟩, rfl, rfl, ?_⟩
  refine List.Perm.trans ?_ hpm
  show ((dn ++ [x]) ++ (l1 ++ l2)).Perm (dn ++ (l1 ++ x :: l2))
  rw [List.append_assoc]
  exact (List.perm_append_left_iff _).2 (show (x :: (l1 ++ l2)).Perm (l1 ++ x :: l2) from List.perm_middle.symm)
noncomputable def ASeqB_n1 : Code := rgB ASeq_rf
noncomputable def ASeqB_n2 : Code := cL ASeqB_n1
set_option maxRecDepth 10000 in
theorem ASeq_body {w : World} {M : Hp} {X : Fr} {ks : List Int} {gq2 : Nat} (hks : ks.length ≤ 2199023255553) {C : Ctx} {R0 : Rs} {H : List Rs} {a : Act} {k : List Int × List Int} (S : SH w M X (R0 :: H)) (hI1 : ASeqI1 ks gq2 k a M H) :
    (rgB ASeq_rf).wpIn C.F 0 Try.prog (post Try.prog C [.lp (fun _ w2 => ∃ M2 H2, M.le M2 ∧ SH w2 M2 X (R0 :: H2) ∧ ASeqI ks gq2 k M2 H2)]) a w := by
  obtain ⟨vro, dn, x, ha, rfl, hd, hpm⟩ := hI1
  obtain ⟨k1, lf⟩ := k
  dsimp only at hd hpm
  subst hd
  have hlen := hpm.length_eq
  simp only [List.length_append, List.length_cons, List.length_nil] at hlen
  change SH w M X [R0, Rs.row cdInt vro dn, _] at S
  refine ws_in ha (c := rgB ASeq_rf) rfl ?_
  refine ws_blockN ASeqB_n2 1 rfl rfl rfl ?_
  refine ws_region rfl ?_
  refine wl_op (k := 0) (k' := 1) rfl rfl rfl (wo_run rfl rfl (run_load1 rfl rfl Try.underlying36 rfl (S.boxc (i := 2) rfl rfl)) ?_)
  refine wl_op (k := 1) (k' := 2) rfl rfl rfl (wo_run rfl rfl (run_move rfl rfl) ?_)
  refine wl_op (k := 2) (k' := 3) rfl rfl rfl (wo_buildSlice1 (C := cdInt) (l := [_]) rfl rfl rfl rfl sl36 rfl rfl rfl rfl S ?_)
  intro gb1 w1 S1; clear S
  refine wl_op (k := 3) (k' := 4) rfl rfl rfl (wo_append1 (C := cdInt) (i := 2) (q := 0) x rfl rfl rfl rfl rfl rfl rfl rfl sl36 S1 rfl rfl rfl (by show (_ + 1) * 8 ≤ _; first | omega | (simp only [List.length_set, List.length_append, List.length_replicate, List.length_singleton, List.length_cons, List.length_nil]; omega)) ?_)
  intro vro1 w2 S2; clear S1
  have S3 := S2.pick [1, 2, 3] [_, _, _] (by decide) ⟨rfl, rfl, rfl, trivial⟩; clear S2
  refine wl_op (k := 4) (k' := 5) rfl rfl rfl (wo_storeB (i := 2) (us := [_]) (l' := [_]) (H' := [_, _, _]) rfl rfl S3 rfl rfl rfl (S3.cells1 (i := 1) rfl) sz36 rfl (ones_cons (S3.one (i := 1) rfl) rfl) rfl rfl ?_)
  intro w3 S4; clear S3
  refine wl_end rfl ?_
  refine nm_blk ?_
  refine nm_lp ?_
  intro ax_ hax_
  exact ⟨_, _, Hp.le_refl _, S4.pick [0, 1, 2] [_, _, _] (by decide) ⟨rfl, rfl, rfl, trivial⟩, _, rfl, hpm⟩
noncomputable def ASeq_n0 : Code := Try.f160.body.getD .skip
noncomputable def ASeq_n1 : Code := cL ASeq_n0
noncomputable def ASeq_n2 : Code := cR ASeq_n0
noncomputable def ASeq_n3 : Code := cL ASeq_n2
noncomputable def ASeq_n4 : Code := cR ASeq_n2
noncomputable def ASeq_n5 : Code := cL ASeq_n3
noncomputable def ASeq_n6 : Code := cR ASeq_n3
noncomputable def ASeq_n7 : Code := cL ASeq_n6
set_option maxRecDepth 10000 in
theorem AppendSeq_o {w : World} {M : Hp} {X : Fr} {es : List (Int × Int)} {gm b : Nat} (hm : MpOk (Value.int .i64) (Value.int .i64) gm es M) (hbx : BxM M b 87 [.map (some gm)]) (hks : (es.map Prod.fst).length ≤ 2199023255553) (S : SH w M X []) : Co Try.prog 160 [.slice none 0 0, .func (.func 144) #[] [.pointer (some ⟨b, 0, none⟩)].toArray] w M X fun u N => ∃ ks, ks.Perm (es.map Prod.fst) ∧ N = [Rs.row cdInt u ks] := by
  unfold Co
  refine calls_marks (b := ASeq_n0) Try.func160 rfl Try.ntmps160 rfl (fun C hCr hC => ?_)
  refine ws_sub [(0, _), (1, _)] ⟨rfl, rfl, trivial⟩ ?_
  refine ws_seqN ASeq_n1 ASeq_n2 rfl rfl rfl ?_
  refine ws_region rfl ?_
  refine wl_op (k := 0) (k' := 1) rfl rfl rfl (wo_box (l := [_]) rfl rfl rfl rfl rfl S ?_)
  intro gb1 w1 S1; clear S
  refine wl_op (k := 1) (k' := 2) rfl rfl rfl (wo_run rfl rfl (run_assign rfl rfl) ?_)
  refine wl_end rfl ?_
  refine nm_sub [(1, _), (2, _)] ⟨rfl, rfl, trivial⟩ ?_
  refine nm_thn ?_
  refine ws_seqN ASeq_n3 ASeq_n4 rfl rfl rfl ?_
  refine ws_seqN ASeq_n5 ASeq_n6 rfl rfl rfl ?_
  refine ws_region rfl ?_
  refine wl_op (k := 0) (k' := 1) rfl rfl rfl (wo_run rfl rfl (run_move rfl rfl) ?_)
  refine wl_end rfl ?_
  refine nm_sub [(2, _), (6, _)] ⟨rfl, rfl, trivial⟩ ?_
  refine nm_thn ?_
  refine ws_blockN ASeq_n7 0 rfl rfl rfl ?_
  have S9 := (S1.nilrow cdInt)
  refine ws_rangeFuncX (p := 7) (f := 144) (lb := [_]) (asg := rgA ASeq_rf) (bd := rgB ASeq_rf) hCr rfl rfl rfl cf144 S9 (ASeqI (es.map Prod.fst) gb1) (ASeqI1 (es.map Prod.fst) gb1) ?_ (Keys1_iter hm hbx) ?_ ?_ ?_
  · exact ⟨.slice none 0 0, rfl, List.Perm.refl _⟩
  · intro k k1 v M' H' w' C' R0 hk hle S' hI
    exact ASeq_assign ⟨rfl, rfl, trivial⟩ hk S' hI
  · intro k M' H' w' C' R0 a hle S' hI1
    exact ASeq_body hks S' hI1
  · intro k a M' H' w' D l rc hfin ha hle S' hI
    obtain ⟨dn, lf⟩ := k
    obtain rfl : lf = [] := hfin
    obtain ⟨vro, rfl, hpm⟩ := hI
    change SH w' M' X [Rs.lr l D rc, Rs.row cdInt vro dn, _] at S'
    refine tail_la (c := ASeq_n4) (i := 4) (d1 := 12) (d2 := 4) (v := vro) hC rfl rfl rfl rfl rfl rfl rfl ha rfl Try.underlying36 rfl rfl rfl rfl S' (S'.boxc (i := 2) rfl rfl) (fun w2 S2 => ?_)
    refine ⟨_, rfl, [Rs.row cdInt vro dn], (S2.down hle).pick [0] [_] (by decide) ⟨rfl, trivial⟩, dn, ?_, rfl⟩
    simpa using hpm
end InF
end Go.Proofs.Ytkcighnochjlgaa
set_option linter.unusedSimpArgs false
set_option linter.unusedVariables false
namespace Go.Proofs.Ytkcighnochjlgaa
open Go.ChangeShapes Go.WideShapes Go.ChangeAt Go.RowKit
theorem inc_ext : ∀ {a b : List Int}, a.Pairwise (fun s t => s < t) → b.Pairwise (fun s t => s < t) → (∀ t, t ∈ a ↔ t ∈ b) → a = b
  | [], [], _, _, _ => rfl
  | [], t :: b, _, _, h => by have := (h t).2 (by simp); simp at this
  | t :: a, [], _, _, h => by have := (h t).1 (by simp); simp at this
  | s :: a, t :: b, ha, hb, h => by
    obtain ⟨a1, a2⟩ := List.pairwise_cons.1 ha
    obtain ⟨b1, b2⟩ := List.pairwise_cons.1 hb
    have hst : s = t := by
      rcases List.mem_cons.1 ((h s).1 (by simp)) with e | h1
      · exact e
      · rcases List.mem_cons.1 ((h t).2 (by simp)) with e | h2
        · exact e.symm
        · have := a1 t h2; have := b1 s h1; omega
    subst hst
    refine congrArg _ (inc_ext a2 b2 fun u => ⟨fun hu => ?_, fun hu => ?_⟩)
    · rcases List.mem_cons.1 ((h u).1 (by simp [hu])) with e | h1
      · subst e; have := a1 u hu; omega
      · exact h1
    · rcases List.mem_cons.1 ((h u).2 (by simp [hu])) with e | h1
      · subst e; have := b1 u hu; omega
      · exact h1
theorem srt_eq {a b : List Int} (h : a.Perm b) (hn : b.Nodup) : srt a = srt b := inc_ext (srt_inc (h.nodup_iff.2 hn)) (srt_inc hn) fun t => by rw [srt_mem, srt_mem, h.mem_iff]
theorem Ents.at_ {es dn l1 l2 : List (Int × Int)} {B : Nat} (h : Ents es B) {k v : Int} {lf : List (Int × Int)} (hp : (dn ++ lf).Perm es) (hl : lf = l1 ++ (k, v) :: l2) : (-(B : Int) ≤ k ∧ k ≤ B) ∧ wr v = v := h.2 (k, v) (hp.mem_iff.1 (by rw [hl]; simp))
theorem mk_snoc (dn : List (Int × Int)) (k v : Int) : mk (dn ++ [(k, v)]) = mk dn + mono k v := by
  rw [mk_append]
  show _ + (mono k v + Pol.o) = _
  rw [Pol.add_zero]
theorem plus_step {es dn ws : List (Int × Int)} {k v : Int} (h : mk es = mk ws + mk dn) : mk (mp k (wr ((mg k es).getD 0 + v)) es) = mk ws + mk (dn ++ [(k, v)]) := by
  rw [mk_mp_add, h, mk_snoc, Pol.add_assoc]
theorem of_step {es : List (Int × Int)} {a : List Tm} {i : Nat} (hi : i < a.length) (h : mk es = mk (pr (a.take i))) : mk (mp (ga a i).e (wr ((mg (ga a i).e es).getD 0 + (ga a i).c)) es) = mk (pr (a.take (i + 1))) := by
  rw [mk_mp_add, h, mk_take hi]
noncomputable def Collect_n0 : Code := Try.f142.body.getD .skip
noncomputable def Collect_n1 : Code := cL Collect_n0
noncomputable def Collect_n2 : Code := cR Collect_n0
noncomputable def Collect_n3 : Code := cL Collect_n2
noncomputable def Collect_n4 : Code := cR Collect_n2
set_option maxRecDepth 10000 in
theorem Collect_o {w : World} {M : Hp} {X : Fr} {es : List (Int × Int)} {gm b : Nat} (hm : MpOk (Value.int .i64) (Value.int .i64) gm es M) (hbx : BxM M b 87 [.map (some gm)]) (hks : (es.map Prod.fst).length ≤ 2199023255553) (S : SH w M X []) : Co Try.prog 142 [.func (.func 144) #[] [.pointer (some ⟨b, 0, none⟩)].toArray] w M X (fun u N => ∃ ks, ks.Perm (es.map Prod.fst) ∧ N = [Rs.row cdInt u ks]) := by
  unfold Co
  refine calls_in (b := Collect_n0) Try.func142 rfl Try.ntmps142 rfl (fun C hC => ?_)
  refine ws_sub [(0, _)] ⟨rfl, trivial⟩ ?_
  refine ws_seqN Collect_n1 Collect_n2 rfl rfl rfl ?_
  refine ws_region rfl ?_
  refine wl_op (k := 0) (k' := 1) rfl rfl rfl (wo_run rfl rfl (run_assign rfl rfl) ?_)
  refine wl_end rfl ?_
  refine nm_sub [(0, _)] ⟨rfl, trivial⟩ ?_
  refine nm_thn ?_
  refine ws_seqN Collect_n3 Collect_n4 rfl rfl rfl ?_
  refine ws_region rfl ?_
  refine wl_op (k := 0) (k' := 1) rfl rfl rfl (wo_run rfl rfl (run_move rfl rfl) ?_)
  refine wl_op (k := 1) (k' := 2) rfl rfl rfl (wo_co rfl rfl rfl rfl rfl rfl rfl cf160 S (InF.AppendSeq_o hm hbx hks S.lend) ?_)
  intro vw1 w1 Nw1 S1 hRw1; clear S
  obtain ⟨ksw1, hksw1, rfl⟩ := hRw1
  change SH _ _ _ [_] at S1
  refine wl_op (k := 2) (k' := 3) rfl rfl rfl (wo_run rfl rfl (run_assign rfl rfl) ?_)
  refine wl_end rfl ?_
  refine nm_sub [(2, _)] ⟨rfl, trivial⟩ ?_
  refine nm_thn ?_
  refine ws_ret hC [_] rfl rfl ⟨rfl, trivial⟩ ?_
  exact ⟨_, rfl, _, S1.pick [0] [_] (by decide) ⟨rfl, trivial⟩, _, hksw1, rfl⟩
noncomputable def Sorted_n0 : Code := Try.f105.body.getD .skip
noncomputable def Sorted_n1 : Code := cL Sorted_n0
noncomputable def Sorted_n2 : Code := cR Sorted_n0
noncomputable def Sorted_n3 : Code := cL Sorted_n2
noncomputable def Sorted_n4 : Code := cR Sorted_n2
noncomputable def Sorted_n5 : Code := cL Sorted_n4
noncomputable def Sorted_n6 : Code := cR Sorted_n4
noncomputable def Sorted_n7 : Code := cL Sorted_n6
noncomputable def Sorted_n8 : Code := cR Sorted_n6
set_option maxRecDepth 10000 in
theorem Sorted_o {w : World} {M : Hp} {X : Fr} {es : List (Int × Int)} {gm b : Nat} (hm : MpOk (Value.int .i64) (Value.int .i64) gm es M) (hbx : BxM M b 87 [.map (some gm)]) (hks : (es.map Prod.fst).length ≤ 2199023255553) (hn : (es.map Prod.fst).Nodup) (S : SH w M X []) : Co Try.prog 105 [.func (.func 144) #[] [.pointer (some ⟨b, 0, none⟩)].toArray] w M X (fun u N => N = [Rs.row cdInt u (srt (es.map Prod.fst))]) := by
  unfold Co
  refine calls_in (b := Sorted_n0) Try.func105 rfl Try.ntmps105 rfl (fun C hC => ?_)
  refine ws_sub [(0, _)] ⟨rfl, trivial⟩ ?_
  refine ws_seqN Sorted_n1 Sorted_n2 rfl rfl rfl ?_
  refine ws_region rfl ?_
  refine wl_op (k := 0) (k' := 1) rfl rfl rfl (wo_run rfl rfl (run_assign rfl rfl) ?_)
  refine wl_end rfl ?_
  refine nm_sub [(0, _)] ⟨rfl, trivial⟩ ?_
  refine nm_thn ?_
  refine ws_seqN Sorted_n3 Sorted_n4 rfl rfl rfl ?_
  refine ws_region rfl ?_
  refine wl_op (k := 0) (k' := 1) rfl rfl rfl (wo_run rfl rfl (run_move rfl rfl) ?_)
  refine wl_op (k := 1) (k' := 2) rfl rfl rfl (wo_co rfl rfl rfl rfl rfl rfl rfl cf142 S (Collect_o hm hbx hks S.lend) ?_)
  intro vw1 w1 Nw1 S1 hRw1; clear S
  obtain ⟨ksw1, hksw1, rfl⟩ := hRw1
  change SH _ _ _ [_] at S1
  refine wl_op (k := 2) (k' := 3) rfl rfl rfl (wo_run rfl rfl (run_assign rfl rfl) ?_)
  refine wl_end rfl ?_
  refine nm_sub [(3, _)] ⟨rfl, trivial⟩ ?_
  refine nm_thn ?_
  refine ws_seqN Sorted_n5 Sorted_n6 rfl rfl rfl ?_
  refine ws_region rfl ?_
  refine wl_op (k := 0) (k' := 1) rfl rfl rfl (wo_run rfl rfl (run_move rfl rfl) ?_)
  refine wl_op (k := 1) (k' := 2) rfl rfl rfl (wo_c1 rfl rfl rfl rfl rfl rfl rfl cf143 S1 (i := 0) rfl (sort_w (by have := hksw1.length_eq; omega) (S1.lend1 (i := 0) rfl)) ?_)
  rintro vw2 w2 _ _ - S2 ⟨rfl, rfl, rfl⟩; clear S1
  change SH _ _ _ [_] at S2
  refine wl_end rfl ?_
  refine nm_sub [(3, _)] ⟨rfl, trivial⟩ ?_
  refine nm_thn ?_
  refine ws_seqN Sorted_n7 Sorted_n8 rfl rfl rfl ?_
  refine ws_region rfl ?_
  refine wl_op (k := 0) (k' := 1) rfl rfl rfl (wo_run rfl rfl (run_move rfl rfl) ?_)
  refine wl_op (k := 1) (k' := 2) rfl rfl rfl (wo_run rfl rfl (run_assign rfl rfl) ?_)
  refine wl_end rfl ?_
  refine nm_sub [(2, _)] ⟨rfl, trivial⟩ ?_
  refine nm_thn ?_
  refine ws_ret hC [_] rfl rfl ⟨rfl, trivial⟩ ?_
  exact ⟨_, rfl, _, S2.pick [0] [_] (by decide) ⟨rfl, trivial⟩, by rw [srt_eq hksw1 hn]; rfl⟩
noncomputable def Form_n0 : Code := Try.f65.body.getD .skip
noncomputable def Form_n1 : Code := cL Form_n0
noncomputable def Form_n2 : Code := cR Form_n0
noncomputable def Form_n3 : Code := cL Form_n2
noncomputable def Form_n4 : Code := cR Form_n2
noncomputable def Form_n5 : Code := cL Form_n4
noncomputable def Form_n6 : Code := cR Form_n4
noncomputable def Form_n7 : Code := cL Form_n5
noncomputable def Form_n8 : Code := cR Form_n5
noncomputable def Form_n9 : Code := cL Form_n8
noncomputable def Form_n10 : Code := cL Form_n9
noncomputable def Form_n11 : Code := cL Form_n10
noncomputable def Form_n12 : Code := cR Form_n10
noncomputable def Form_n13 : Code := cL Form_n12
noncomputable def Form_n14 : Code := cR Form_n12
noncomputable def Form_n15 : Code := cL Form_n13
noncomputable def Form_n16 : Code := cR Form_n13
noncomputable def Form_n17 : Code := cL Form_n14
noncomputable def Form_n18 : Code := cR Form_n14
noncomputable def Form_n19 : Code := cL Form_n17
noncomputable def Form_n20 : Code := cL Form_n19
noncomputable def Form_n21 : Code := cR Form_n19
noncomputable def Form_n22 : Code := cL Form_n21
noncomputable def Form_n23 : Code := cR Form_n21
noncomputable def Form_n24 : Code := cL Form_n23
noncomputable def Form_n25 : Code := cR Form_n23
noncomputable def Form_n26 : Code := cL Form_n6
noncomputable def Form_n27 : Code := cR Form_n6
set_option maxRecDepth 10000 in
theorem Form_t {w : World} {M : Hp} {X : Fr} (es : List (Int × Int)) {ges : Nat} (hmes : MpOk (Value.int .i64) (Value.int .i64) ges es M) (B : Nat) (hes : Ents es B) (hB : B ≤ 1099511627776) (S : SH w M X []) : Ct Try.prog 65 [.map (some ges)] w M X (LsE (formL es)) := by
  unfold Ct
  have hks : (es.map Prod.fst).length ≤ 2199023255553 := by have := ents_len hes; rw [List.length_map]; omega
  refine calls_in (b := Form_n0) Try.func65 rfl Try.ntmps65 rfl (fun C hC => ?_)
  refine ws_sub [(0, _)] ⟨rfl, trivial⟩ ?_
  refine ws_seqN Form_n1 Form_n2 rfl rfl rfl ?_
  refine ws_region rfl ?_
  refine wl_op (k := 0) (k' := 1) rfl rfl rfl (wo_run rfl rfl (run_assign rfl rfl) ?_)
  refine wl_end rfl ?_
  refine nm_sub [(0, _)] ⟨rfl, trivial⟩ ?_
  refine nm_thn ?_
  refine ws_seqN Form_n3 Form_n4 rfl rfl rfl ?_
  refine ws_region rfl ?_
  refine wl_op (k := 0) (k' := 1) rfl rfl rfl (wo_run rfl rfl (run_assign rfl rfl) ?_)
  refine wl_end rfl ?_
  refine nm_thn ?_
  refine ws_seqN Form_n5 Form_n6 rfl rfl rfl ?_
  refine ws_seqN Form_n7 Form_n8 rfl rfl rfl ?_
  refine ws_region rfl ?_
  refine wl_op (k := 0) (k' := 1) rfl rfl rfl (wo_run rfl rfl (run_move rfl rfl) ?_)
  refine wl_op (k := 1) (k' := 2) rfl rfl rfl (wo_ct rfl rfl rfl rfl rfl rfl rfl cf106 S (Keys_t es hmes S.lend) ?_)
  intro vw1 w1 M1 hle1 S1 hRw1; clear S
  replace hmes := hmes.mono hle1
  obtain ⟨bk1, rfl, hbx1⟩ := hRw1
  refine wl_op (k := 2) (k' := 3) rfl rfl rfl (wo_co rfl rfl rfl rfl rfl rfl rfl cf105 S1 (Sorted_o hmes hbx1 hks hes.1 S1.lend) ?_)
  intro vw2 w2 Nw2 S2 hRw2; clear S1
  obtain rfl := hRw2
  change SH _ _ _ [_] at S2
  refine wl_op (k := 3) (k' := 4) rfl rfl rfl (wo_run rfl rfl (run_lenR (C := cdInt) (i := 0) rfl rfl rfl rfl rfl rfl sl36 S2 rfl) ?_)
  refine wl_op (k := 4) (k' := 5) rfl rfl rfl (wo_run rfl rfl (run_move rfl rfl) ?_)
  refine wl_end rfl ?_
  refine nm_sub [(0, _), (3, _), (8, _), (9, _), (10, _)] ⟨rfl, rfl, rfl, rfl, rfl, trivial⟩ ?_
  refine nm_thn ?_
  refine ws_blockN Form_n9 0 rfl rfl rfl ?_
  have S3 := S2.nilrow cdTm; clear S2
  refine ws_loopE (fun mx_ ax_ wx_ => ∃ (i : Nat) (acc : List Tm) (vro : Value), mx_ = (srt (es.map Prod.fst)).length - i ∧ Env 28 [(0, .map (some ges)), (3, vro), (8, vw2), (9, .int .i64 ((srt (es.map Prod.fst)).length : Int)), (10, .int .i64 (i : Int))] ax_ ∧ SH wx_ M1 X [Rs.row cdTm vro acc, Rs.row cdInt vw2 (srt (es.map Prod.fst))] ∧ i ≤ (srt (es.map Prod.fst)).length ∧ acc = fm es ((srt (es.map Prod.fst)).take i)) rfl ?_ ?_
  · intro ax_ hax_
    refine ⟨_, ⟨0, _, _, rfl, hax_.sub ⟨rfl, rfl, rfl, rfl, rfl, trivial⟩, S3.pick [0, 1] [_, _] (by decide) ⟨rfl, rfl, trivial⟩, ?hq1f0, ?hq1f1⟩⟩
    case hq1f0 => omega
    case hq1f1 => rfl
  · rintro m1 a1 w3 ⟨i, acc, vro, rfl, he1, S4, hi, hac⟩
    clear S3
    refine ws_in he1 (c := Form_n10) rfl ?_
    clear he1 a1
    have hal : acc.length ≤ i := by rw [hac]; exact Nat.le_trans (fm_len _ _) (by rw [List.length_take]; omega)
    have hsl := srt_len (es.map Prod.fst)
    refine ws_seqN Form_n11 Form_n12 rfl rfl rfl ?_
    refine ws_region rfl ?_
    refine wl_op (k := 0) (k' := 1) rfl rfl rfl (wo_run rfl rfl (run_lss rfl rfl rfl) ?_)
    refine wl_end rfl ?_
    refine nm_thn ?_
    refine ws_seqN Form_n13 Form_n14 rfl rfl rfl ?_
    refine ws_condN Form_n15 Form_n16 rfl rfl rfl rfl (fun hb11 => ?_) (fun hb11 => ?_)
    · have hb11 := of_decide_eq_true hb11
      refine ws_skip rfl ?_
      refine nm_sub [(0, _), (3, _), (8, _), (9, _), (10, _)] ⟨rfl, rfl, rfl, rfl, rfl, trivial⟩ ?_
      refine nm_thn ?_
      refine ws_seqN Form_n17 Form_n18 rfl rfl rfl ?_
      refine ws_blockN Form_n19 1 rfl rfl rfl ?_
      refine ws_seqN Form_n20 Form_n21 rfl rfl rfl ?_
      refine ws_region rfl ?_
      refine wl_op (k := 0) (k' := 1) rfl rfl rfl (wo_run rfl rfl (run_indexR (C := cdInt) (i := 1) i rfl rfl rfl sl36 S4 rfl (by first | rfl | omega) (by first | omega | (simp only [List.length_set, List.length_append, List.length_replicate, List.length_singleton, List.length_cons, List.length_nil]; omega))) ?_)
      refine wl_op (k := 1) (k' := 2) rfl rfl rfl (wo_run rfl rfl (run_load1 rfl rfl Try.underlying3 rfl (S4.rowc (i := 1) (e := i) (j := 0) rfl (by first | omega | (simp only [List.length_set, List.length_append, List.length_replicate, List.length_singleton, List.length_cons, List.length_nil]; omega)) rfl rfl)) ?_)
      refine wl_op (k := 2) (k' := 3) rfl rfl rfl (wo_run rfl rfl (run_assign rfl rfl) ?_)
      refine wl_end rfl ?_
      refine nm_sub [(0, _), (3, _), (8, _), (9, _), (10, _), (5, _)] ⟨rfl, rfl, rfl, rfl, rfl, rfl, trivial⟩ ?_
      refine nm_thn ?_
      refine ws_seqN Form_n22 Form_n23 rfl rfl rfl ?_
      refine ws_region rfl ?_
      refine wl_op (k := 0) (k' := 1) rfl rfl rfl (wo_run rfl rfl (run_move rfl rfl) ?_)
      refine wl_op (k := 1) (k' := 2) rfl rfl rfl (wo_run rfl rfl (run_move rfl rfl) ?_)
      refine wl_op (k := 2) (k' := 3) rfl rfl rfl (wo_run rfl rfl (run_lookupM (kc := (Value.int .i64)) (vc := (Value.int .i64)) (es := es) (k := (ga (srt (es.map Prod.fst)) i)) (zv := 0) rfl rfl rfl Try.underlying87 mk3 zr3 hmes S4.m) ?_)
      refine wl_op (k := 3) (k' := 4) rfl rfl rfl (wo_run rfl rfl (run_neq rfl rfl rfl) ?_)
      refine wl_end rfl ?_
      refine nm_sub [(0, _), (3, _), (8, _), (9, _), (10, _), (5, _), (17, _)] ⟨rfl, rfl, rfl, rfl, rfl, rfl, rfl, trivial⟩ ?_
      refine nm_thn ?_
      refine ws_condN Form_n24 Form_n25 rfl rfl rfl rfl (fun hb17 => ?_) (fun hb17 => ?_)
      · have hb17 := of_decide_eq_true hb17
        refine ws_region rfl ?_
        refine wl_op (k := 0) (k' := 1) rfl rfl rfl (wo_run rfl rfl (run_move rfl rfl) ?_)
        refine wl_op (k := 1) (k' := 2) rfl rfl rfl (wo_run rfl rfl (run_move rfl rfl) ?_)
        refine wl_op (k := 2) (k' := 3) rfl rfl rfl (wo_run rfl rfl (run_move rfl rfl) ?_)
        refine wl_op (k := 3) (k' := 4) rfl rfl rfl (wo_run rfl rfl (run_move rfl rfl) ?_)
        refine wl_op (k := 4) (k' := 5) rfl rfl rfl (wo_run rfl rfl (run_lookupM (kc := (Value.int .i64)) (vc := (Value.int .i64)) (es := es) (k := (ga (srt (es.map Prod.fst)) i)) (zv := 0) rfl rfl rfl Try.underlying87 mk3 zr3 hmes S4.m) ?_)
        refine wl_op (k := 5) (k' := 6) rfl rfl rfl (wo_run rfl rfl (run_build (l := [_, _]) rfl rfl st89 rfl rfl) ?_)
        refine wl_op (k := 6) (k' := 7) rfl rfl rfl (wo_buildSlice1 (C := cdTm) (l := [_, _]) rfl rfl rfl rfl sl22 rfl rfl rfl rfl S4 ?_)
        intro gb1 w4 S5; clear S4
        refine wl_op (k := 7) (k' := 8) rfl rfl rfl (wo_append1 (C := cdTm) (i := 1) (q := 0) (⟨ga (srt (es.map Prod.fst)) i, (mg (ga (srt (es.map Prod.fst)) i) es).getD 0⟩ : Tm) rfl rfl rfl rfl rfl rfl rfl rfl sl22 S5 rfl rfl rfl (by show (_ + 1) * 16 ≤ _; omega) ?_)
        intro vro1 w5 S6; clear S5
        have S7 := S6.pick [1, 2] [_, _] (by decide) ⟨rfl, rfl, trivial⟩; clear S6
        refine wl_op (k := 8) (k' := 9) rfl rfl rfl (wo_run rfl rfl (run_assign rfl rfl) ?_)
        refine wl_end rfl ?_
        refine nm_blk ?_
        refine nm_sub [(0, _), (3, _), (8, _), (9, _), (10, _)] ⟨rfl, rfl, rfl, rfl, rfl, trivial⟩ ?_
        refine nm_thn ?_
        refine ws_region rfl ?_
        refine wl_op (k := 0) (k' := 1) rfl rfl rfl (wo_run rfl rfl (run_add rfl rfl rfl (by first | omega | (simp only [List.length_set, List.length_append, List.length_replicate, List.length_singleton, List.length_cons, List.length_nil]; omega))) ?_)
        refine wl_op (k := 1) (k' := 2) rfl rfl rfl (wo_run rfl rfl (run_move rfl rfl) ?_)
        refine wl_end rfl ?_
        refine nm_lp ?_
        intro ax_ hax_
        refine ⟨_, ?hq2m, ⟨i + 1, _, _, rfl, hax_.sub ⟨rfl, rfl, rfl, rfl, rfl, trivial⟩, S7.pick [0, 1] [_, _] (by decide) ⟨rfl, rfl, trivial⟩, ?hq2f0, ?hq2f1⟩⟩
        case hq2f0 => omega
        case hq2f1 => (rw [take_ga _ i (by omega), fm_snoc, ← hac]; first | (rw [if_neg (by assumption)]) | (rw [if_pos (by omega), List.append_nil]))
        case hq2m => omega
      · have hb17 := of_decide_eq_false hb17
        refine ws_skip rfl ?_
        refine nm_blk ?_
        refine nm_sub [(0, _), (3, _), (8, _), (9, _), (10, _)] ⟨rfl, rfl, rfl, rfl, rfl, trivial⟩ ?_
        refine nm_thn ?_
        refine ws_region rfl ?_
        refine wl_op (k := 0) (k' := 1) rfl rfl rfl (wo_run rfl rfl (run_add rfl rfl rfl (by first | omega | (simp only [List.length_set, List.length_append, List.length_replicate, List.length_singleton, List.length_cons, List.length_nil]; omega))) ?_)
        refine wl_op (k := 1) (k' := 2) rfl rfl rfl (wo_run rfl rfl (run_move rfl rfl) ?_)
        refine wl_end rfl ?_
        refine nm_lp ?_
        intro ax_ hax_
        refine ⟨_, ?hq3m, ⟨i + 1, _, _, rfl, hax_.sub ⟨rfl, rfl, rfl, rfl, rfl, trivial⟩, S4.pick [0, 1] [_, _] (by decide) ⟨rfl, rfl, trivial⟩, ?hq3f0, ?hq3f1⟩⟩
        case hq3f0 => omega
        case hq3f1 => (rw [take_ga _ i (by omega), fm_snoc, ← hac]; first | (rw [if_neg (by assumption)]) | (rw [if_pos (by omega), List.append_nil]))
        case hq3m => omega
    · have hb11 := of_decide_eq_false hb11
      refine ws_exit rfl rfl ?_
      refine nm_sub [(3, _)] ⟨rfl, trivial⟩ ?_
      refine nm_thn ?_
      refine ws_seqN Form_n26 Form_n27 rfl rfl rfl ?_
      have hsl := srt_len (es.map Prod.fst)
      refine ws_region rfl ?_
      refine wl_op (k := 0) (k' := 1) rfl rfl rfl (wo_run rfl rfl (run_move rfl rfl) ?_)
      refine wl_op (k := 1) (k' := 2) rfl rfl rfl (wo_run rfl rfl (run_assign rfl rfl) ?_)
      refine wl_end rfl ?_
      refine nm_sub [(2, _)] ⟨rfl, trivial⟩ ?_
      refine nm_thn ?_
      have hal : acc.length ≤ 2199023255553 := by rw [hac]; exact Nat.le_trans (fm_len _ _) (by rw [List.length_take]; omega)
      obtain ⟨M2, hle3, S8, ⟨A1, c1, e1, hr1⟩⟩ := S4.pubrow (i := 0) (H' := [_, _]) rfl rfl (by show _ * 16 ≤ _; first | omega | (simp only [List.length_set, List.length_append, List.length_replicate, List.length_singleton, List.length_cons, List.length_nil]; omega))
      clear S4; subst e1
      replace hmes := hmes.mono hle3
      replace hbx1 := hbx1.mono hle3
      refine ws_ret hC [_] rfl rfl ⟨rfl, trivial⟩ ?_
      refine ⟨_, rfl, _, hle1.trans hle3, (S8.pick [] [] (by decide) trivial), ?_⟩
      obtain rfl : i = (srt (es.map Prod.fst)).length := by omega
      rw [List.take_length] at hac
      have e9 : formL es = acc := hac.symm
      rw [e9]
      exact ⟨_, _, rfl, hr1⟩
noncomputable def Of_n0 : Code := Try.f75.body.getD .skip
noncomputable def Of_n1 : Code := cL Of_n0
noncomputable def Of_n2 : Code := cR Of_n0
noncomputable def Of_n3 : Code := cL Of_n2
noncomputable def Of_n4 : Code := cR Of_n2
noncomputable def Of_n5 : Code := cL Of_n4
noncomputable def Of_n6 : Code := cR Of_n4
noncomputable def Of_n7 : Code := cL Of_n5
noncomputable def Of_n8 : Code := cR Of_n5
noncomputable def Of_n9 : Code := cL Of_n8
noncomputable def Of_n10 : Code := cL Of_n9
noncomputable def Of_n11 : Code := cL Of_n10
noncomputable def Of_n12 : Code := cR Of_n10
noncomputable def Of_n13 : Code := cL Of_n12
noncomputable def Of_n14 : Code := cR Of_n12
noncomputable def Of_n15 : Code := cL Of_n13
noncomputable def Of_n16 : Code := cR Of_n13
noncomputable def Of_n17 : Code := cL Of_n14
noncomputable def Of_n18 : Code := cR Of_n14
noncomputable def Of_n19 : Code := cL Of_n17
noncomputable def Of_n20 : Code := cL Of_n19
noncomputable def Of_n21 : Code := cR Of_n19
noncomputable def Of_n22 : Code := cL Of_n6
noncomputable def Of_n23 : Code := cR Of_n6
set_option maxRecDepth 10000 in
theorem Of_t {w : World} {M : Hp} {X : Fr} (a : List Tm) {aA : Option Addr} {ac : Nat} (ha : RdA cdTm (M.un X.h) aA ac a) (B : Nat) (hba : Bd a B) (S : SH w M X []) : Ct Try.prog 75 [.slice aA a.length ac] w M X (WkR B (mk (pr a))) := by
  unfold Ct
  have rmha : a.length * 16 ≤ 140737488355328 := ha.room
  refine calls_in (b := Of_n0) Try.func75 rfl Try.ntmps75 rfl (fun C hC => ?_)
  refine ws_sub [(0, _)] ⟨rfl, trivial⟩ ?_
  refine ws_seqN Of_n1 Of_n2 rfl rfl rfl ?_
  refine ws_region rfl ?_
  refine wl_op (k := 0) (k' := 1) rfl rfl rfl (wo_run rfl rfl (run_assign rfl rfl) ?_)
  refine wl_end rfl ?_
  refine nm_sub [(0, _)] ⟨rfl, trivial⟩ ?_
  refine nm_thn ?_
  refine ws_seqN Of_n3 Of_n4 rfl rfl rfl ?_
  refine ws_region rfl ?_
  refine wl_op (k := 0) (k' := 1) rfl rfl rfl (wo_makeMap Int Int (Value.int .i64) (Value.int .i64) rfl rfl rfl S ?_)
  intro gm1 w1 S1; clear S
  refine wl_op (k := 1) (k' := 2) rfl rfl rfl (wo_run rfl rfl (run_assign rfl rfl) ?_)
  refine wl_end rfl ?_
  refine nm_sub [(0, _), (3, _)] ⟨rfl, rfl, trivial⟩ ?_
  refine nm_thn ?_
  refine ws_seqN Of_n5 Of_n6 rfl rfl rfl ?_
  refine ws_seqN Of_n7 Of_n8 rfl rfl rfl ?_
  refine ws_region rfl ?_
  refine wl_op (k := 0) (k' := 1) rfl rfl rfl (wo_run rfl rfl (run_move rfl rfl) ?_)
  refine wl_op (k := 1) (k' := 2) rfl rfl rfl (wo_run rfl rfl (run_len rfl rfl rfl rfl rfl rfl Try.underlying22) ?_)
  refine wl_op (k := 2) (k' := 3) rfl rfl rfl (wo_run rfl rfl (run_move rfl rfl) ?_)
  refine wl_end rfl ?_
  refine nm_sub [(3, _), (7, _), (8, _), (9, _)] ⟨rfl, rfl, rfl, rfl, trivial⟩ ?_
  refine nm_thn ?_
  refine ws_blockN Of_n9 0 rfl rfl rfl ?_
  refine ws_loopE (fun mx_ ax_ wx_ => ∃ (i : Nat) (es : List (Int × Int)), mx_ = a.length - i ∧ Env 22 [(3, .map (some gm1)), (7, .slice aA a.length ac), (8, .int .i64 (a.length : Int)), (9, .int .i64 (i : Int))] ax_ ∧ SH wx_ M X [Rs.mp (Value.int .i64) (Value.int .i64) gm1 es] ∧ i ≤ a.length ∧ Ents es B ∧ mk es = mk (pr (a.take i))) rfl ?_ ?_
  · intro ax_ hax_
    refine ⟨_, ⟨0, [], rfl, hax_.sub ⟨rfl, rfl, rfl, rfl, trivial⟩, S1.pick [0] [_] (by decide) ⟨rfl, trivial⟩, ?hq1f0, ?hq1f1, ?hq1f2⟩⟩
    case hq1f0 => omega
    case hq1f1 => exact Ents.nil_ B
    case hq1f2 => rfl
  · rintro m2 a1 w2 ⟨i, es, rfl, he1, S2, hi, hes, hmk⟩
    clear S1
    refine ws_in he1 (c := Of_n10) rfl ?_
    clear he1 a1
    refine ws_seqN Of_n11 Of_n12 rfl rfl rfl ?_
    refine ws_region rfl ?_
    refine wl_op (k := 0) (k' := 1) rfl rfl rfl (wo_run rfl rfl (run_lss rfl rfl rfl) ?_)
    refine wl_end rfl ?_
    refine nm_thn ?_
    refine ws_seqN Of_n13 Of_n14 rfl rfl rfl ?_
    refine ws_condN Of_n15 Of_n16 rfl rfl rfl rfl (fun hb10 => ?_) (fun hb10 => ?_)
    · have hb10 := of_decide_eq_true hb10
      refine ws_skip rfl ?_
      refine nm_sub [(3, _), (7, _), (8, _), (9, _)] ⟨rfl, rfl, rfl, rfl, trivial⟩ ?_
      refine nm_thn ?_
      refine ws_seqN Of_n17 Of_n18 rfl rfl rfl ?_
      refine ws_blockN Of_n19 1 rfl rfl rfl ?_
      refine ws_seqN Of_n20 Of_n21 rfl rfl rfl ?_
      refine ws_region rfl ?_
      refine wl_op (k := 0) (k' := 1) rfl rfl rfl (wo_run rfl rfl (run_indexM (C := cdTm) i rfl rfl rfl sl22 (by first | rfl | omega) ha (by first | omega | (simp only [List.length_set, List.length_append, List.length_replicate, List.length_singleton, List.length_cons, List.length_nil]; omega))) ?_)
      refine wl_op (k := 1) (k' := 2) rfl rfl rfl (wo_run rfl rfl (run_loadN (us := [_, _]) rfl rfl Try.underlying89 rfl sz89 (ha.cellsAt S2.um (e := i) (by first | omega | (simp only [List.length_set, List.length_append, List.length_replicate, List.length_singleton, List.length_cons, List.length_nil]; omega)) (j := 0) ⟨rfl, rfl, trivial⟩)) ?_)
      refine wl_op (k := 2) (k' := 3) rfl rfl rfl (wo_alloc (l := [_, _]) rfl rfl rfl zr89 rfl S2 ?_)
      intro gb1 w3 S3; clear S2
      refine wl_op (k := 3) (k' := 4) rfl rfl rfl (wo_storeB (i := 0) (us := [_, _]) (l' := [_, _]) (H' := [_, _]) rfl rfl S3 rfl rfl rfl rfl sz89 rfl rfl rfl rfl ?_)
      intro w4 S4; clear S3
      refine wl_end rfl ?_
      refine nm_sub [(3, _), (7, _), (8, _), (9, _), (5, _)] ⟨rfl, rfl, rfl, rfl, rfl, trivial⟩ ?_
      refine nm_thn ?_
      refine ws_region rfl ?_
      refine wl_op (k := 0) (k' := 1) rfl rfl rfl (wo_run rfl rfl (run_move rfl rfl) ?_)
      refine wl_op (k := 1) (k' := 2) rfl rfl rfl (wo_run rfl rfl (run_fieldAddr rfl rfl Try.underlying89 rfl (ce3) (nf3)) ?_)
      refine wl_op (k := 2) (k' := 3) rfl rfl rfl (wo_run rfl rfl (run_load1 rfl rfl Try.underlying3 rfl (S4.boxc (i := 0) rfl rfl)) ?_)
      refine wl_op (k := 3) (k' := 4) rfl rfl rfl (wo_run rfl rfl (run_lookup (kc := Value.int .i64) (vc := Value.int .i64) (es := es) (k := ((ga a i).e)) (zv := 0) (i := 1) rfl rfl rfl Try.underlying87 mk3 zr3 S4 rfl) ?_)
      refine wl_op (k := 4) (k' := 5) rfl rfl rfl (wo_run rfl rfl (run_fieldAddr rfl rfl Try.underlying89 rfl (ce3) (nf3)) ?_)
      refine wl_op (k := 5) (k' := 6) rfl rfl rfl (wo_run rfl rfl (run_load1 rfl rfl Try.underlying3 rfl (S4.boxc (i := 0) rfl rfl)) ?_)
      refine wl_op (k := 6) (k' := 7) rfl rfl rfl (wo_run rfl rfl (run_addW rfl rfl rfl) ?_)
      refine wl_op (k := 7) (k' := 8) rfl rfl rfl (wo_mapUpdate (kc := Value.int .i64) (vc := Value.int .i64) (es := es) (k := ((ga a i).e)) (e := (wr (((mg ((ga a i).e) es).getD 0) + ((ga a i).c)))) (i := 1) (H' := [_, _]) (.inl rfl) rfl S4 rfl rfl rfl rfl Try.underlying87 mk3 rfl ?_)
      intro w5 S5; clear S4
      refine wl_end rfl ?_
      refine nm_blk ?_
      refine nm_sub [(3, _), (7, _), (8, _), (9, _)] ⟨rfl, rfl, rfl, rfl, trivial⟩ ?_
      refine nm_thn ?_
      refine ws_region rfl ?_
      refine wl_op (k := 0) (k' := 1) rfl rfl rfl (wo_run rfl rfl (run_add rfl rfl rfl (by first | omega | (simp only [List.length_set, List.length_append, List.length_replicate, List.length_singleton, List.length_cons, List.length_nil]; omega))) ?_)
      refine wl_op (k := 1) (k' := 2) rfl rfl rfl (wo_run rfl rfl (run_move rfl rfl) ?_)
      refine wl_end rfl ?_
      refine nm_lp ?_
      intro ax_ hax_
      refine ⟨_, ?hq2m, ⟨i + 1, _, rfl, hax_.sub ⟨rfl, rfl, rfl, rfl, trivial⟩, S5.pick [1] [_] (by decide) ⟨rfl, trivial⟩, ?hq2f0, ?hq2f1, ?hq2f2⟩⟩
      case hq2f0 => omega
      case hq2f1 => exact mp_ents hes (bd_at hba (by omega)) (wr_idem _)
      case hq2f2 => exact of_step (by omega) hmk
      case hq2m => omega
    · have hb10 := of_decide_eq_false hb10
      refine ws_exit rfl rfl ?_
      refine nm_sub [(3, _)] ⟨rfl, trivial⟩ ?_
      refine nm_thn ?_
      refine ws_seqN Of_n22 Of_n23 rfl rfl rfl ?_
      refine ws_region rfl ?_
      refine wl_op (k := 0) (k' := 1) rfl rfl rfl (wo_run rfl rfl (run_move rfl rfl) ?_)
      refine wl_op (k := 1) (k' := 2) rfl rfl rfl (wo_run rfl rfl (run_assign rfl rfl) ?_)
      refine wl_end rfl ?_
      refine nm_sub [(2, _)] ⟨rfl, trivial⟩ ?_
      refine nm_thn ?_
      obtain ⟨M1, hle2, S6, hm1⟩ := S2.pubmap (i := 0) (H' := [_]) rfl rfl; clear S2
      replace ha := ha.mono (Hp.un_mono hle2 S6.mx)
      refine ws_ret hC [_] rfl rfl ⟨rfl, trivial⟩ ?_
      refine ⟨_, rfl, _, hle2, (S6.pick [] [] (by decide) trivial), ?_⟩
      obtain rfl : i = a.length := by omega
      rw [List.take_length] at hmk
      exact ⟨_, rfl, _, hm1, hes, hmk⟩
noncomputable def Plus_n0 : Code := Try.f60.body.getD .skip
noncomputable def Plus_n1 : Code := cL Plus_n0
noncomputable def Plus_n2 : Code := cR Plus_n0
noncomputable def Plus_n3 : Code := cL Plus_n2
noncomputable def Plus_n4 : Code := cR Plus_n2
noncomputable def Plus_n5 : Code := cL Plus_n4
noncomputable def Plus_n6 : Code := cR Plus_n4
noncomputable def Plus_n7 : Code := cL Plus_n5
noncomputable def Plus_n8 : Code := cR Plus_n5
noncomputable def Plus_n9 : Code := cL Plus_n8
noncomputable def Plus_n10 : Code := cL Plus_n9
noncomputable def Plus_n11 : Code := cL Plus_n10
noncomputable def Plus_n12 : Code := cR Plus_n10
noncomputable def Plus_n13 : Code := cL Plus_n12
noncomputable def Plus_n14 : Code := cR Plus_n12
noncomputable def Plus_n15 : Code := cL Plus_n13
noncomputable def Plus_n16 : Code := cR Plus_n13
noncomputable def Plus_n17 : Code := cL Plus_n6
noncomputable def Plus_n18 : Code := cR Plus_n6
noncomputable def Plus_n19 : Code := cL Plus_n14
noncomputable def Plus_n20 : Code := cL Plus_n19
noncomputable def Plus_n21 : Code := cR Plus_n19
set_option maxRecDepth 10000 in
theorem Plus_t {w : World} {M : Hp} {X : Fr} (ws : List (Int × Int)) {gws : Nat} (vs : List (Int × Int)) {gvs : Nat} (hmws : MpOk (Value.int .i64) (Value.int .i64) gws ws M) (hmvs : MpOk (Value.int .i64) (Value.int .i64) gvs vs M) (B : Nat) (hws : Ents ws B) (hvs : Ents vs B) (S : SH w M X []) : Ct Try.prog 60 [.map (some gws), .map (some gvs)] w M X (WkR B (mk ws + mk vs)) := by
  unfold Ct
  refine calls_in (b := Plus_n0) Try.func60 rfl Try.ntmps60 rfl (fun C hC => ?_)
  refine ws_sub [(0, _), (1, _)] ⟨rfl, rfl, trivial⟩ ?_
  refine ws_seqN Plus_n1 Plus_n2 rfl rfl rfl ?_
  refine ws_region rfl ?_
  refine wl_op (k := 0) (k' := 1) rfl rfl rfl (wo_run rfl rfl (run_assign rfl rfl) ?_)
  refine wl_end rfl ?_
  refine nm_sub [(0, _), (1, _)] ⟨rfl, rfl, trivial⟩ ?_
  refine nm_thn ?_
  refine ws_seqN Plus_n3 Plus_n4 rfl rfl rfl ?_
  refine ws_region rfl ?_
  refine wl_op (k := 0) (k' := 1) rfl rfl rfl (wo_run rfl rfl (run_move rfl rfl) ?_)
  refine wl_op (k := 1) (k' := 2) rfl rfl rfl (wo_co rfl rfl rfl rfl rfl rfl rfl cf103 S (Clone_o (hmws.mono (Hp.le_un _ _)) S.lend) ?_)
  intro vw1 w1 Nw1 S1 hRw1; clear S
  obtain ⟨gmc1, rfl, rfl⟩ := hRw1
  change SH _ _ _ [_] at S1
  refine wl_op (k := 2) (k' := 3) rfl rfl rfl (wo_run rfl rfl (run_assign rfl rfl) ?_)
  refine wl_end rfl ?_
  refine nm_sub [(1, _), (5, _)] ⟨rfl, rfl, trivial⟩ ?_
  refine nm_thn ?_
  refine ws_seqN Plus_n5 Plus_n6 rfl rfl rfl ?_
  refine ws_seqN Plus_n7 Plus_n8 rfl rfl rfl ?_
  refine ws_region rfl ?_
  refine wl_op (k := 0) (k' := 1) rfl rfl rfl (wo_run rfl rfl (run_move rfl rfl) ?_)
  obtain ⟨arr1, clk1, hE1⟩ := hmvs.ents
  refine wl_op (k := 1) (k' := 2) rfl rfl rfl (wo_range rfl rfl rfl rfl Try.underlying87 S1 hE1 S1.m ?_)
  intro r1 w2 S2; clear S1
  refine wl_end rfl ?_
  refine nm_sub [(5, _), (11, _)] ⟨rfl, rfl, trivial⟩ ?_
  refine nm_thn ?_
  refine ws_blockN Plus_n9 0 rfl rfl rfl ?_
  refine ws_loopE (fun mx_ ax_ wx_ => ∃ (sn : Array Nat) (dn : List (Int × Int)) (lf : List (Int × Int)) (es : List (Int × Int)), mx_ = lf.length ∧ Env 23 [(5, .map (some gmc1)), (11, .pointer (some ⟨r1, 0, none⟩))] ax_ ∧ SH wx_ M X [Rs.itr gvs clk1 r1 sn, Rs.mp (Value.int .i64) (Value.int .i64) gmc1 es] ∧ Lft (Value.int .i64) (Value.int .i64) arr1 sn lf ∧ (dn ++ lf).Perm vs ∧ Ents es B ∧ mk es = mk ws + mk dn) rfl ?_ ?_
  · intro ax_ hax_
    refine ⟨_, ⟨#[], [], vs, ws, rfl, hax_.sub ⟨rfl, rfl, trivial⟩, S2.pick [0, 1] [_, _] (by decide) ⟨rfl, rfl, trivial⟩, ?hq1f0, ?hq1f1, ?hq1f2, ?hq1f3⟩⟩
    case hq1f0 => exact hE1.lft
    case hq1f1 => exact List.Perm.refl _
    case hq1f2 => exact hws
    case hq1f3 => exact (Pol.add_zero _).symm
  · rintro m1 a1 w3 ⟨sn, dn, lf, es, rfl, he1, S3, hlf, hpm, hes, hmk⟩
    clear S2
    refine ws_in he1 (c := Plus_n10) rfl ?_
    clear he1 a1
    refine ws_seqN Plus_n11 Plus_n12 rfl rfl rfl ?_
    refine ws_region rfl ?_
    refine wl_op (k := 0) (k' := 1) rfl rfl rfl (wo_next (i := 0) rfl rfl rfl rfl S3 rfl hE1 S3.m hlf (fun hlf1 => ?_) (fun k1 v1 l1_1 l2_1 sn1 w4 hlf1 hlft1 hlst1 S4 => ?_))
    · refine wl_op (k := 1) (k' := 2) rfl rfl rfl (wo_run rfl rfl (run_extract rfl rfl rfl) ?_)
      refine wl_end rfl ?_
      refine nm_sub [(5, _), (11, _), (13, _)] ⟨rfl, rfl, rfl, trivial⟩ ?_
      refine nm_thn ?_
      refine ws_seqN Plus_n13 Plus_n14 rfl rfl rfl ?_
      refine ws_condFN Plus_n16 rfl rfl rfl ?_
      refine ws_exit rfl rfl ?_
      refine nm_sub [(5, _)] ⟨rfl, trivial⟩ ?_
      refine nm_thn ?_
      refine ws_seqN Plus_n17 Plus_n18 rfl rfl rfl ?_
      refine ws_region rfl ?_
      refine wl_op (k := 0) (k' := 1) rfl rfl rfl (wo_run rfl rfl (run_move rfl rfl) ?_)
      refine wl_op (k := 1) (k' := 2) rfl rfl rfl (wo_run rfl rfl (run_assign rfl rfl) ?_)
      refine wl_end rfl ?_
      refine nm_sub [(4, _)] ⟨rfl, trivial⟩ ?_
      refine nm_thn ?_
      obtain ⟨M1, hle2, S5, hm1⟩ := S3.pubmap (i := 1) (H' := [_, _]) rfl rfl; clear S3
      replace hmws := hmws.mono hle2
      replace hmvs := hmvs.mono hle2
      replace hE1 := hE1.mono hle2
      refine ws_ret hC [_] rfl rfl ⟨rfl, trivial⟩ ?_
      refine ⟨_, rfl, _, hle2, (S5.pick [] [] (by decide) trivial), ?_⟩
      obtain rfl : lf = [] := hlf1
      rw [List.append_nil] at hpm
      exact ⟨_, rfl, _, hm1, hes, by rw [hmk, mk_perm hpm]⟩
    · clear S3
      change SH _ _ _ [Rs.itr gvs clk1 r1 sn1, _] at S4
      refine wl_op (k := 1) (k' := 2) rfl rfl rfl (wo_run rfl rfl (run_extract rfl rfl rfl) ?_)
      refine wl_end rfl ?_
      refine nm_sub [(5, _), (11, _), (13, _)] ⟨rfl, rfl, rfl, trivial⟩ ?_
      refine nm_thn ?_
      refine ws_seqN Plus_n13 Plus_n14 rfl rfl rfl ?_
      refine ws_condTN Plus_n15 rfl rfl rfl ?_
      refine ws_skip rfl ?_
      refine nm_sub [(5, _), (11, _)] ⟨rfl, rfl, trivial⟩ ?_
      refine nm_thn ?_
      refine ws_blockN Plus_n19 1 rfl rfl rfl ?_
      refine ws_seqN Plus_n20 Plus_n21 rfl rfl rfl ?_
      refine ws_region rfl ?_
      refine wl_op (k := 0) (k' := 1) rfl rfl rfl (wo_run rfl rfl (run_entry (i := 0) rfl rfl S4 rfl hE1 S4.m hlst1) ?_)
      refine wl_op (k := 1) (k' := 2) rfl rfl rfl (wo_run rfl rfl (run_extract rfl rfl rfl) ?_)
      refine wl_op (k := 2) (k' := 3) rfl rfl rfl (wo_run rfl rfl (run_extract rfl rfl rfl) ?_)
      refine wl_op (k := 3) (k' := 4) rfl rfl rfl (wo_run rfl rfl (run_assign rfl rfl) ?_)
      refine wl_op (k := 4) (k' := 5) rfl rfl rfl (wo_run rfl rfl (run_assign rfl rfl) ?_)
      refine wl_end rfl ?_
      refine nm_sub [(5, _), (11, _), (6, _), (7, _)] ⟨rfl, rfl, rfl, rfl, trivial⟩ ?_
      refine nm_thn ?_
      refine ws_region rfl ?_
      refine wl_op (k := 0) (k' := 1) rfl rfl rfl (wo_run rfl rfl (run_move rfl rfl) ?_)
      refine wl_op (k := 1) (k' := 2) rfl rfl rfl (wo_run rfl rfl (run_move rfl rfl) ?_)
      refine wl_op (k := 2) (k' := 3) rfl rfl rfl (wo_run rfl rfl (run_lookup (kc := Value.int .i64) (vc := Value.int .i64) (es := es) (k := k1) (zv := 0) (i := 1) rfl rfl rfl Try.underlying87 mk3 zr3 S4 rfl) ?_)
      refine wl_op (k := 3) (k' := 4) rfl rfl rfl (wo_run rfl rfl (run_move rfl rfl) ?_)
      refine wl_op (k := 4) (k' := 5) rfl rfl rfl (wo_run rfl rfl (run_addW rfl rfl rfl) ?_)
      refine wl_op (k := 5) (k' := 6) rfl rfl rfl (wo_mapUpdate (kc := Value.int .i64) (vc := Value.int .i64) (es := es) (k := k1) (e := (wr (((mg k1 es).getD 0) + v1))) (i := 1) (H' := [_, _]) (.inl rfl) rfl S4 rfl rfl rfl rfl Try.underlying87 mk3 rfl ?_)
      intro w5 S6; clear S4
      refine wl_end rfl ?_
      refine nm_blk ?_
      refine nm_lp ?_
      intro ax_ hax_
      refine ⟨_, ?hq2m, ⟨sn1, dn ++ [(k1, v1)], l1_1 ++ l2_1, _, rfl, hax_.sub ⟨rfl, rfl, trivial⟩, S6.pick [0, 1] [_, _] (by decide) ⟨rfl, rfl, trivial⟩, ?hq2f0, ?hq2f1, ?hq2f2, ?hq2f3⟩⟩
      case hq2f0 => assumption
      case hq2f1 => (refine List.Perm.trans ?_ hpm; simp only [*, List.append_assoc, List.cons_append, List.nil_append]; exact (List.perm_append_left_iff _).2 (List.perm_middle.symm))
      case hq2f2 => exact mp_ents hes (hvs.at_ hpm (by assumption)).1 (wr_idem _)
      case hq2f3 => exact plus_step hmk
      case hq2m => (simp only [*, List.length_append, List.length_cons]; omega)
theorem FormW_t {w : World} {M : Hp} {X : Fr} {g B : Nat} {p : Pol} (h : Wk M g B p) (hB : B ≤ 1099511627776) (S : SH w M X []) : Ct Try.prog 65 [.map (some g)] w M X (PT B p) := by
  obtain ⟨es, h1, h2, rfl⟩ := h
  unfold Ct
  refine (Form_t es h1 B h2 hB S).mono ?_
  rintro e w' ⟨v, rfl, M', hle, S', A, c, rfl, hr⟩
  exact ⟨_, rfl, M', hle, S', A, c, _, rfl, hr, formL_can h2 hB, formL_bd h2, mk_formL h2⟩
theorem PlusW_t {w : World} {M : Hp} {X : Fr} {g g2 B C : Nat} {p q : Pol} (h : Wk M g B p) (k : Wk M g2 C q) (D : Nat) (hB : B ≤ D) (hC : C ≤ D) (hD : D ≤ 1099511627776) (S : SH w M X []) : Ct Try.prog 60 [.map (some g), .map (some g2)] w M X (WkR D (p + q)) := by
  obtain ⟨es, h1, h2, rfl⟩ := h.up hB
  obtain ⟨fs, k1, k2, rfl⟩ := k.up hC
  exact Plus_t es fs h1 k1 D h2 k2 S
end Go.Proofs.Ytkcighnochjlgaa
namespace Go.Proofs.Ytkcighnochjlgaa
open Go.ChangeShapes Go.WideShapes Go.ChangeAt Go.RowKit
section
variable {α : Type} {C : Cd α} {N N' : Hp} {vs vs' : List SlV} {xss yss : List (List α)}
theorem ga_drop {β : Type} [Inhabited β] (xs : List β) (k i : Nat) : ga (xs.drop k) i = ga xs (k + i) := by
  unfold ga; simp [List.getD_eq_getElem?_getD]
/-- The inner lists' own lists. -/
def RdD (C : Cd α) (N : Hp) (svs : List (List SlV)) (mm : List (List (List α))) : Prop := svs.length = mm.length ∧ ∀ i, i < svs.length → Rd2 C N (ga svs i) (ga mm i)
variable {svs : List (List SlV)} {mm : List (List (List α))}
theorem RdD.mono (h : RdD C N svs mm) (k : N.le N') : RdD C N' svs mm := ⟨h.1, fun i hi => (h.2 i hi).mono k⟩
theorem RdD.nil_ : RdD C N [] [] := ⟨rfl, fun i hi => by simp at hi⟩
theorem RdD.snoc (h : RdD C N svs mm) (k : Rd2 C N vs xss) : RdD C N (svs ++ [vs]) (mm ++ [xss]) := ⟨by simp [h.1], fun j hj => by
  simp at hj
  by_cases e : j < svs.length
  · rw [ga_append_left _ _ _ e, ga_append_left _ _ _ (by rw [← h.1]; exact e)]; exact h.2 j e
  · have hl := h.1
    obtain rfl : j = svs.length := by omega
    rw [ga_append_right svs _ _ (by omega), ga_append_right mm _ _ (by omega), show svs.length - svs.length = 0 by omega, show svs.length - mm.length = 0 by omega]
    exact k⟩
theorem RdD.set_ (h : RdD C N svs mm) (k : Rd2 C N vs xss) {i : Nat} (hi : i < svs.length) : RdD C N (svs.set i vs) (mm.set i xss) := ⟨by simp [h.1], fun j hj => by
  rw [List.length_set] at hj
  rw [ga_set _ _ _ _ hi, ga_set _ _ _ _ (by rw [← h.1]; exact hi)]
  by_cases e : i = j
  · rw [if_pos e, if_pos e]; exact k
  · rw [if_neg e, if_neg e]; exact h.2 j hj⟩
end
section
variable {P : Program} {o : Oper} {L : List (Nat × Value)} {w : World} {x hx : Operand} {t tn T : TypeId} {n d : Nat} {Kt : List (Nat × Value) → World → Prop} {M : Hp} {X : Fr} {H : List Rs}
end
end Go.Proofs.Ytkcighnochjlgaa
namespace Go.Proofs.Ytkcighnochjlgaa
open Go.ChangeShapes Go.WideShapes Go.ChangeAt Go.RowKit
section
variable {P : Program} {o : Oper} {L : List (Nat × Value)} {w : World} {n d : Nat} {Kt : List (Nat × Value) → World → Prop} {M : Hp} {X : Fr} {H : List Rs} {i : Nat} {r : Rs}
theorem SH.less (S : SH w M X H) (hi : nth H i = some r) : SH w M X (H.set i Rs.emp) := S.step hi rfl (Like.refl w) (fun _ _ _ => rfl) trivial (fun b hb => by cases hb)
theorem wo_c1F {f : FuncId} {vs cap : List Value} {ca : Call} {fo : Operand} {xs : List Operand} (hd : o.dst = some d) (hop : o.op = .call ca) (hca : ca.callee = .value fo) (hfo : oev L fo = some (.func (.func f) #[] cap.toArray))
    (hxs : ca.args = xs.toArray) (hvs : oevs L xs = some vs) (hn : Nat.blt d n = true) (hen : ∀ args w, (callFunc f args).run P w = .ok (.enter f args) w) (S : SH w M X H) (hi : nth H i = some r)
    {R : Value → Hp → Rs → Prop} (hcall : C1 P f (vs ++ cap) w M (XH w X (H.set i Rs.emp)) R) (h : ∀ v w' M' r', M.le M' → SH w' M' X (H.set i r') → R v M' r' → Kt ((d, v) :: L) w') : WO P n o L w Kt := by
  intro a ha next Q hk
  have hr : (execOp a.eval o).run P w = .ok (.enter f (vs ++ cap).toArray) w := by
    unfold execOp
    simp only [hop, resolve, hca, ha.eval hfo, hxs, List.map_toArray, ha.evals hvs, Deferred.ofValue, Sem.run_bind, Sem.run_pure, Result.andThen_ok, invoke, Array.empty_append, List.append_toArray]
    exact hen _ _
  unfold Oper.wp
  rw [hr, Oper.upon_enter, hd]
  refine hcall.mono ?_
  rintro e w' ⟨v, rfl, M', r', h1, h2, h4⟩
  exact hk _ _ _ (ha.put (by simpa using hn) v) (h v w' M' r' h1 (S.back1 hi h2 rfl) h4)
end
end Go.Proofs.Ytkcighnochjlgaa
