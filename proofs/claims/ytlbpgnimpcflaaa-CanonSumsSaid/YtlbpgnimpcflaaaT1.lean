/- Walks printed by eng.py. -/
import Derived.Test.YtlbpgnimpcflaaaSls
namespace Go.Proofs.Ytlbpgnimpcflaaa
set_option linter.unusedSimpArgs false
set_option linter.unusedVariables false
open Go.ChangeShapes Go.WideShapes Go.ChangeAt Go.RowKit
noncomputable def ArcAt_n0 : Code := Try.f57.body.getD .skip
noncomputable def ArcAt_n1 : Code := cL ArcAt_n0
noncomputable def ArcAt_n2 : Code := cR ArcAt_n0
noncomputable def ArcAt_n3 : Code := cL ArcAt_n2
noncomputable def ArcAt_n4 : Code := cR ArcAt_n2
noncomputable def ArcAt_n5 : Code := cL ArcAt_n4
noncomputable def ArcAt_n6 : Code := cR ArcAt_n4
noncomputable def ArcAt_n7 : Code := cL ArcAt_n5
noncomputable def ArcAt_n8 : Code := cR ArcAt_n5
noncomputable def ArcAt_n9 : Code := cL ArcAt_n8
noncomputable def ArcAt_n10 : Code := cL ArcAt_n9
noncomputable def ArcAt_n11 : Code := cR ArcAt_n9
noncomputable def ArcAt_n12 : Code := cL ArcAt_n11
noncomputable def ArcAt_n13 : Code := cR ArcAt_n11
noncomputable def ArcAt_n14 : Code := cL ArcAt_n12
noncomputable def ArcAt_n15 : Code := cR ArcAt_n12
noncomputable def ArcAt_n16 : Code := cL ArcAt_n13
noncomputable def ArcAt_n17 : Code := cR ArcAt_n13
noncomputable def ArcAt_n18 : Code := cL ArcAt_n17
noncomputable def ArcAt_n19 : Code := cR ArcAt_n17
noncomputable def ArcAt_n20 : Code := cL ArcAt_n18
noncomputable def ArcAt_n21 : Code := cR ArcAt_n18
noncomputable def ArcAt_n22 : Code := cL ArcAt_n19
noncomputable def ArcAt_n23 : Code := cR ArcAt_n19
noncomputable def ArcAt_n24 : Code := cL ArcAt_n23
noncomputable def ArcAt_n25 : Code := cR ArcAt_n23
noncomputable def ArcAt_n26 : Code := cL ArcAt_n24
noncomputable def ArcAt_n27 : Code := cR ArcAt_n24
noncomputable def ArcAt_n28 : Code := cL ArcAt_n6
noncomputable def ArcAt_n29 : Code := cR ArcAt_n6
set_option maxRecDepth 10000 in
theorem ArcAt_q {w : World} {M : Hp} {X : Fr} (d : Dg) {dcrsA : Option Addr} {dcrsc : Nat} (c k : Nat) (hdcrs : RdA cdCr (M.un X.h) dcrsA dcrsc d.crs) (hc : c < d.crs.length) (hk : k < 4) (S : SH w M X []) : Cq Try.prog 57 [.agg [.slice dcrsA d.crs.length dcrsc, .int .i64 d.loops].toArray, .agg [.int .i64 (c : Int), .int .i64 (k : Int)].toArray] w M X (fun u => u = .int .i64 (arcAt d c k)) := by
  unfold Cq
  refine calls_in (b := ArcAt_n0) Try.func57 rfl Try.ntmps57 rfl (fun C hC => ?_)
  refine ws_sub [(0, _), (1, _)] ⟨rfl, rfl, trivial⟩ ?_
  refine ws_seqN ArcAt_n1 ArcAt_n2 rfl rfl rfl ?_
  refine ws_region rfl ?_
  refine wl_op (k := 0) (k' := 1) rfl rfl rfl (wo_box (l := [_, _]) rfl rfl rfl rfl rfl S ?_)
  intro gb1 w1 S1; clear S
  refine wl_op (k := 1) (k' := 2) rfl rfl rfl (wo_box (l := [_, _]) rfl rfl rfl rfl rfl S1 ?_)
  intro gb2 w2 S2; clear S1
  refine wl_op (k := 2) (k' := 3) rfl rfl rfl (wo_run rfl rfl (run_assign rfl rfl) ?_)
  refine wl_end rfl ?_
  refine nm_sub [(2, _), (3, _)] ⟨rfl, rfl, trivial⟩ ?_
  refine nm_thn ?_
  refine ws_seqN ArcAt_n3 ArcAt_n4 rfl rfl rfl ?_
  refine ws_region rfl ?_
  refine wl_op (k := 0) (k' := 1) rfl rfl rfl (wo_run rfl rfl (run_fieldAddr rfl rfl Try.underlying27 rfl (ce25) (nf25)) ?_)
  refine wl_op (k := 1) (k' := 2) rfl rfl rfl (wo_run rfl rfl (run_load1 rfl rfl Try.underlying25 rfl (S2.boxc (i := 1) rfl rfl)) ?_)
  refine wl_op (k := 2) (k' := 3) rfl rfl rfl (wo_run rfl rfl (run_fieldAddr rfl rfl Try.underlying88 rfl (ce3) (nf3)) ?_)
  refine wl_op (k := 3) (k' := 4) rfl rfl rfl (wo_run rfl rfl (run_load1 rfl rfl Try.underlying3 rfl (S2.boxc (i := 0) rfl rfl)) ?_)
  refine wl_op (k := 4) (k' := 5) rfl rfl rfl (wo_run rfl rfl (run_indexM (C := cdCr) c rfl rfl rfl sl25 (by first | rfl | omega) hdcrs (by omega)) ?_)
  refine wl_op (k := 5) (k' := 6) rfl rfl rfl (wo_run rfl rfl (run_loadN (us := [_, _, _, _, _]) rfl rfl Try.underlying73 rfl sz73 (hdcrs.cellsAt S2.um (e := c) (by omega) (j := 0) ⟨rfl, rfl, rfl, rfl, rfl, trivial⟩)) ?_)
  refine wl_op (k := 6) (k' := 7) rfl rfl rfl (wo_alloc (l := [_, _, _, _, _]) rfl rfl rfl zr73 rfl S2 ?_)
  intro gb3 w3 S3; clear S2
  refine wl_op (k := 7) (k' := 8) rfl rfl rfl (wo_storeB (i := 0) (us := [_, _, _, _, _]) (l' := [_, _, _, _, _]) (H' := [_, _, _]) rfl rfl S3 rfl rfl rfl rfl sz73 rfl rfl rfl rfl ?_)
  intro w4 S4; clear S3
  refine wl_end rfl ?_
  refine nm_sub [(3, _), (5, _)] ⟨rfl, rfl, trivial⟩ ?_
  refine nm_thn ?_
  refine ws_seqN ArcAt_n5 ArcAt_n6 rfl rfl rfl ?_
  refine ws_seqN ArcAt_n7 ArcAt_n8 rfl rfl rfl ?_
  refine ws_region rfl ?_
  refine wl_op (k := 0) (k' := 1) rfl rfl rfl (wo_run rfl rfl (run_fieldAddr rfl rfl Try.underlying88 rfl (ce3) (nf3)) ?_)
  refine wl_op (k := 1) (k' := 2) rfl rfl rfl (wo_run rfl rfl (run_load1 rfl rfl Try.underlying3 rfl (S4.boxc (i := 1) rfl rfl)) ?_)
  refine wl_end rfl ?_
  refine nm_sub [(5, _), (13, _)] ⟨rfl, rfl, trivial⟩ ?_
  refine nm_thn ?_
  refine ws_blockN ArcAt_n9 0 rfl rfl rfl ?_
  refine ws_seqN ArcAt_n10 ArcAt_n11 rfl rfl rfl ?_
  refine ws_region rfl ?_
  refine wl_op (k := 0) (k' := 1) rfl rfl rfl (wo_run rfl rfl (run_eql rfl rfl rfl) ?_)
  refine wl_op (k := 1) (k' := 2) rfl rfl rfl (wo_run rfl rfl (run_assign rfl rfl) ?_)
  refine wl_end rfl ?_
  refine nm_sub [(5, _), (13, _), (14, _)] ⟨rfl, rfl, rfl, trivial⟩ ?_
  refine nm_thn ?_
  refine ws_condN ArcAt_n12 ArcAt_n13 rfl rfl rfl rfl (fun hb14 => ?_) (fun hb14 => ?_)
  · have hb14 := of_decide_eq_true hb14
    refine ws_seqN ArcAt_n14 ArcAt_n15 rfl rfl rfl ?_
    refine ws_region rfl ?_
    refine wl_op (k := 0) (k' := 1) rfl rfl rfl (wo_run rfl rfl (run_fieldAddr rfl rfl Try.underlying73 rfl (ce3) (nf3)) ?_)
    refine wl_op (k := 1) (k' := 2) rfl rfl rfl (wo_run rfl rfl (run_load1 rfl rfl Try.underlying3 rfl (S4.boxc (i := 0) rfl rfl)) ?_)
    refine wl_op (k := 2) (k' := 3) rfl rfl rfl (wo_run rfl rfl (run_assign rfl rfl) ?_)
    refine wl_end rfl ?_
    refine nm_sub [(4, _)] ⟨rfl, trivial⟩ ?_
    refine nm_thn ?_
    refine ws_ret hC [_] rfl rfl ⟨rfl, trivial⟩ ?_
    exact ⟨_, rfl, (S4.pick [] [] (by decide) trivial), (by first | (obtain rfl : k = 0 := (by omega); rfl) | (obtain rfl : k = 1 := (by omega); rfl) | (obtain rfl : k = 2 := (by omega); rfl) | (obtain rfl : k = 3 := (by omega); rfl))⟩
  · have hb14 := of_decide_eq_false hb14
    refine ws_seqN ArcAt_n16 ArcAt_n17 rfl rfl rfl ?_
    refine ws_region rfl ?_
    refine wl_op (k := 0) (k' := 1) rfl rfl rfl (wo_run rfl rfl (run_eql rfl rfl rfl) ?_)
    refine wl_op (k := 1) (k' := 2) rfl rfl rfl (wo_run rfl rfl (run_assign rfl rfl) ?_)
    refine wl_end rfl ?_
    refine nm_sub [(5, _), (13, _), (18, _)] ⟨rfl, rfl, rfl, trivial⟩ ?_
    refine nm_thn ?_
    refine ws_condN ArcAt_n18 ArcAt_n19 rfl rfl rfl rfl (fun hb18 => ?_) (fun hb18 => ?_)
    · have hb18 := of_decide_eq_true hb18
      refine ws_seqN ArcAt_n20 ArcAt_n21 rfl rfl rfl ?_
      refine ws_region rfl ?_
      refine wl_op (k := 0) (k' := 1) rfl rfl rfl (wo_run rfl rfl (run_fieldAddr rfl rfl Try.underlying73 rfl (ce3) (nf3)) ?_)
      refine wl_op (k := 1) (k' := 2) rfl rfl rfl (wo_run rfl rfl (run_load1 rfl rfl Try.underlying3 rfl (S4.boxc (i := 0) rfl rfl)) ?_)
      refine wl_op (k := 2) (k' := 3) rfl rfl rfl (wo_run rfl rfl (run_assign rfl rfl) ?_)
      refine wl_end rfl ?_
      refine nm_sub [(4, _)] ⟨rfl, trivial⟩ ?_
      refine nm_thn ?_
      refine ws_ret hC [_] rfl rfl ⟨rfl, trivial⟩ ?_
      exact ⟨_, rfl, (S4.pick [] [] (by decide) trivial), (by first | (obtain rfl : k = 0 := (by omega); rfl) | (obtain rfl : k = 1 := (by omega); rfl) | (obtain rfl : k = 2 := (by omega); rfl) | (obtain rfl : k = 3 := (by omega); rfl))⟩
    · have hb18 := of_decide_eq_false hb18
      refine ws_seqN ArcAt_n22 ArcAt_n23 rfl rfl rfl ?_
      refine ws_region rfl ?_
      refine wl_op (k := 0) (k' := 1) rfl rfl rfl (wo_run rfl rfl (run_eql rfl rfl rfl) ?_)
      refine wl_op (k := 1) (k' := 2) rfl rfl rfl (wo_run rfl rfl (run_assign rfl rfl) ?_)
      refine wl_end rfl ?_
      refine nm_sub [(5, _), (22, _)] ⟨rfl, rfl, trivial⟩ ?_
      refine nm_thn ?_
      refine ws_condN ArcAt_n24 ArcAt_n25 rfl rfl rfl rfl (fun hb22 => ?_) (fun hb22 => ?_)
      · have hb22 := of_decide_eq_true hb22
        refine ws_seqN ArcAt_n26 ArcAt_n27 rfl rfl rfl ?_
        refine ws_region rfl ?_
        refine wl_op (k := 0) (k' := 1) rfl rfl rfl (wo_run rfl rfl (run_fieldAddr rfl rfl Try.underlying73 rfl (ce3) (nf3)) ?_)
        refine wl_op (k := 1) (k' := 2) rfl rfl rfl (wo_run rfl rfl (run_load1 rfl rfl Try.underlying3 rfl (S4.boxc (i := 0) rfl rfl)) ?_)
        refine wl_op (k := 2) (k' := 3) rfl rfl rfl (wo_run rfl rfl (run_assign rfl rfl) ?_)
        refine wl_end rfl ?_
        refine nm_sub [(4, _)] ⟨rfl, trivial⟩ ?_
        refine nm_thn ?_
        refine ws_ret hC [_] rfl rfl ⟨rfl, trivial⟩ ?_
        exact ⟨_, rfl, (S4.pick [] [] (by decide) trivial), (by first | (obtain rfl : k = 0 := (by omega); rfl) | (obtain rfl : k = 1 := (by omega); rfl) | (obtain rfl : k = 2 := (by omega); rfl) | (obtain rfl : k = 3 := (by omega); rfl))⟩
      · have hb22 := of_decide_eq_false hb22
        refine ws_skip rfl ?_
        refine nm_blk ?_
        refine nm_sub [(5, _)] ⟨rfl, trivial⟩ ?_
        refine nm_thn ?_
        refine ws_seqN ArcAt_n28 ArcAt_n29 rfl rfl rfl ?_
        refine ws_region rfl ?_
        refine wl_op (k := 0) (k' := 1) rfl rfl rfl (wo_run rfl rfl (run_fieldAddr rfl rfl Try.underlying73 rfl (ce3) (nf3)) ?_)
        refine wl_op (k := 1) (k' := 2) rfl rfl rfl (wo_run rfl rfl (run_load1 rfl rfl Try.underlying3 rfl (S4.boxc (i := 0) rfl rfl)) ?_)
        refine wl_op (k := 2) (k' := 3) rfl rfl rfl (wo_run rfl rfl (run_assign rfl rfl) ?_)
        refine wl_end rfl ?_
        refine nm_sub [(4, _)] ⟨rfl, trivial⟩ ?_
        refine nm_thn ?_
        refine ws_ret hC [_] rfl rfl ⟨rfl, trivial⟩ ?_
        exact ⟨_, rfl, (S4.pick [] [] (by decide) trivial), (by first | (obtain rfl : k = 0 := (by omega); rfl) | (obtain rfl : k = 1 := (by omega); rfl) | (obtain rfl : k = 2 := (by omega); rfl) | (obtain rfl : k = 3 := (by omega); rfl))⟩

noncomputable def Entry_n0 : Code := Try.f58.body.getD .skip
noncomputable def Entry_n1 : Code := cL Entry_n0
noncomputable def Entry_n2 : Code := cR Entry_n0
noncomputable def Entry_n3 : Code := cL Entry_n2
noncomputable def Entry_n4 : Code := cR Entry_n2
set_option maxRecDepth 10000 in
theorem Entry_q {w : World} {M : Hp} {X : Fr} (d : Dg) {dcrsA : Option Addr} {dcrsc : Nat} (c k : Nat) (hdcrs : RdA cdCr (M.un X.h) dcrsA dcrsc d.crs) (hc : c < d.crs.length) (hk : k < 4) (S : SH w M X []) : Cq Try.prog 58 [.agg [.slice dcrsA d.crs.length dcrsc, .int .i64 d.loops].toArray, .agg [.int .i64 (c : Int), .int .i64 (k : Int)].toArray] w M X (fun u => u = .bool (entryB d c k)) := by
  unfold Cq
  refine calls_in (b := Entry_n0) Try.func58 rfl Try.ntmps58 rfl (fun C hC => ?_)
  refine ws_sub [(0, _), (1, _)] ⟨rfl, rfl, trivial⟩ ?_
  refine ws_seqN Entry_n1 Entry_n2 rfl rfl rfl ?_
  refine ws_region rfl ?_
  refine wl_op (k := 0) (k' := 1) rfl rfl rfl (wo_box (l := [_, _]) rfl rfl rfl rfl rfl S ?_)
  intro gb1 w1 S1; clear S
  refine wl_op (k := 1) (k' := 2) rfl rfl rfl (wo_box (l := [_, _]) rfl rfl rfl rfl rfl S1 ?_)
  intro gb2 w2 S2; clear S1
  refine wl_op (k := 2) (k' := 3) rfl rfl rfl (wo_run rfl rfl (run_assign rfl rfl) ?_)
  refine wl_end rfl ?_
  refine nm_sub [(2, _), (3, _)] ⟨rfl, rfl, trivial⟩ ?_
  refine nm_thn ?_
  refine ws_seqN Entry_n3 Entry_n4 rfl rfl rfl ?_
  refine ws_region rfl ?_
  refine wl_op (k := 0) (k' := 1) rfl rfl rfl (wo_run rfl rfl (run_fieldAddr rfl rfl Try.underlying88 rfl (ce3) (nf3)) ?_)
  refine wl_op (k := 1) (k' := 2) rfl rfl rfl (wo_run rfl rfl (run_load1 rfl rfl Try.underlying3 rfl (S2.boxc (i := 0) rfl rfl)) ?_)
  refine wl_op (k := 2) (k' := 3) rfl rfl rfl (wo_run rfl rfl (run_eql rfl rfl rfl) ?_)
  refine wl_op (k := 3) (k' := 4) rfl rfl rfl (wo_run rfl rfl (run_move rfl rfl) ?_)
  refine wl_split (t := 8) rfl (fun hg8 => ?_) (fun hg8 => ?_)
  · have hg8 := of_decide_eq_true hg8
    refine wl_no (k := 4) (k' := 5) (d := 9) rfl rfl ⟨_, _, _, rfl, rfl, rfl, rfl⟩ rfl rfl ?_
    refine wl_no (k := 5) (k' := 6) (d := 10) rfl rfl ⟨_, _, _, rfl, rfl, rfl, rfl⟩ rfl rfl ?_
    refine wl_no (k := 6) (k' := 7) (d := 11) rfl rfl ⟨_, _, _, rfl, rfl, rfl, rfl⟩ rfl rfl ?_
    refine wl_no (k := 7) (k' := 8) (d := 12) rfl rfl ⟨_, _, _, rfl, rfl, rfl, rfl⟩ rfl rfl ?_
    refine wl_no (k := 8) (k' := 9) (d := 13) rfl rfl ⟨_, _, _, rfl, rfl, rfl, rfl⟩ rfl rfl ?_
    refine wl_no (k := 9) (k' := 10) (d := 14) rfl rfl ⟨_, _, _, rfl, rfl, rfl, rfl⟩ rfl rfl ?_
    refine wl_no (k := 10) (k' := 11) (d := 15) rfl rfl ⟨_, _, _, rfl, rfl, rfl, rfl⟩ rfl rfl ?_
    refine wl_no (k := 11) (k' := 12) (d := 16) rfl rfl ⟨_, _, _, rfl, rfl, rfl, rfl⟩ rfl rfl ?_
    refine wl_no (k := 12) (k' := 13) (d := 17) rfl rfl ⟨_, _, _, rfl, rfl, rfl, rfl⟩ rfl rfl ?_
    refine wl_no (k := 13) (k' := 14) (d := 18) rfl rfl ⟨_, _, _, rfl, rfl, rfl, rfl⟩ rfl rfl ?_
    refine wl_no (k := 14) (k' := 15) (d := 19) rfl rfl ⟨_, _, _, rfl, rfl, rfl, rfl⟩ rfl rfl ?_
    refine wl_no (k := 15) (k' := 16) (d := 20) rfl rfl ⟨_, _, _, rfl, rfl, rfl, rfl⟩ rfl rfl ?_
    refine wl_no (k := 16) (k' := 17) (d := 21) rfl rfl ⟨_, _, _, rfl, rfl, rfl, rfl⟩ rfl rfl ?_
    refine wl_op (k := 17) (k' := 18) rfl rfl rfl (wo_run rfl rfl (run_pickT rfl rfl rfl) ?_)
    refine wl_op (k := 18) (k' := 19) rfl rfl rfl (wo_run rfl rfl (run_move rfl rfl) ?_)
    refine wl_no (k := 19) (k' := 20) (d := 24) rfl rfl ⟨_, _, _, rfl, rfl, rfl, rfl⟩ rfl rfl ?_
    refine wl_no (k := 20) (k' := 21) (d := 25) rfl rfl ⟨_, _, _, rfl, rfl, rfl, rfl⟩ rfl rfl ?_
    refine wl_no (k := 21) (k' := 22) (d := 26) rfl rfl ⟨_, _, _, rfl, rfl, rfl, rfl⟩ rfl rfl ?_
    refine wl_no (k := 22) (k' := 23) (d := 27) rfl rfl ⟨_, _, _, rfl, rfl, rfl, rfl⟩ rfl rfl ?_
    refine wl_no (k := 23) (k' := 24) (d := 28) rfl rfl ⟨_, _, _, rfl, rfl, rfl, rfl⟩ rfl rfl ?_
    refine wl_no (k := 24) (k' := 25) (d := 29) rfl rfl ⟨_, _, _, rfl, rfl, rfl, rfl⟩ rfl rfl ?_
    refine wl_no (k := 25) (k' := 26) (d := 30) rfl rfl ⟨_, _, _, rfl, rfl, rfl, rfl⟩ rfl rfl ?_
    refine wl_no (k := 26) (k' := 27) (d := 31) rfl rfl ⟨_, _, _, rfl, rfl, rfl, rfl⟩ rfl rfl ?_
    refine wl_no (k := 27) (k' := 28) (d := 32) rfl rfl ⟨_, _, _, rfl, rfl, rfl, rfl⟩ rfl rfl ?_
    refine wl_no (k := 28) (k' := 29) (d := 33) rfl rfl ⟨_, _, _, rfl, rfl, rfl, rfl⟩ rfl rfl ?_
    refine wl_no (k := 29) (k' := 30) (d := 34) rfl rfl ⟨_, _, _, rfl, rfl, rfl, rfl⟩ rfl rfl ?_
    refine wl_no (k := 30) (k' := 31) (d := 35) rfl rfl ⟨_, _, _, rfl, rfl, rfl, rfl⟩ rfl rfl ?_
    refine wl_op (k := 31) (k' := 32) rfl rfl rfl (wo_run rfl rfl (run_pickT rfl rfl rfl) ?_)
    refine wl_op (k := 32) (k' := 33) rfl rfl rfl (wo_run rfl rfl (run_assign rfl rfl) ?_)
    refine wl_end rfl ?_
    refine nm_sub [(4, _)] ⟨rfl, trivial⟩ ?_
    refine nm_thn ?_
    refine ws_ret hC [_] rfl rfl ⟨rfl, trivial⟩ ?_
    exact ⟨_, rfl, (S2.pick [] [] (by decide) trivial), (by have e0 : k = 0 ∨ k = 1 ∨ k = 2 ∨ k = 3 := (by omega); rcases e0 with rfl | rfl | rfl | rfl <;> first | (exfalso; omega) | (show Value.bool _ = _; unfold entryB crIn; simp [*]))⟩
  · have hg8 := of_decide_eq_false hg8
    refine wl_opG (k := 4) (k' := 5) rfl rfl ⟨_, _, _, rfl, rfl, rfl, rfl⟩ rfl (wo_run rfl rfl (run_fieldAddr rfl rfl Try.underlying88 rfl (ce3) (nf3)) ?_)
    refine wl_opG (k := 5) (k' := 6) rfl rfl ⟨_, _, _, rfl, rfl, rfl, rfl⟩ rfl (wo_run rfl rfl (run_load1 rfl rfl Try.underlying3 rfl (S2.boxc (i := 0) rfl rfl)) ?_)
    refine wl_opG (k := 6) (k' := 7) rfl rfl ⟨_, _, _, rfl, rfl, rfl, rfl⟩ rfl (wo_run rfl rfl (run_eql rfl rfl rfl) ?_)
    refine wl_opG (k := 7) (k' := 8) rfl rfl ⟨_, _, _, rfl, rfl, rfl, rfl⟩ rfl (wo_run rfl rfl (run_move rfl rfl) ?_)
    refine wl_split (t := 12) rfl (fun hg12 => ?_) (fun hg12 => ?_)
    · have hg12 := of_decide_eq_true hg12
      refine wl_opG (k := 8) (k' := 9) rfl rfl ⟨_, _, _, rfl, rfl, rfl, rfl⟩ rfl (wo_run rfl rfl (run_fieldAddr rfl rfl Try.underlying27 rfl (ce25) (nf25)) ?_)
      refine wl_opG (k := 9) (k' := 10) rfl rfl ⟨_, _, _, rfl, rfl, rfl, rfl⟩ rfl (wo_run rfl rfl (run_load1 rfl rfl Try.underlying25 rfl (S2.boxc (i := 1) rfl rfl)) ?_)
      refine wl_opG (k := 10) (k' := 11) rfl rfl ⟨_, _, _, rfl, rfl, rfl, rfl⟩ rfl (wo_run rfl rfl (run_fieldAddr rfl rfl Try.underlying88 rfl (ce3) (nf3)) ?_)
      refine wl_opG (k := 11) (k' := 12) rfl rfl ⟨_, _, _, rfl, rfl, rfl, rfl⟩ rfl (wo_run rfl rfl (run_load1 rfl rfl Try.underlying3 rfl (S2.boxc (i := 0) rfl rfl)) ?_)
      refine wl_opG (k := 12) (k' := 13) rfl rfl ⟨_, _, _, rfl, rfl, rfl, rfl⟩ rfl (wo_run rfl rfl (run_indexM (C := cdCr) c rfl rfl rfl sl25 (by first | rfl | omega) hdcrs (by omega)) ?_)
      refine wl_opG (k := 13) (k' := 14) rfl rfl ⟨_, _, _, rfl, rfl, rfl, rfl⟩ rfl (wo_run rfl rfl (run_fieldAddr rfl rfl Try.underlying73 rfl (ce4) (nf4)) ?_)
      refine wl_opG (k := 14) (k' := 15) rfl rfl ⟨_, _, _, rfl, rfl, rfl, rfl⟩ rfl (wo_run rfl rfl (run_load1 rfl rfl Try.underlying4 rfl (hdcrs.cell S2.um (i := c) (by omega) 4 rfl rfl)) ?_)
      refine wl_opG (k := 15) (k' := 16) rfl rfl ⟨_, _, _, rfl, rfl, rfl, rfl⟩ rfl (wo_run rfl rfl (run_not rfl rfl) ?_)
      refine wl_opG (k := 16) (k' := 17) rfl rfl ⟨_, _, _, rfl, rfl, rfl, rfl⟩ rfl (wo_run rfl rfl (run_pickT rfl rfl rfl) ?_)
      refine wl_op (k := 17) (k' := 18) rfl rfl rfl (wo_run rfl rfl (run_pickF rfl rfl rfl) ?_)
      refine wl_op (k := 18) (k' := 19) rfl rfl rfl (wo_run rfl rfl (run_move rfl rfl) ?_)
      refine wl_split (t := 23) rfl (fun hg23 => ?_) (fun hg23 => ?_)
      · simp only [Bool.and_eq_true, Bool.or_eq_true, Bool.and_eq_false_iff, Bool.or_eq_false_iff, decide_eq_true_eq, decide_eq_false_iff_not, Bool.not_eq_true', Bool.not_eq_false'] at hg23
        refine wl_no (k := 19) (k' := 20) (d := 24) rfl rfl ⟨_, _, _, rfl, rfl, rfl, rfl⟩ rfl rfl ?_
        refine wl_no (k := 20) (k' := 21) (d := 25) rfl rfl ⟨_, _, _, rfl, rfl, rfl, rfl⟩ rfl rfl ?_
        refine wl_no (k := 21) (k' := 22) (d := 26) rfl rfl ⟨_, _, _, rfl, rfl, rfl, rfl⟩ rfl rfl ?_
        refine wl_no (k := 22) (k' := 23) (d := 27) rfl rfl ⟨_, _, _, rfl, rfl, rfl, rfl⟩ rfl rfl ?_
        refine wl_no (k := 23) (k' := 24) (d := 28) rfl rfl ⟨_, _, _, rfl, rfl, rfl, rfl⟩ rfl rfl ?_
        refine wl_no (k := 24) (k' := 25) (d := 29) rfl rfl ⟨_, _, _, rfl, rfl, rfl, rfl⟩ rfl rfl ?_
        refine wl_no (k := 25) (k' := 26) (d := 30) rfl rfl ⟨_, _, _, rfl, rfl, rfl, rfl⟩ rfl rfl ?_
        refine wl_no (k := 26) (k' := 27) (d := 31) rfl rfl ⟨_, _, _, rfl, rfl, rfl, rfl⟩ rfl rfl ?_
        refine wl_no (k := 27) (k' := 28) (d := 32) rfl rfl ⟨_, _, _, rfl, rfl, rfl, rfl⟩ rfl rfl ?_
        refine wl_no (k := 28) (k' := 29) (d := 33) rfl rfl ⟨_, _, _, rfl, rfl, rfl, rfl⟩ rfl rfl ?_
        refine wl_no (k := 29) (k' := 30) (d := 34) rfl rfl ⟨_, _, _, rfl, rfl, rfl, rfl⟩ rfl rfl ?_
        refine wl_no (k := 30) (k' := 31) (d := 35) rfl rfl ⟨_, _, _, rfl, rfl, rfl, rfl⟩ rfl rfl ?_
        refine wl_op (k := 31) (k' := 32) rfl rfl rfl (wo_run rfl rfl (run_pickT rfl rfl rfl) ?_)
        refine wl_op (k := 32) (k' := 33) rfl rfl rfl (wo_run rfl rfl (run_assign rfl rfl) ?_)
        refine wl_end rfl ?_
        refine nm_sub [(4, _)] ⟨rfl, trivial⟩ ?_
        refine nm_thn ?_
        refine ws_ret hC [_] rfl rfl ⟨rfl, trivial⟩ ?_
        exact ⟨_, rfl, (S2.pick [] [] (by decide) trivial), (by have e0 : k = 0 ∨ k = 1 ∨ k = 2 ∨ k = 3 := (by omega); rcases e0 with rfl | rfl | rfl | rfl <;> first | (exfalso; omega) | (show Value.bool _ = _; unfold entryB crIn; simp [*]))⟩
      · simp only [Bool.and_eq_true, Bool.or_eq_true, Bool.and_eq_false_iff, Bool.or_eq_false_iff, decide_eq_true_eq, decide_eq_false_iff_not, Bool.not_eq_true', Bool.not_eq_false'] at hg23
        refine wl_opG (k := 19) (k' := 20) rfl rfl ⟨_, _, _, rfl, rfl, rfl, rfl⟩ rfl (wo_run rfl rfl (run_fieldAddr rfl rfl Try.underlying88 rfl (ce3) (nf3)) ?_)
        refine wl_opG (k := 20) (k' := 21) rfl rfl ⟨_, _, _, rfl, rfl, rfl, rfl⟩ rfl (wo_run rfl rfl (run_load1 rfl rfl Try.underlying3 rfl (S2.boxc (i := 0) rfl rfl)) ?_)
        refine wl_opG (k := 21) (k' := 22) rfl rfl ⟨_, _, _, rfl, rfl, rfl, rfl⟩ rfl (wo_run rfl rfl (run_eql rfl rfl rfl) ?_)
        refine wl_opG (k := 22) (k' := 23) rfl rfl ⟨_, _, _, rfl, rfl, rfl, rfl⟩ rfl (wo_run rfl rfl (run_move rfl rfl) ?_)
        refine wl_split (t := 27) rfl (fun hg27 => ?_) (fun hg27 => ?_)
        · have hg27 := of_decide_eq_true hg27
          refine wl_opG (k := 23) (k' := 24) rfl rfl ⟨_, _, _, rfl, rfl, rfl, rfl⟩ rfl (wo_run rfl rfl (run_fieldAddr rfl rfl Try.underlying27 rfl (ce25) (nf25)) ?_)
          refine wl_opG (k := 24) (k' := 25) rfl rfl ⟨_, _, _, rfl, rfl, rfl, rfl⟩ rfl (wo_run rfl rfl (run_load1 rfl rfl Try.underlying25 rfl (S2.boxc (i := 1) rfl rfl)) ?_)
          refine wl_opG (k := 25) (k' := 26) rfl rfl ⟨_, _, _, rfl, rfl, rfl, rfl⟩ rfl (wo_run rfl rfl (run_fieldAddr rfl rfl Try.underlying88 rfl (ce3) (nf3)) ?_)
          refine wl_opG (k := 26) (k' := 27) rfl rfl ⟨_, _, _, rfl, rfl, rfl, rfl⟩ rfl (wo_run rfl rfl (run_load1 rfl rfl Try.underlying3 rfl (S2.boxc (i := 0) rfl rfl)) ?_)
          refine wl_opG (k := 27) (k' := 28) rfl rfl ⟨_, _, _, rfl, rfl, rfl, rfl⟩ rfl (wo_run rfl rfl (run_indexM (C := cdCr) c rfl rfl rfl sl25 (by first | rfl | omega) hdcrs (by omega)) ?_)
          refine wl_opG (k := 28) (k' := 29) rfl rfl ⟨_, _, _, rfl, rfl, rfl, rfl⟩ rfl (wo_run rfl rfl (run_fieldAddr rfl rfl Try.underlying73 rfl (ce4) (nf4)) ?_)
          refine wl_opG (k := 29) (k' := 30) rfl rfl ⟨_, _, _, rfl, rfl, rfl, rfl⟩ rfl (wo_run rfl rfl (run_load1 rfl rfl Try.underlying4 rfl (hdcrs.cell S2.um (i := c) (by omega) 4 rfl rfl)) ?_)
          refine wl_opG (k := 30) (k' := 31) rfl rfl ⟨_, _, _, rfl, rfl, rfl, rfl⟩ rfl (wo_run rfl rfl (run_pickT rfl rfl rfl) ?_)
          refine wl_op (k := 31) (k' := 32) rfl rfl rfl (wo_run rfl rfl (run_pickF rfl rfl rfl) ?_)
          refine wl_op (k := 32) (k' := 33) rfl rfl rfl (wo_run rfl rfl (run_assign rfl rfl) ?_)
          refine wl_end rfl ?_
          refine nm_sub [(4, _)] ⟨rfl, trivial⟩ ?_
          refine nm_thn ?_
          refine ws_ret hC [_] rfl rfl ⟨rfl, trivial⟩ ?_
          exact ⟨_, rfl, (S2.pick [] [] (by decide) trivial), (by have e0 : k = 0 ∨ k = 1 ∨ k = 2 ∨ k = 3 := (by omega); rcases e0 with rfl | rfl | rfl | rfl <;> first | (exfalso; omega) | (show Value.bool _ = _; unfold entryB crIn; simp [*]))⟩
        · have hg27 := of_decide_eq_false hg27
          refine wl_no (k := 23) (k' := 24) (d := 28) rfl rfl ⟨_, _, _, rfl, rfl, rfl, rfl⟩ rfl rfl ?_
          refine wl_no (k := 24) (k' := 25) (d := 29) rfl rfl ⟨_, _, _, rfl, rfl, rfl, rfl⟩ rfl rfl ?_
          refine wl_no (k := 25) (k' := 26) (d := 30) rfl rfl ⟨_, _, _, rfl, rfl, rfl, rfl⟩ rfl rfl ?_
          refine wl_no (k := 26) (k' := 27) (d := 31) rfl rfl ⟨_, _, _, rfl, rfl, rfl, rfl⟩ rfl rfl ?_
          refine wl_no (k := 27) (k' := 28) (d := 32) rfl rfl ⟨_, _, _, rfl, rfl, rfl, rfl⟩ rfl rfl ?_
          refine wl_no (k := 28) (k' := 29) (d := 33) rfl rfl ⟨_, _, _, rfl, rfl, rfl, rfl⟩ rfl rfl ?_
          refine wl_no (k := 29) (k' := 30) (d := 34) rfl rfl ⟨_, _, _, rfl, rfl, rfl, rfl⟩ rfl rfl ?_
          refine wl_opG (k := 30) (k' := 31) rfl rfl ⟨_, _, _, rfl, rfl, rfl, rfl⟩ rfl (wo_run rfl rfl (run_pickF rfl rfl rfl) ?_)
          refine wl_op (k := 31) (k' := 32) rfl rfl rfl (wo_run rfl rfl (run_pickF rfl rfl rfl) ?_)
          refine wl_op (k := 32) (k' := 33) rfl rfl rfl (wo_run rfl rfl (run_assign rfl rfl) ?_)
          refine wl_end rfl ?_
          refine nm_sub [(4, _)] ⟨rfl, trivial⟩ ?_
          refine nm_thn ?_
          refine ws_ret hC [_] rfl rfl ⟨rfl, trivial⟩ ?_
          exact ⟨_, rfl, (S2.pick [] [] (by decide) trivial), (by have e0 : k = 0 ∨ k = 1 ∨ k = 2 ∨ k = 3 := (by omega); rcases e0 with rfl | rfl | rfl | rfl <;> first | (exfalso; omega) | (show Value.bool _ = _; unfold entryB crIn; simp [*]))⟩
    · have hg12 := of_decide_eq_false hg12
      refine wl_no (k := 8) (k' := 9) (d := 13) rfl rfl ⟨_, _, _, rfl, rfl, rfl, rfl⟩ rfl rfl ?_
      refine wl_no (k := 9) (k' := 10) (d := 14) rfl rfl ⟨_, _, _, rfl, rfl, rfl, rfl⟩ rfl rfl ?_
      refine wl_no (k := 10) (k' := 11) (d := 15) rfl rfl ⟨_, _, _, rfl, rfl, rfl, rfl⟩ rfl rfl ?_
      refine wl_no (k := 11) (k' := 12) (d := 16) rfl rfl ⟨_, _, _, rfl, rfl, rfl, rfl⟩ rfl rfl ?_
      refine wl_no (k := 12) (k' := 13) (d := 17) rfl rfl ⟨_, _, _, rfl, rfl, rfl, rfl⟩ rfl rfl ?_
      refine wl_no (k := 13) (k' := 14) (d := 18) rfl rfl ⟨_, _, _, rfl, rfl, rfl, rfl⟩ rfl rfl ?_
      refine wl_no (k := 14) (k' := 15) (d := 19) rfl rfl ⟨_, _, _, rfl, rfl, rfl, rfl⟩ rfl rfl ?_
      refine wl_no (k := 15) (k' := 16) (d := 20) rfl rfl ⟨_, _, _, rfl, rfl, rfl, rfl⟩ rfl rfl ?_
      refine wl_opG (k := 16) (k' := 17) rfl rfl ⟨_, _, _, rfl, rfl, rfl, rfl⟩ rfl (wo_run rfl rfl (run_pickF rfl rfl rfl) ?_)
      refine wl_op (k := 17) (k' := 18) rfl rfl rfl (wo_run rfl rfl (run_pickF rfl rfl rfl) ?_)
      refine wl_op (k := 18) (k' := 19) rfl rfl rfl (wo_run rfl rfl (run_move rfl rfl) ?_)
      refine wl_opG (k := 19) (k' := 20) rfl rfl ⟨_, _, _, rfl, rfl, rfl, rfl⟩ rfl (wo_run rfl rfl (run_fieldAddr rfl rfl Try.underlying88 rfl (ce3) (nf3)) ?_)
      refine wl_opG (k := 20) (k' := 21) rfl rfl ⟨_, _, _, rfl, rfl, rfl, rfl⟩ rfl (wo_run rfl rfl (run_load1 rfl rfl Try.underlying3 rfl (S2.boxc (i := 0) rfl rfl)) ?_)
      refine wl_opG (k := 21) (k' := 22) rfl rfl ⟨_, _, _, rfl, rfl, rfl, rfl⟩ rfl (wo_run rfl rfl (run_eql rfl rfl rfl) ?_)
      refine wl_opG (k := 22) (k' := 23) rfl rfl ⟨_, _, _, rfl, rfl, rfl, rfl⟩ rfl (wo_run rfl rfl (run_move rfl rfl) ?_)
      refine wl_split (t := 27) rfl (fun hg27 => ?_) (fun hg27 => ?_)
      · have hg27 := of_decide_eq_true hg27
        refine wl_opG (k := 23) (k' := 24) rfl rfl ⟨_, _, _, rfl, rfl, rfl, rfl⟩ rfl (wo_run rfl rfl (run_fieldAddr rfl rfl Try.underlying27 rfl (ce25) (nf25)) ?_)
        refine wl_opG (k := 24) (k' := 25) rfl rfl ⟨_, _, _, rfl, rfl, rfl, rfl⟩ rfl (wo_run rfl rfl (run_load1 rfl rfl Try.underlying25 rfl (S2.boxc (i := 1) rfl rfl)) ?_)
        refine wl_opG (k := 25) (k' := 26) rfl rfl ⟨_, _, _, rfl, rfl, rfl, rfl⟩ rfl (wo_run rfl rfl (run_fieldAddr rfl rfl Try.underlying88 rfl (ce3) (nf3)) ?_)
        refine wl_opG (k := 26) (k' := 27) rfl rfl ⟨_, _, _, rfl, rfl, rfl, rfl⟩ rfl (wo_run rfl rfl (run_load1 rfl rfl Try.underlying3 rfl (S2.boxc (i := 0) rfl rfl)) ?_)
        refine wl_opG (k := 27) (k' := 28) rfl rfl ⟨_, _, _, rfl, rfl, rfl, rfl⟩ rfl (wo_run rfl rfl (run_indexM (C := cdCr) c rfl rfl rfl sl25 (by first | rfl | omega) hdcrs (by omega)) ?_)
        refine wl_opG (k := 28) (k' := 29) rfl rfl ⟨_, _, _, rfl, rfl, rfl, rfl⟩ rfl (wo_run rfl rfl (run_fieldAddr rfl rfl Try.underlying73 rfl (ce4) (nf4)) ?_)
        refine wl_opG (k := 29) (k' := 30) rfl rfl ⟨_, _, _, rfl, rfl, rfl, rfl⟩ rfl (wo_run rfl rfl (run_load1 rfl rfl Try.underlying4 rfl (hdcrs.cell S2.um (i := c) (by omega) 4 rfl rfl)) ?_)
        refine wl_opG (k := 30) (k' := 31) rfl rfl ⟨_, _, _, rfl, rfl, rfl, rfl⟩ rfl (wo_run rfl rfl (run_pickT rfl rfl rfl) ?_)
        refine wl_op (k := 31) (k' := 32) rfl rfl rfl (wo_run rfl rfl (run_pickF rfl rfl rfl) ?_)
        refine wl_op (k := 32) (k' := 33) rfl rfl rfl (wo_run rfl rfl (run_assign rfl rfl) ?_)
        refine wl_end rfl ?_
        refine nm_sub [(4, _)] ⟨rfl, trivial⟩ ?_
        refine nm_thn ?_
        refine ws_ret hC [_] rfl rfl ⟨rfl, trivial⟩ ?_
        exact ⟨_, rfl, (S2.pick [] [] (by decide) trivial), (by have e0 : k = 0 ∨ k = 1 ∨ k = 2 ∨ k = 3 := (by omega); rcases e0 with rfl | rfl | rfl | rfl <;> first | (exfalso; omega) | (show Value.bool _ = _; unfold entryB crIn; simp [*]))⟩
      · have hg27 := of_decide_eq_false hg27
        refine wl_no (k := 23) (k' := 24) (d := 28) rfl rfl ⟨_, _, _, rfl, rfl, rfl, rfl⟩ rfl rfl ?_
        refine wl_no (k := 24) (k' := 25) (d := 29) rfl rfl ⟨_, _, _, rfl, rfl, rfl, rfl⟩ rfl rfl ?_
        refine wl_no (k := 25) (k' := 26) (d := 30) rfl rfl ⟨_, _, _, rfl, rfl, rfl, rfl⟩ rfl rfl ?_
        refine wl_no (k := 26) (k' := 27) (d := 31) rfl rfl ⟨_, _, _, rfl, rfl, rfl, rfl⟩ rfl rfl ?_
        refine wl_no (k := 27) (k' := 28) (d := 32) rfl rfl ⟨_, _, _, rfl, rfl, rfl, rfl⟩ rfl rfl ?_
        refine wl_no (k := 28) (k' := 29) (d := 33) rfl rfl ⟨_, _, _, rfl, rfl, rfl, rfl⟩ rfl rfl ?_
        refine wl_no (k := 29) (k' := 30) (d := 34) rfl rfl ⟨_, _, _, rfl, rfl, rfl, rfl⟩ rfl rfl ?_
        refine wl_opG (k := 30) (k' := 31) rfl rfl ⟨_, _, _, rfl, rfl, rfl, rfl⟩ rfl (wo_run rfl rfl (run_pickF rfl rfl rfl) ?_)
        refine wl_op (k := 31) (k' := 32) rfl rfl rfl (wo_run rfl rfl (run_pickF rfl rfl rfl) ?_)
        refine wl_op (k := 32) (k' := 33) rfl rfl rfl (wo_run rfl rfl (run_assign rfl rfl) ?_)
        refine wl_end rfl ?_
        refine nm_sub [(4, _)] ⟨rfl, trivial⟩ ?_
        refine nm_thn ?_
        refine ws_ret hC [_] rfl rfl ⟨rfl, trivial⟩ ?_
        exact ⟨_, rfl, (S2.pick [] [] (by decide) trivial), (by have e0 : k = 0 ∨ k = 1 ∨ k = 2 ∨ k = 3 := (by omega); rcases e0 with rfl | rfl | rfl | rfl <;> first | (exfalso; omega) | (show Value.bool _ = _; unfold entryB crIn; simp [*]))⟩

end Go.Proofs.Ytlbpgnimpcflaaa
