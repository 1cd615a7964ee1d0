/- Part 4 of the proof of the law SignShades: the walks through its functions and the plain laws that they need. -/
import Derived.Test.YthppkofceancjaaShZ3
import Derived.Sort.OwnSortedInts
import Derived.Shelf.Sort.Plain
import Derived.Shelf.Slices.In.SortNone
import Derived.Test.YthppkofceancjaaProg
set_option linter.unusedSimpArgs false
set_option linter.unusedVariables false
namespace Go.Proofs.Ythppkofceancjaa
open Go.ChangeShapes Go.WideShapes Go.ChangeAt Go.RowKit
noncomputable def ArcAt_n0 : Code := Try.f28.body.getD .skip
noncomputable def ArcAt_n1 : Code := cL ArcAt_n0
noncomputable def ArcAt_n2 : Code := cR ArcAt_n0
noncomputable def ArcAt_n3 : Code := cL ArcAt_n2
noncomputable def ArcAt_n4 : Code := cR ArcAt_n2
noncomputable def ArcAt_n5 : Code := cL ArcAt_n4
noncomputable def ArcAt_n6 : Code := cR ArcAt_n4
noncomputable def ArcAt_n7 : Code := cL ArcAt_n5
noncomputable def ArcAt_n8 : Code := cR ArcAt_n5
noncomputable def ArcAt_n9 : Code := cL ArcAt_n8
noncomputable def ArcAt_n10 : Code := cL ArcAt_n9
noncomputable def ArcAt_n11 : Code := cR ArcAt_n9
noncomputable def ArcAt_n12 : Code := cL ArcAt_n11
noncomputable def ArcAt_n13 : Code := cR ArcAt_n11
noncomputable def ArcAt_n14 : Code := cL ArcAt_n12
noncomputable def ArcAt_n15 : Code := cR ArcAt_n12
noncomputable def ArcAt_n16 : Code := cL ArcAt_n13
noncomputable def ArcAt_n17 : Code := cR ArcAt_n13
noncomputable def ArcAt_n18 : Code := cL ArcAt_n17
noncomputable def ArcAt_n19 : Code := cR ArcAt_n17
noncomputable def ArcAt_n20 : Code := cL ArcAt_n18
noncomputable def ArcAt_n21 : Code := cR ArcAt_n18
noncomputable def ArcAt_n22 : Code := cL ArcAt_n19
noncomputable def ArcAt_n23 : Code := cR ArcAt_n19
noncomputable def ArcAt_n24 : Code := cL ArcAt_n23
noncomputable def ArcAt_n25 : Code := cR ArcAt_n23
noncomputable def ArcAt_n26 : Code := cL ArcAt_n24
noncomputable def ArcAt_n27 : Code := cR ArcAt_n24
noncomputable def ArcAt_n28 : Code := cL ArcAt_n6
noncomputable def ArcAt_n29 : Code := cR ArcAt_n6
set_option maxRecDepth 10000 in
theorem ArcAt_q {w : World} {M : Hp} {X : Fr} (d : Dg) {dcrsA : Option Addr} {dcrsc : Nat} (c k : Nat) (hdcrs : RdA cdCr (M.un X.h) dcrsA dcrsc d.crs) (hc : c < d.crs.length) (hk : k < 4) (S : SH w M X []) : Cq Try.prog 28 [.agg [.slice dcrsA d.crs.length dcrsc, .int .i64 d.loops].toArray, .agg [.int .i64 (c : Int), .int .i64 (k : Int)].toArray] w M X (fun u => u = .int .i64 (arcAt d c k)) := by
 unfold Cq
 have rmhdcrs : d.crs.length * 40 ≤ 140737488355328 := hdcrs.room
 refine calls_in (b := ArcAt_n0) Try.func28 rfl Try.ntmps28 rfl (fun C hC => (ws_sub [(0, _), (1, _)] ⟨rfl, rfl, trivial⟩ (ws_seqN ArcAt_n1 ArcAt_n2 rfl rfl rfl (ws_region rfl (wlo 0 1 rfl rfl rfl (wo_box (l := [_, _]) rfl rfl rfl rfl rfl S ?_))))))
 intro gb1 w1 S1; clear S
 refine wlo 1 2 rfl rfl rfl (wo_box (l := [_, _]) rfl rfl rfl rfl rfl S1 ?_)
 intro gb2 w2 S2; clear S1
 refine wla 2 3 rfl rfl rfl rfl rfl rfl rfl (wl_end rfl (nmk [2, 3] rfl (nm_thn (ws_seqN ArcAt_n3 ArcAt_n4 rfl rfl rfl ?_))))
 refine ws_region rfl (wlo 0 1 rfl rfl rfl (wo_run rfl rfl (run_fieldAddr rfl rfl Try.underlying24 rfl (ce22) (nf22)) (wlo 1 2 rfl rfl rfl (wo_run rfl rfl (run_load1 rfl rfl Try.underlying22 rfl (S2.boxc (i := 1) rfl rfl)) (wlo 2 3 rfl rfl rfl (wo_run rfl rfl (run_fieldAddr rfl rfl Try.underlying53 rfl (ce3) (nf3)) (wlo 3 4 rfl rfl rfl (wo_run rfl rfl (run_load1 rfl rfl Try.underlying3 rfl (S2.boxc (i := 0) rfl rfl)) ?_))))))))
 refine wlo 4 5 rfl rfl rfl (wo_run rfl rfl (run_indexM (C := cdCr) c rfl rfl rfl sl22 (by first | rfl | omega) hdcrs (by first | omega | (simp only [lens]; omega))) ?_)
 refine wlo 5 6 rfl rfl rfl (wo_run rfl rfl (run_loadN (us := [_, _, _, _, _]) rfl rfl Try.underlying55 rfl sz55 (hdcrs.cellsAt S2.um (e := c) (by first | omega | (simp only [lens]; omega)) (j := 0) ⟨rfl, rfl, rfl, rfl, rfl, trivial⟩)) ?_)
 refine wlo 6 7 rfl rfl rfl (wo_alloc (l := [_, _, _, _, _]) rfl rfl rfl zr55 rfl S2 ?_)
 intro gb3 w3 S3; clear S2
 refine wlo 7 8 rfl rfl rfl (wo_storeB (i := 0) (us := [_, _, _, _, _]) (l' := [_, _, _, _, _]) (H' := [_, _, _]) rfl rfl S3 rfl rfl rfl rfl sz55 rfl rfl rfl rfl ?_)
 intro w4 S4; clear S3
 refine wl_end rfl (nmk [3, 5] rfl (nm_thn (ws_seqN ArcAt_n5 ArcAt_n6 rfl rfl rfl (ws_seqN ArcAt_n7 ArcAt_n8 rfl rfl rfl ?_))))
 refine ws_region rfl (wlo 0 1 rfl rfl rfl (wo_run rfl rfl (run_fieldAddr rfl rfl Try.underlying53 rfl (ce3) (nf3)) (wlo 1 2 rfl rfl rfl (wo_run rfl rfl (run_load1 rfl rfl Try.underlying3 rfl (S4.boxc (i := 1) rfl rfl)) (wl_end rfl (nmk [5, 13] rfl ?_))))))
 refine nm_thn (ws_blockN ArcAt_n9 0 rfl rfl rfl (ws_seqN ArcAt_n10 ArcAt_n11 rfl rfl rfl (ws_region rfl (wlo 0 1 rfl rfl rfl (wo_run rfl rfl (run_eql rfl rfl rfl) ?_)))))
 refine wla 1 2 rfl rfl rfl rfl rfl rfl rfl (wl_end rfl (nmk [5, 13, 14] rfl (nm_thn ?_)))
 refine ws_condN ArcAt_n12 ArcAt_n13 rfl rfl rfl rfl (fun hb14 => ?_) (fun hb14 => ?_)
 ·replace hb14 := of_decide_eq_true hb14
  refine ws_seqN ArcAt_n14 ArcAt_n15 rfl rfl rfl (ws_region rfl (wlo 0 1 rfl rfl rfl (wo_run rfl rfl (run_fieldAddr rfl rfl Try.underlying55 rfl (ce3) (nf3)) (wlo 1 2 rfl rfl rfl (wo_run rfl rfl (run_load1 rfl rfl Try.underlying3 rfl (S4.boxc (i := 0) rfl rfl)) (wla 2 3 rfl rfl rfl rfl rfl rfl rfl ?_))))))
  refine wl_end rfl (nmk [4] rfl (nm_thn (ws_ret hC [_] rfl rfl ⟨rfl, trivial⟩ ?_)))
  exact ⟨_, rfl, (S4.pick [] [] (by decide) trivial), (by first | (obtain rfl : k = 0 := (by omega); rfl) | (obtain rfl : k = 1 := (by omega); rfl) | (obtain rfl : k = 2 := (by omega); rfl) | (obtain rfl : k = 3 := (by omega); rfl))⟩
 ·replace hb14 := of_decide_eq_false hb14
  refine ws_seqN ArcAt_n16 ArcAt_n17 rfl rfl rfl (ws_region rfl (wlo 0 1 rfl rfl rfl (wo_run rfl rfl (run_eql rfl rfl rfl) (wla 1 2 rfl rfl rfl rfl rfl rfl rfl (wl_end rfl ?_)))))
  refine nmk [5, 13, 18] rfl (nm_thn ?_)
  refine ws_condN ArcAt_n18 ArcAt_n19 rfl rfl rfl rfl (fun hb18 => ?_) (fun hb18 => ?_)
  ·replace hb18 := of_decide_eq_true hb18
   refine ws_seqN ArcAt_n20 ArcAt_n21 rfl rfl rfl (ws_region rfl (wlo 0 1 rfl rfl rfl (wo_run rfl rfl (run_fieldAddr rfl rfl Try.underlying55 rfl (ce3) (nf3)) (wlo 1 2 rfl rfl rfl (wo_run rfl rfl (run_load1 rfl rfl Try.underlying3 rfl (S4.boxc (i := 0) rfl rfl)) (wla 2 3 rfl rfl rfl rfl rfl rfl rfl ?_))))))
   refine wl_end rfl (nmk [4] rfl (nm_thn (ws_ret hC [_] rfl rfl ⟨rfl, trivial⟩ ?_)))
   exact ⟨_, rfl, (S4.pick [] [] (by decide) trivial), (by first | (obtain rfl : k = 0 := (by omega); rfl) | (obtain rfl : k = 1 := (by omega); rfl) | (obtain rfl : k = 2 := (by omega); rfl) | (obtain rfl : k = 3 := (by omega); rfl))⟩
  ·replace hb18 := of_decide_eq_false hb18
   refine ws_seqN ArcAt_n22 ArcAt_n23 rfl rfl rfl (ws_region rfl (wlo 0 1 rfl rfl rfl (wo_run rfl rfl (run_eql rfl rfl rfl) (wla 1 2 rfl rfl rfl rfl rfl rfl rfl (wl_end rfl ?_)))))
   refine nmk [5, 22] rfl (nm_thn ?_)
   refine ws_condN ArcAt_n24 ArcAt_n25 rfl rfl rfl rfl (fun hb22 => ?_) (fun hb22 => ?_)
   ·replace hb22 := of_decide_eq_true hb22
    refine ws_seqN ArcAt_n26 ArcAt_n27 rfl rfl rfl (ws_region rfl (wlo 0 1 rfl rfl rfl (wo_run rfl rfl (run_fieldAddr rfl rfl Try.underlying55 rfl (ce3) (nf3)) (wlo 1 2 rfl rfl rfl (wo_run rfl rfl (run_load1 rfl rfl Try.underlying3 rfl (S4.boxc (i := 0) rfl rfl)) (wla 2 3 rfl rfl rfl rfl rfl rfl rfl ?_))))))
    refine wl_end rfl (nmk [4] rfl (nm_thn (ws_ret hC [_] rfl rfl ⟨rfl, trivial⟩ ?_)))
    exact ⟨_, rfl, (S4.pick [] [] (by decide) trivial), (by first | (obtain rfl : k = 0 := (by omega); rfl) | (obtain rfl : k = 1 := (by omega); rfl) | (obtain rfl : k = 2 := (by omega); rfl) | (obtain rfl : k = 3 := (by omega); rfl))⟩
   ·replace hb22 := of_decide_eq_false hb22
    refine ws_skip rfl (nm_blk (nmk [5] rfl (nm_thn (ws_seqN ArcAt_n28 ArcAt_n29 rfl rfl rfl ?_))))
    refine ws_region rfl (wlo 0 1 rfl rfl rfl (wo_run rfl rfl (run_fieldAddr rfl rfl Try.underlying55 rfl (ce3) (nf3)) (wlo 1 2 rfl rfl rfl (wo_run rfl rfl (run_load1 rfl rfl Try.underlying3 rfl (S4.boxc (i := 0) rfl rfl)) (wla 2 3 rfl rfl rfl rfl rfl rfl rfl (wl_end rfl ?_))))))
    refine nmk [4] rfl (nm_thn (ws_ret hC [_] rfl rfl ⟨rfl, trivial⟩ ?_))
    exact ⟨_, rfl, (S4.pick [] [] (by decide) trivial), (by first | (obtain rfl : k = 0 := (by omega); rfl) | (obtain rfl : k = 1 := (by omega); rfl) | (obtain rfl : k = 2 := (by omega); rfl) | (obtain rfl : k = 3 := (by omega); rfl))⟩
noncomputable def Entry_n0 : Code := Try.f29.body.getD .skip
noncomputable def Entry_n1 : Code := cL Entry_n0
noncomputable def Entry_n2 : Code := cR Entry_n0
noncomputable def Entry_n3 : Code := cL Entry_n2
noncomputable def Entry_n4 : Code := cR Entry_n2
set_option maxRecDepth 10000 in
theorem Entry_q {w : World} {M : Hp} {X : Fr} (d : Dg) {dcrsA : Option Addr} {dcrsc : Nat} (c k : Nat) (hdcrs : RdA cdCr (M.un X.h) dcrsA dcrsc d.crs) (hc : c < d.crs.length) (hk : k < 4) (S : SH w M X []) : Cq Try.prog 29 [.agg [.slice dcrsA d.crs.length dcrsc, .int .i64 d.loops].toArray, .agg [.int .i64 (c : Int), .int .i64 (k : Int)].toArray] w M X (fun u => u = .bool (entryB d c k)) := by
 unfold Cq
 have rmhdcrs : d.crs.length * 40 ≤ 140737488355328 := hdcrs.room
 refine calls_in (b := Entry_n0) Try.func29 rfl Try.ntmps29 rfl (fun C hC => (ws_sub [(0, _), (1, _)] ⟨rfl, rfl, trivial⟩ (ws_seqN Entry_n1 Entry_n2 rfl rfl rfl (ws_region rfl (wlo 0 1 rfl rfl rfl (wo_box (l := [_, _]) rfl rfl rfl rfl rfl S ?_))))))
 intro gb1 w1 S1; clear S
 refine wlo 1 2 rfl rfl rfl (wo_box (l := [_, _]) rfl rfl rfl rfl rfl S1 ?_)
 intro gb2 w2 S2; clear S1
 refine wla 2 3 rfl rfl rfl rfl rfl rfl rfl (wl_end rfl (nmk [2, 3] rfl (nm_thn (ws_seqN Entry_n3 Entry_n4 rfl rfl rfl ?_))))
 refine ws_region rfl (wlo 0 1 rfl rfl rfl (wo_run rfl rfl (run_fieldAddr rfl rfl Try.underlying53 rfl (ce3) (nf3)) (wlo 1 2 rfl rfl rfl (wo_run rfl rfl (run_load1 rfl rfl Try.underlying3 rfl (S2.boxc (i := 0) rfl rfl)) (wlo 2 3 rfl rfl rfl (wo_run rfl rfl (run_eql rfl rfl rfl) (wlm 3 4 rfl rfl rfl rfl rfl rfl rfl ?_)))))))
 refine wl_split (t := 8) rfl (fun hg8 => ?_) (fun hg8 => ?_)
 ·replace hg8 := of_decide_eq_true hg8
  refine wln 4 5 rfl rfl rfl rfl rfl rfl rfl rfl rfl (wln 5 6 rfl rfl rfl rfl rfl rfl rfl rfl rfl (wln 6 7 rfl rfl rfl rfl rfl rfl rfl rfl rfl (wln 7 8 rfl rfl rfl rfl rfl rfl rfl rfl rfl (wln 8 9 rfl rfl rfl rfl rfl rfl rfl rfl rfl ?_))))
  refine wln 9 10 rfl rfl rfl rfl rfl rfl rfl rfl rfl (wln 10 11 rfl rfl rfl rfl rfl rfl rfl rfl rfl (wln 11 12 rfl rfl rfl rfl rfl rfl rfl rfl rfl (wln 12 13 rfl rfl rfl rfl rfl rfl rfl rfl rfl (wln 13 14 rfl rfl rfl rfl rfl rfl rfl rfl rfl ?_))))
  refine wln 14 15 rfl rfl rfl rfl rfl rfl rfl rfl rfl (wln 15 16 rfl rfl rfl rfl rfl rfl rfl rfl rfl (wln 16 17 rfl rfl rfl rfl rfl rfl rfl rfl rfl (wlo 17 18 rfl rfl rfl (wo_run rfl rfl (run_pickT rfl rfl rfl) (wlm 18 19 rfl rfl rfl rfl rfl rfl rfl ?_)))))
  refine wln 19 20 rfl rfl rfl rfl rfl rfl rfl rfl rfl (wln 20 21 rfl rfl rfl rfl rfl rfl rfl rfl rfl (wln 21 22 rfl rfl rfl rfl rfl rfl rfl rfl rfl (wln 22 23 rfl rfl rfl rfl rfl rfl rfl rfl rfl (wln 23 24 rfl rfl rfl rfl rfl rfl rfl rfl rfl ?_))))
  refine wln 24 25 rfl rfl rfl rfl rfl rfl rfl rfl rfl (wln 25 26 rfl rfl rfl rfl rfl rfl rfl rfl rfl (wln 26 27 rfl rfl rfl rfl rfl rfl rfl rfl rfl (wln 27 28 rfl rfl rfl rfl rfl rfl rfl rfl rfl (wln 28 29 rfl rfl rfl rfl rfl rfl rfl rfl rfl ?_))))
  refine wln 29 30 rfl rfl rfl rfl rfl rfl rfl rfl rfl (wln 30 31 rfl rfl rfl rfl rfl rfl rfl rfl rfl (wlo 31 32 rfl rfl rfl (wo_run rfl rfl (run_pickT rfl rfl rfl) (wla 32 33 rfl rfl rfl rfl rfl rfl rfl (wl_end rfl ?_)))))
  refine nmk [4] rfl (nm_thn (ws_ret hC [_] rfl rfl ⟨rfl, trivial⟩ ?_))
  exact ⟨_, rfl, (S2.pick [] [] (by decide) trivial), (by have e0 : k = 0 ∨ k = 1 ∨ k = 2 ∨ k = 3 := (by omega); rcases e0 with rfl | rfl | rfl | rfl <;> first | (exfalso; omega) | (show Value.bool _ = _; unfold entryB crIn; simp [*]))⟩
 ·replace hg8 := of_decide_eq_false hg8
  refine wlg 4 5 rfl rfl rfl rfl rfl rfl rfl rfl (wo_run rfl rfl (run_fieldAddr rfl rfl Try.underlying53 rfl (ce3) (nf3)) (wlg 5 6 rfl rfl rfl rfl rfl rfl rfl rfl (wo_run rfl rfl (run_load1 rfl rfl Try.underlying3 rfl (S2.boxc (i := 0) rfl rfl)) (wlg 6 7 rfl rfl rfl rfl rfl rfl rfl rfl (wo_run rfl rfl (run_eql rfl rfl rfl) (wlg 7 8 rfl rfl rfl rfl rfl rfl rfl rfl (wo_run rfl rfl (run_move rfl rfl) ?_)))))))
  refine wl_split (t := 12) rfl (fun hg12 => ?_) (fun hg12 => ?_)
  ·replace hg12 := of_decide_eq_true hg12
   refine wlg 8 9 rfl rfl rfl rfl rfl rfl rfl rfl (wo_run rfl rfl (run_fieldAddr rfl rfl Try.underlying24 rfl (ce22) (nf22)) (wlg 9 10 rfl rfl rfl rfl rfl rfl rfl rfl (wo_run rfl rfl (run_load1 rfl rfl Try.underlying22 rfl (S2.boxc (i := 1) rfl rfl)) (wlg 10 11 rfl rfl rfl rfl rfl rfl rfl rfl (wo_run rfl rfl (run_fieldAddr rfl rfl Try.underlying53 rfl (ce3) (nf3)) (wlg 11 12 rfl rfl rfl rfl rfl rfl rfl rfl (wo_run rfl rfl (run_load1 rfl rfl Try.underlying3 rfl (S2.boxc (i := 0) rfl rfl)) (wlg 12 13 rfl rfl rfl rfl rfl rfl rfl rfl (wo_run rfl rfl (run_indexM (C := cdCr) c rfl rfl rfl sl22 (by first | rfl | omega) hdcrs (by first | omega | (simp only [lens]; omega))) ?_)))))))))
   refine wlg 13 14 rfl rfl rfl rfl rfl rfl rfl rfl (wo_run rfl rfl (run_fieldAddr rfl rfl Try.underlying55 rfl (ce4) (nf4)) (wlg 14 15 rfl rfl rfl rfl rfl rfl rfl rfl (wo_run rfl rfl (run_load1 rfl rfl Try.underlying4 rfl (hdcrs.cell S2.um (i := c) (by first | omega | (simp only [lens]; omega)) 4 rfl rfl)) ?_)))
   refine wlg 15 16 rfl rfl rfl rfl rfl rfl rfl rfl (wo_run rfl rfl (run_not rfl rfl) (wlg 16 17 rfl rfl rfl rfl rfl rfl rfl rfl (wo_run rfl rfl (run_pickT rfl rfl rfl) (wlo 17 18 rfl rfl rfl (wo_run rfl rfl (run_pickF rfl rfl rfl) (wlm 18 19 rfl rfl rfl rfl rfl rfl rfl ?_))))))
   refine wl_split (t := 23) rfl (fun hg23 => ?_) (fun hg23 => ?_)
   ·simp only [Bool.and_eq_true, Bool.or_eq_true, Bool.and_eq_false_iff, Bool.or_eq_false_iff, decide_eq_true_eq, decide_eq_false_iff_not, Bool.not_eq_true', Bool.not_eq_false'] at hg23
    refine wln 19 20 rfl rfl rfl rfl rfl rfl rfl rfl rfl (wln 20 21 rfl rfl rfl rfl rfl rfl rfl rfl rfl (wln 21 22 rfl rfl rfl rfl rfl rfl rfl rfl rfl (wln 22 23 rfl rfl rfl rfl rfl rfl rfl rfl rfl (wln 23 24 rfl rfl rfl rfl rfl rfl rfl rfl rfl ?_))))
    refine wln 24 25 rfl rfl rfl rfl rfl rfl rfl rfl rfl (wln 25 26 rfl rfl rfl rfl rfl rfl rfl rfl rfl (wln 26 27 rfl rfl rfl rfl rfl rfl rfl rfl rfl (wln 27 28 rfl rfl rfl rfl rfl rfl rfl rfl rfl (wln 28 29 rfl rfl rfl rfl rfl rfl rfl rfl rfl ?_))))
    refine wln 29 30 rfl rfl rfl rfl rfl rfl rfl rfl rfl (wln 30 31 rfl rfl rfl rfl rfl rfl rfl rfl rfl (wlo 31 32 rfl rfl rfl (wo_run rfl rfl (run_pickT rfl rfl rfl) (wla 32 33 rfl rfl rfl rfl rfl rfl rfl (wl_end rfl ?_)))))
    refine nmk [4] rfl (nm_thn (ws_ret hC [_] rfl rfl ⟨rfl, trivial⟩ ?_))
    exact ⟨_, rfl, (S2.pick [] [] (by decide) trivial), (by have e0 : k = 0 ∨ k = 1 ∨ k = 2 ∨ k = 3 := (by omega); rcases e0 with rfl | rfl | rfl | rfl <;> first | (exfalso; omega) | (show Value.bool _ = _; unfold entryB crIn; simp [*]))⟩
   ·simp only [Bool.and_eq_true, Bool.or_eq_true, Bool.and_eq_false_iff, Bool.or_eq_false_iff, decide_eq_true_eq, decide_eq_false_iff_not, Bool.not_eq_true', Bool.not_eq_false'] at hg23
    refine wlg 19 20 rfl rfl rfl rfl rfl rfl rfl rfl (wo_run rfl rfl (run_fieldAddr rfl rfl Try.underlying53 rfl (ce3) (nf3)) (wlg 20 21 rfl rfl rfl rfl rfl rfl rfl rfl (wo_run rfl rfl (run_load1 rfl rfl Try.underlying3 rfl (S2.boxc (i := 0) rfl rfl)) (wlg 21 22 rfl rfl rfl rfl rfl rfl rfl rfl (wo_run rfl rfl (run_eql rfl rfl rfl) (wlg 22 23 rfl rfl rfl rfl rfl rfl rfl rfl (wo_run rfl rfl (run_move rfl rfl) ?_)))))))
    refine wl_split (t := 27) rfl (fun hg27 => ?_) (fun hg27 => ?_)
    ·replace hg27 := of_decide_eq_true hg27
     refine wlg 23 24 rfl rfl rfl rfl rfl rfl rfl rfl (wo_run rfl rfl (run_fieldAddr rfl rfl Try.underlying24 rfl (ce22) (nf22)) (wlg 24 25 rfl rfl rfl rfl rfl rfl rfl rfl (wo_run rfl rfl (run_load1 rfl rfl Try.underlying22 rfl (S2.boxc (i := 1) rfl rfl)) (wlg 25 26 rfl rfl rfl rfl rfl rfl rfl rfl (wo_run rfl rfl (run_fieldAddr rfl rfl Try.underlying53 rfl (ce3) (nf3)) (wlg 26 27 rfl rfl rfl rfl rfl rfl rfl rfl (wo_run rfl rfl (run_load1 rfl rfl Try.underlying3 rfl (S2.boxc (i := 0) rfl rfl)) (wlg 27 28 rfl rfl rfl rfl rfl rfl rfl rfl (wo_run rfl rfl (run_indexM (C := cdCr) c rfl rfl rfl sl22 (by first | rfl | omega) hdcrs (by first | omega | (simp only [lens]; omega))) ?_)))))))))
     refine wlg 28 29 rfl rfl rfl rfl rfl rfl rfl rfl (wo_run rfl rfl (run_fieldAddr rfl rfl Try.underlying55 rfl (ce4) (nf4)) (wlg 29 30 rfl rfl rfl rfl rfl rfl rfl rfl (wo_run rfl rfl (run_load1 rfl rfl Try.underlying4 rfl (hdcrs.cell S2.um (i := c) (by first | omega | (simp only [lens]; omega)) 4 rfl rfl)) ?_)))
     refine wlg 30 31 rfl rfl rfl rfl rfl rfl rfl rfl (wo_run rfl rfl (run_pickT rfl rfl rfl) (wlo 31 32 rfl rfl rfl (wo_run rfl rfl (run_pickF rfl rfl rfl) (wla 32 33 rfl rfl rfl rfl rfl rfl rfl (wl_end rfl (nmk [4] rfl ?_))))))
     refine nm_thn (ws_ret hC [_] rfl rfl ⟨rfl, trivial⟩ ?_)
     exact ⟨_, rfl, (S2.pick [] [] (by decide) trivial), (by have e0 : k = 0 ∨ k = 1 ∨ k = 2 ∨ k = 3 := (by omega); rcases e0 with rfl | rfl | rfl | rfl <;> first | (exfalso; omega) | (show Value.bool _ = _; unfold entryB crIn; simp [*]))⟩
    ·replace hg27 := of_decide_eq_false hg27
     refine wln 23 24 rfl rfl rfl rfl rfl rfl rfl rfl rfl (wln 24 25 rfl rfl rfl rfl rfl rfl rfl rfl rfl (wln 25 26 rfl rfl rfl rfl rfl rfl rfl rfl rfl (wln 26 27 rfl rfl rfl rfl rfl rfl rfl rfl rfl (wln 27 28 rfl rfl rfl rfl rfl rfl rfl rfl rfl ?_))))
     refine wln 28 29 rfl rfl rfl rfl rfl rfl rfl rfl rfl (wln 29 30 rfl rfl rfl rfl rfl rfl rfl rfl rfl (wlg 30 31 rfl rfl rfl rfl rfl rfl rfl rfl (wo_run rfl rfl (run_pickF rfl rfl rfl) (wlo 31 32 rfl rfl rfl (wo_run rfl rfl (run_pickF rfl rfl rfl) (wla 32 33 rfl rfl rfl rfl rfl rfl rfl ?_))))))
     refine wl_end rfl (nmk [4] rfl (nm_thn (ws_ret hC [_] rfl rfl ⟨rfl, trivial⟩ ?_)))
     exact ⟨_, rfl, (S2.pick [] [] (by decide) trivial), (by have e0 : k = 0 ∨ k = 1 ∨ k = 2 ∨ k = 3 := (by omega); rcases e0 with rfl | rfl | rfl | rfl <;> first | (exfalso; omega) | (show Value.bool _ = _; unfold entryB crIn; simp [*]))⟩
  ·replace hg12 := of_decide_eq_false hg12
   refine wln 8 9 rfl rfl rfl rfl rfl rfl rfl rfl rfl (wln 9 10 rfl rfl rfl rfl rfl rfl rfl rfl rfl (wln 10 11 rfl rfl rfl rfl rfl rfl rfl rfl rfl (wln 11 12 rfl rfl rfl rfl rfl rfl rfl rfl rfl (wln 12 13 rfl rfl rfl rfl rfl rfl rfl rfl rfl ?_))))
   refine wln 13 14 rfl rfl rfl rfl rfl rfl rfl rfl rfl (wln 14 15 rfl rfl rfl rfl rfl rfl rfl rfl rfl (wln 15 16 rfl rfl rfl rfl rfl rfl rfl rfl rfl (wlg 16 17 rfl rfl rfl rfl rfl rfl rfl rfl (wo_run rfl rfl (run_pickF rfl rfl rfl) (wlo 17 18 rfl rfl rfl (wo_run rfl rfl (run_pickF rfl rfl rfl) ?_))))))
   refine wlm 18 19 rfl rfl rfl rfl rfl rfl rfl (wlg 19 20 rfl rfl rfl rfl rfl rfl rfl rfl (wo_run rfl rfl (run_fieldAddr rfl rfl Try.underlying53 rfl (ce3) (nf3)) (wlg 20 21 rfl rfl rfl rfl rfl rfl rfl rfl (wo_run rfl rfl (run_load1 rfl rfl Try.underlying3 rfl (S2.boxc (i := 0) rfl rfl)) (wlg 21 22 rfl rfl rfl rfl rfl rfl rfl rfl (wo_run rfl rfl (run_eql rfl rfl rfl) (wlg 22 23 rfl rfl rfl rfl rfl rfl rfl rfl (wo_run rfl rfl (run_move rfl rfl) ?_))))))))
   refine wl_split (t := 27) rfl (fun hg27 => ?_) (fun hg27 => ?_)
   ·replace hg27 := of_decide_eq_true hg27
    refine wlg 23 24 rfl rfl rfl rfl rfl rfl rfl rfl (wo_run rfl rfl (run_fieldAddr rfl rfl Try.underlying24 rfl (ce22) (nf22)) (wlg 24 25 rfl rfl rfl rfl rfl rfl rfl rfl (wo_run rfl rfl (run_load1 rfl rfl Try.underlying22 rfl (S2.boxc (i := 1) rfl rfl)) (wlg 25 26 rfl rfl rfl rfl rfl rfl rfl rfl (wo_run rfl rfl (run_fieldAddr rfl rfl Try.underlying53 rfl (ce3) (nf3)) (wlg 26 27 rfl rfl rfl rfl rfl rfl rfl rfl (wo_run rfl rfl (run_load1 rfl rfl Try.underlying3 rfl (S2.boxc (i := 0) rfl rfl)) (wlg 27 28 rfl rfl rfl rfl rfl rfl rfl rfl (wo_run rfl rfl (run_indexM (C := cdCr) c rfl rfl rfl sl22 (by first | rfl | omega) hdcrs (by first | omega | (simp only [lens]; omega))) ?_)))))))))
    refine wlg 28 29 rfl rfl rfl rfl rfl rfl rfl rfl (wo_run rfl rfl (run_fieldAddr rfl rfl Try.underlying55 rfl (ce4) (nf4)) (wlg 29 30 rfl rfl rfl rfl rfl rfl rfl rfl (wo_run rfl rfl (run_load1 rfl rfl Try.underlying4 rfl (hdcrs.cell S2.um (i := c) (by first | omega | (simp only [lens]; omega)) 4 rfl rfl)) ?_)))
    refine wlg 30 31 rfl rfl rfl rfl rfl rfl rfl rfl (wo_run rfl rfl (run_pickT rfl rfl rfl) (wlo 31 32 rfl rfl rfl (wo_run rfl rfl (run_pickF rfl rfl rfl) (wla 32 33 rfl rfl rfl rfl rfl rfl rfl (wl_end rfl (nmk [4] rfl ?_))))))
    refine nm_thn (ws_ret hC [_] rfl rfl ⟨rfl, trivial⟩ ?_)
    exact ⟨_, rfl, (S2.pick [] [] (by decide) trivial), (by have e0 : k = 0 ∨ k = 1 ∨ k = 2 ∨ k = 3 := (by omega); rcases e0 with rfl | rfl | rfl | rfl <;> first | (exfalso; omega) | (show Value.bool _ = _; unfold entryB crIn; simp [*]))⟩
   ·replace hg27 := of_decide_eq_false hg27
    refine wln 23 24 rfl rfl rfl rfl rfl rfl rfl rfl rfl (wln 24 25 rfl rfl rfl rfl rfl rfl rfl rfl rfl (wln 25 26 rfl rfl rfl rfl rfl rfl rfl rfl rfl (wln 26 27 rfl rfl rfl rfl rfl rfl rfl rfl rfl (wln 27 28 rfl rfl rfl rfl rfl rfl rfl rfl rfl ?_))))
    refine wln 28 29 rfl rfl rfl rfl rfl rfl rfl rfl rfl (wln 29 30 rfl rfl rfl rfl rfl rfl rfl rfl rfl (wlg 30 31 rfl rfl rfl rfl rfl rfl rfl rfl (wo_run rfl rfl (run_pickF rfl rfl rfl) (wlo 31 32 rfl rfl rfl (wo_run rfl rfl (run_pickF rfl rfl rfl) (wla 32 33 rfl rfl rfl rfl rfl rfl rfl ?_))))))
    refine wl_end rfl (nmk [4] rfl (nm_thn (ws_ret hC [_] rfl rfl ⟨rfl, trivial⟩ ?_)))
    exact ⟨_, rfl, (S2.pick [] [] (by decide) trivial), (by have e0 : k = 0 ∨ k = 1 ∨ k = 2 ∨ k = 3 := (by omega); rcases e0 with rfl | rfl | rfl | rfl <;> first | (exfalso; omega) | (show Value.bool _ = _; unfold entryB crIn; simp [*]))⟩
noncomputable def EndOf_n0 : Code := Try.f39.body.getD .skip
noncomputable def EndOf_n1 : Code := cL EndOf_n0
noncomputable def EndOf_n2 : Code := cR EndOf_n0
noncomputable def EndOf_n3 : Code := cL EndOf_n2
noncomputable def EndOf_n4 : Code := cR EndOf_n2
noncomputable def EndOf_n5 : Code := cL EndOf_n3
noncomputable def EndOf_n6 : Code := cR EndOf_n3
noncomputable def EndOf_n7 : Code := cL EndOf_n6
noncomputable def EndOf_n8 : Code := cL EndOf_n7
noncomputable def EndOf_n9 : Code := cL EndOf_n8
noncomputable def EndOf_n10 : Code := cR EndOf_n8
noncomputable def EndOf_n11 : Code := cL EndOf_n9
noncomputable def EndOf_n12 : Code := cR EndOf_n9
noncomputable def EndOf_n13 : Code := cL EndOf_n12
noncomputable def EndOf_n14 : Code := cR EndOf_n12
noncomputable def EndOf_n15 : Code := cL EndOf_n10
noncomputable def EndOf_n16 : Code := cR EndOf_n10
noncomputable def EndOf_n17 : Code := cL EndOf_n15
noncomputable def EndOf_n18 : Code := cL EndOf_n17
noncomputable def EndOf_n19 : Code := cR EndOf_n17
noncomputable def EndOf_n20 : Code := cL EndOf_n19
noncomputable def EndOf_n21 : Code := cL EndOf_n20
noncomputable def EndOf_n22 : Code := cL EndOf_n21
noncomputable def EndOf_n23 : Code := cR EndOf_n21
noncomputable def EndOf_n24 : Code := cL EndOf_n22
noncomputable def EndOf_n25 : Code := cR EndOf_n22
noncomputable def EndOf_n26 : Code := cL EndOf_n25
noncomputable def EndOf_n27 : Code := cR EndOf_n25
noncomputable def EndOf_n28 : Code := cL EndOf_n23
noncomputable def EndOf_n29 : Code := cR EndOf_n23
noncomputable def EndOf_n30 : Code := cL EndOf_n28
noncomputable def EndOf_n31 : Code := cL EndOf_n30
noncomputable def EndOf_n32 : Code := cR EndOf_n30
noncomputable def EndOf_n33 : Code := cL EndOf_n32
noncomputable def EndOf_n34 : Code := cR EndOf_n32
noncomputable def EndOf_n35 : Code := cL EndOf_n34
noncomputable def EndOf_n36 : Code := cR EndOf_n34
noncomputable def EndOf_n37 : Code := cL EndOf_n35
noncomputable def EndOf_n38 : Code := cR EndOf_n35
noncomputable def EndOf_n39 : Code := cL EndOf_n4
noncomputable def EndOf_n40 : Code := cR EndOf_n4
set_option maxHeartbeats 1000000 in
set_option maxRecDepth 10000 in
theorem EndOf_q {w : World} {M : Hp} {X : Fr} (d : Dg) {dcrsA : Option Addr} {dcrsc : Nat} (a : Int) (back : Bool) (hdcrs : RdA cdCr (M.un X.h) dcrsA dcrsc d.crs) (S : SH w M X []) : Cq Try.prog 39 [.agg [.slice dcrsA d.crs.length dcrsc, .int .i64 d.loops].toArray, .int .i64 a, .bool back] w M X (fun u => u = .agg (plF (endOf d a back)).toArray) := by
 unfold Cq
 have rmhdcrs : d.crs.length * 40 ≤ 140737488355328 := hdcrs.room
 refine calls_in (b := EndOf_n0) Try.func39 rfl Try.ntmps39 rfl (fun C hC => (ws_sub [(0, _), (1, _), (2, _)] ⟨rfl, rfl, rfl, trivial⟩ (ws_seqN EndOf_n1 EndOf_n2 rfl rfl rfl (ws_region rfl (wlo 0 1 rfl rfl rfl (wo_box (l := [_, _]) rfl rfl rfl rfl rfl S ?_))))))
 intro gb1 w1 S1; clear S
 refine wlo 1 2 rfl rfl rfl (wo_alloc (l := [_, _]) rfl rfl rfl zr53 rfl S1 ?_)
 intro gb2 w2 S2; clear S1
 refine wl_end rfl (nmk [1, 2, 3, 6] rfl (nm_thn (ws_seqN EndOf_n3 EndOf_n4 rfl rfl rfl (ws_seqN EndOf_n5 EndOf_n6 rfl rfl rfl ?_))))
 refine ws_region rfl (wla 0 1 rfl rfl rfl rfl rfl rfl rfl (wl_end rfl (nm_thn (ws_blockN EndOf_n7 0 rfl rfl rfl ?_))))
 refine ws_loopE (fun mx_ ax_ wx_ => ∃ (i : Nat), mx_ = d.crs.length - i ∧ Env 38 [(1, .int .i64 a), (2, .bool back), (3, .pointer (some ⟨gb1, 0, none⟩)), (6, .pointer (some ⟨gb2, 0, none⟩)), (7, .int .i64 (i : Int))] ax_ ∧ SH wx_ M X [Rs.box gb2 53 [.int .i64 0, .int .i64 0], Rs.box gb1 24 [.slice dcrsA d.crs.length dcrsc, .int .i64 d.loops]] ∧ i ≤ d.crs.length ∧ (∀ j, j < 4 * i → endP d a back j = false)) rfl ?_ ?_
 ·intro ax_ hax_
  refine ⟨_, ⟨0, rfl, hax_.sub ⟨rfl, rfl, rfl, rfl, rfl, trivial⟩, S2.pick [0, 1] [_, _] (by decide) ⟨rfl, rfl, trivial⟩, ?hq1f0, ?hq1f1⟩⟩
  case hq1f0 => omega
  case hq1f1 => (intro j hj; omega)
 ·rintro m1 a1 w3 ⟨i, rfl, he1, S3, hi, hno⟩
  clear S2
  refine ws_in he1 (c := EndOf_n8) rfl ?_
  clear he1 a1
  refine ws_seqN EndOf_n9 EndOf_n10 rfl rfl rfl (ws_seqN EndOf_n11 EndOf_n12 rfl rfl rfl (ws_region rfl (wlm 0 1 rfl rfl rfl rfl rfl rfl rfl (wlo 1 2 rfl rfl rfl (wo_run rfl rfl (run_fieldAddr rfl rfl Try.underlying24 rfl (ce22) (nf22)) ?_)))))
  refine wlo 2 3 rfl rfl rfl (wo_run rfl rfl (run_load1 rfl rfl Try.underlying22 rfl (S3.boxc (i := 1) rfl rfl)) (wlo 3 4 rfl rfl rfl (wo_run rfl rfl (run_len rfl rfl rfl rfl rfl rfl Try.underlying22) (wlo 4 5 rfl rfl rfl (wo_run rfl rfl (run_lss rfl rfl rfl) (wl_end rfl (nmk [1, 2, 3, 6, 7, 14] rfl ?_)))))))
  refine nm_thn ?_
  refine ws_condN EndOf_n13 EndOf_n14 rfl rfl rfl rfl (fun hb14 => ?_) (fun hb14 => ?_)
  ·replace hb14 := of_decide_eq_true hb14
   refine ws_skip rfl (nmk [1, 2, 3, 6, 7] rfl (nm_thn (ws_seqN EndOf_n15 EndOf_n16 rfl rfl rfl (ws_blockN EndOf_n17 1 rfl rfl rfl ?_))))
   refine ws_seqN EndOf_n18 EndOf_n19 rfl rfl rfl (ws_region rfl (wla 0 1 rfl rfl rfl rfl rfl rfl rfl (wl_end rfl (nm_thn ?_))))
   refine ws_blockN EndOf_n20 2 rfl rfl rfl ?_
   refine ws_loopE (fun mx_ ax_ wx_ => ∃ (k : Nat), mx_ = 4 - k ∧ Env 38 [(1, .int .i64 a), (2, .bool back), (3, .pointer (some ⟨gb1, 0, none⟩)), (6, .pointer (some ⟨gb2, 0, none⟩)), (7, .int .i64 (i : Int)), (8, .int .i64 (k : Int))] ax_ ∧ SH wx_ M X [Rs.box gb2 53 [.int .i64 0, .int .i64 0], Rs.box gb1 24 [.slice dcrsA d.crs.length dcrsc, .int .i64 d.loops]] ∧ k ≤ 4 ∧ (∀ j, j < 4 * i + k → endP d a back j = false)) rfl ?_ ?_
   ·intro ax_ hax_
    refine ⟨_, ⟨0, rfl, hax_.sub ⟨rfl, rfl, rfl, rfl, rfl, rfl, trivial⟩, S3.pick [0, 1] [_, _] (by decide) ⟨rfl, rfl, trivial⟩, ?hq2f0, ?hq2f1⟩⟩
    case hq2f0 => omega
    case hq2f1 => (intro j hj; exact hno j (by omega))
   ·rintro m2 a2 w4 ⟨k, rfl, he2, S4, hk, hno2⟩
    clear S3
    refine ws_in he2 (c := EndOf_n21) rfl ?_
    clear he2 a2
    refine ws_seqN EndOf_n22 EndOf_n23 rfl rfl rfl (ws_seqN EndOf_n24 EndOf_n25 rfl rfl rfl (ws_region rfl (wlm 0 1 rfl rfl rfl rfl rfl rfl rfl (wlo 1 2 rfl rfl rfl (wo_run rfl rfl (run_lss rfl rfl rfl) ?_)))))
    refine wl_end rfl (nmk [1, 2, 3, 6, 7, 8, 18] rfl (nm_thn ?_))
    refine ws_condN EndOf_n26 EndOf_n27 rfl rfl rfl rfl (fun hb18 => ?_) (fun hb18 => ?_)
    ·replace hb18 := of_decide_eq_true hb18
     refine ws_skip rfl (nmk [1, 2, 3, 6, 7, 8] rfl (nm_thn (ws_seqN EndOf_n28 EndOf_n29 rfl rfl rfl (ws_blockN EndOf_n30 3 rfl rfl rfl ?_))))
     refine ws_seqN EndOf_n31 EndOf_n32 rfl rfl rfl (ws_region rfl (wlm 0 1 rfl rfl rfl rfl rfl rfl rfl (wlm 1 2 rfl rfl rfl rfl rfl rfl rfl (wlo 2 3 rfl rfl rfl (wo_run rfl rfl (run_build (l := [_, _]) rfl rfl st53 rfl rfl) ?_)))))
     refine wlo 3 4 rfl rfl rfl (wo_alloc (l := [_, _]) rfl rfl rfl zr53 rfl S4 ?_)
     intro gb3 w5 S5; clear S4
     refine wlo 4 5 rfl rfl rfl (wo_storeB (i := 0) (us := [_, _]) (l' := [_, _]) (H' := [_, _, _]) rfl rfl S5 rfl rfl rfl rfl sz53 rfl rfl rfl rfl ?_)
     intro w6 S6; clear S5
     refine wl_end rfl (nmk [1, 2, 3, 6, 7, 8, 9] rfl (nm_thn (ws_seqN EndOf_n33 EndOf_n34 rfl rfl rfl (ws_region rfl ?_))))
     refine wlo 0 1 rfl rfl rfl (wo_run rfl rfl (run_loadN (us := [_, _]) rfl rfl Try.underlying24 rfl sz24 (S6.boxcs (i := 2) rfl ⟨rfl, rfl, trivial⟩)) (wlo 1 2 rfl rfl rfl (wo_run rfl rfl (run_loadN (us := [_, _]) rfl rfl Try.underlying53 rfl sz53 (S6.boxcs (i := 0) rfl ⟨rfl, rfl, trivial⟩)) (wlo 2 3 rfl rfl rfl (wo_cq rfl rfl rfl rfl rfl rfl rfl cf28 S6 (ArcAt_q d i k (hdcrs.mono S6.un_XH) (by omega) (by omega) S6.lend) ?_)))))
     rintro _ w7 S7 rfl; clear S6
     refine wlm 3 4 rfl rfl rfl rfl rfl rfl rfl (wlo 4 5 rfl rfl rfl (wo_run rfl rfl (run_eql rfl rfl rfl) (wlm 5 6 rfl rfl rfl rfl rfl rfl rfl ?_)))
     refine wl_split (t := 29) rfl (fun hg29 => ?_) (fun hg29 => ?_)
     ·replace hg29 := of_decide_eq_true hg29
      refine wlg 6 7 rfl rfl rfl rfl rfl rfl rfl rfl (wo_run rfl rfl (run_loadN (us := [_, _]) rfl rfl Try.underlying24 rfl sz24 (S7.boxcs (i := 2) rfl ⟨rfl, rfl, trivial⟩)) (wlg 7 8 rfl rfl rfl rfl rfl rfl rfl rfl (wo_run rfl rfl (run_loadN (us := [_, _]) rfl rfl Try.underlying53 rfl sz53 (S7.boxcs (i := 0) rfl ⟨rfl, rfl, trivial⟩)) (wlg 8 9 rfl rfl rfl rfl rfl rfl rfl rfl (wo_cq rfl rfl rfl rfl rfl rfl rfl cf29 S7 (Entry_q d i k (hdcrs.mono S7.un_XH) (by omega) (by omega) S7.lend) ?_)))))
      rintro _ w8 S8 rfl; clear S7
      refine wlg 9 10 rfl rfl rfl rfl rfl rfl rfl rfl (wo_run rfl rfl (run_move rfl rfl) (wlg 10 11 rfl rfl rfl rfl rfl rfl rfl rfl (wo_run rfl rfl (run_bne rfl rfl rfl Try.underlying4) (wlo 11 12 rfl rfl rfl (wo_run rfl rfl (run_pickT rfl rfl rfl) (wl_end rfl (nmk [1, 2, 3, 6, 7, 8, 9, 35] rfl ?_)))))))
      refine nm_thn ?_
      refine ws_condN EndOf_n35 EndOf_n36 rfl rfl rfl rfl (fun hb35 => ?_) (fun hb35 => ?_)
      ·refine ws_seqN EndOf_n37 EndOf_n38 rfl rfl rfl (ws_region rfl (wlo 0 1 rfl rfl rfl (wo_run rfl rfl (run_loadN (us := [_, _]) rfl rfl Try.underlying53 rfl sz53 (S8.boxcs (i := 0) rfl ⟨rfl, rfl, trivial⟩)) (wlo 1 2 rfl rfl rfl (wo_storeB (i := 1) (us := [_, _]) (l' := [_, _]) (H' := [_, _, _]) rfl rfl S8 rfl rfl rfl rfl sz53 rfl rfl rfl rfl ?_)))))
       intro w9 S9; clear S8
       refine wl_end rfl (nmk [6] rfl (nm_thn (ws_ret hC [_] rfl rfl ⟨⟨_, rfl, loadVarN (us := [_, _]) Try.underlying53 rfl sz53 (S9.boxcs (i := 1) rfl ⟨rfl, rfl, trivial⟩)⟩, trivial⟩ ?_)))
       exact ⟨_, rfl, (S9.pick [] [] (by decide) trivial), (by first | (rw [endOf_miss (fun j hj => hno j (by omega))]; rfl) | (rw [endOf_hit (j := 4 * i + k) (by omega) (by rw [endP_at (by omega), decide_eq_true (by omega)]; simpa using hb35) hno2, show (4 * i + k) / 4 = i by omega, show (4 * i + k) % 4 = k by omega]; rfl))⟩
      ·refine ws_skip rfl (nm_blk (nmk [1, 2, 3, 6, 7, 8] rfl (nm_thn (ws_region rfl ?_))))
       refine wlm 0 1 rfl rfl rfl rfl rfl rfl rfl (wlo 1 2 rfl rfl rfl (wo_run rfl rfl (run_add rfl rfl rfl (by first | omega | (simp only [lens]; omega))) ?_))
       refine wla 2 3 rfl rfl rfl rfl rfl rfl rfl (wl_end rfl (nm_lp ?_))
       intro ax_ hax_
       refine ⟨_, ?hq3m, ⟨k + 1, rfl, hax_.sub ⟨rfl, rfl, rfl, rfl, rfl, rfl, trivial⟩, S8.pick [1, 2] [_, _] (by decide) ⟨rfl, rfl, trivial⟩, ?hq3f0, ?hq3f1⟩⟩
       case hq3f0 => omega
       case hq3f1 => (intro j hj; by_cases h : j = 4 * i + k; (subst h; rw [endP_at (by omega)]; first | (rw [decide_eq_false (by omega)]; rfl) | (rw [Bool.and_eq_false_iff]; right; simpa using hb35)); exact hno2 j (by omega))
       case hq3m => omega
     ·replace hg29 := of_decide_eq_false hg29
      refine wln 6 7 rfl rfl rfl rfl rfl rfl rfl rfl rfl (wln 7 8 rfl rfl rfl rfl rfl rfl rfl rfl rfl (wln 8 9 rfl rfl rfl rfl rfl rfl rfl rfl rfl (wln 9 10 rfl rfl rfl rfl rfl rfl rfl rfl rfl (wln 10 11 rfl rfl rfl rfl rfl rfl rfl rfl rfl ?_))))
      refine wlo 11 12 rfl rfl rfl (wo_run rfl rfl (run_pickF rfl rfl rfl) (wl_end rfl (nmk [1, 2, 3, 6, 7, 8, 9, 35] rfl (nm_thn (ws_condFN EndOf_n36 rfl rfl rfl ?_)))))
      refine ws_skip rfl (nm_blk (nmk [1, 2, 3, 6, 7, 8] rfl (nm_thn (ws_region rfl ?_))))
      refine wlm 0 1 rfl rfl rfl rfl rfl rfl rfl (wlo 1 2 rfl rfl rfl (wo_run rfl rfl (run_add rfl rfl rfl (by first | omega | (simp only [lens]; omega))) ?_))
      refine wla 2 3 rfl rfl rfl rfl rfl rfl rfl (wl_end rfl (nm_lp ?_))
      intro ax_ hax_
      refine ⟨_, ?hq4m, ⟨k + 1, rfl, hax_.sub ⟨rfl, rfl, rfl, rfl, rfl, rfl, trivial⟩, S7.pick [1, 2] [_, _] (by decide) ⟨rfl, rfl, trivial⟩, ?hq4f0, ?hq4f1⟩⟩
      case hq4f0 => omega
      case hq4f1 => (intro j hj; by_cases h : j = 4 * i + k; (subst h; rw [endP_at (by omega)]; first | (rw [decide_eq_false (by omega)]; rfl) | (rw [Bool.and_eq_false_iff]; right; simpa using hb35)); exact hno2 j (by omega))
      case hq4m => omega
    ·replace hb18 := of_decide_eq_false hb18
     refine ws_exit rfl rfl (nm_blk (nmk [1, 2, 3, 6, 7] rfl (nm_thn (ws_region rfl ?_))))
     refine wlm 0 1 rfl rfl rfl rfl rfl rfl rfl (wlo 1 2 rfl rfl rfl (wo_run rfl rfl (run_add rfl rfl rfl (by first | omega | (simp only [lens]; omega))) ?_))
     refine wla 2 3 rfl rfl rfl rfl rfl rfl rfl (wl_end rfl (nm_lp ?_))
     intro ax_ hax_
     refine ⟨_, ?hq5m, ⟨i + 1, rfl, hax_.sub ⟨rfl, rfl, rfl, rfl, rfl, trivial⟩, S4.pick [0, 1] [_, _] (by decide) ⟨rfl, rfl, trivial⟩, ?hq5f0, ?hq5f1⟩⟩
     case hq5f0 => omega
     case hq5f1 => (intro j hj; exact hno2 j (by omega))
     case hq5m => omega
  ·replace hb14 := of_decide_eq_false hb14
   refine ws_exit rfl rfl (nmk [6] rfl (nm_thn (ws_seqN EndOf_n39 EndOf_n40 rfl rfl rfl (ws_region rfl ?_))))
   refine wlo 0 1 rfl rfl rfl (wo_run rfl rfl (run_build (l := [_, _]) rfl rfl st53 rfl rfl) (wlo 1 2 rfl rfl rfl (wo_storeB (i := 0) (us := [_, _]) (l' := [_, _]) (H' := [_, _]) rfl rfl S3 rfl rfl rfl rfl sz53 rfl rfl rfl rfl ?_)))
   intro w10 S10; clear S3
   refine wl_end rfl (nmk [6] rfl (nm_thn (ws_ret hC [_] rfl rfl ⟨⟨_, rfl, loadVarN (us := [_, _]) Try.underlying53 rfl sz53 (S10.boxcs (i := 0) rfl ⟨rfl, rfl, trivial⟩)⟩, trivial⟩ ?_)))
   exact ⟨_, rfl, (S10.pick [] [] (by decide) trivial), (by first | (rw [endOf_miss (fun j hj => hno j (by omega))]; rfl) | (rw [endOf_hit (j := 4 * i + k) (by omega) (by rw [endP_at (by omega), decide_eq_true (by omega)]; simpa using hb35) hno2, show (4 * i + k) / 4 = i by omega, show (4 * i + k) % 4 = k by omega]; rfl))⟩
noncomputable def NextDart_n0 : Code := Try.f27.body.getD .skip
noncomputable def NextDart_n1 : Code := cL NextDart_n0
noncomputable def NextDart_n2 : Code := cR NextDart_n0
noncomputable def NextDart_n3 : Code := cL NextDart_n2
noncomputable def NextDart_n4 : Code := cR NextDart_n2
noncomputable def NextDart_n5 : Code := cL NextDart_n4
noncomputable def NextDart_n6 : Code := cR NextDart_n4
noncomputable def NextDart_n7 : Code := cL NextDart_n6
noncomputable def NextDart_n8 : Code := cR NextDart_n6
set_option maxRecDepth 10000 in
theorem NextDart_q {w : World} {M : Hp} {X : Fr} (d : Dg) {dcrsA : Option Addr} {dcrsc : Nat} (x : Da) (hdcrs : RdA cdCr (M.un X.h) dcrsA dcrsc d.crs) (hab : arcsB d = true) (hx : okD d x) (S : SH w M X []) : Cq Try.prog 27 [.agg [.slice dcrsA d.crs.length dcrsc, .int .i64 d.loops].toArray, .agg [.int .i64 x.a, .bool x.b].toArray] w M X (fun u => u = .agg (daF (leftD d x)).toArray) := by
 unfold Cq
 have rmhdcrs : d.crs.length * 40 ≤ 140737488355328 := hdcrs.room
 obtain ⟨hE1, hE2, hE3, hE4, hE5⟩ := endD hab hx x.b
 have hlt4 : ((endOf d x.a x.b).2 + 3) % 4 < 4 := Nat.mod_lt _ (by decide)
 refine calls_in (b := NextDart_n0) Try.func27 rfl Try.ntmps27 rfl (fun C hC => (ws_sub [(0, _), (1, _)] ⟨rfl, rfl, trivial⟩ (ws_seqN NextDart_n1 NextDart_n2 rfl rfl rfl (ws_region rfl (wlo 0 1 rfl rfl rfl (wo_box (l := [_, _]) rfl rfl rfl rfl rfl S ?_))))))
 intro gb1 w1 S1; clear S
 refine wlo 1 2 rfl rfl rfl (wo_box (l := [_, _]) rfl rfl rfl rfl rfl S1 ?_)
 intro gb2 w2 S2; clear S1
 refine wlo 2 3 rfl rfl rfl (wo_alloc (l := [_, _]) rfl rfl rfl zr65 rfl S2 ?_)
 intro gb3 w3 S3; clear S2
 refine wl_end rfl (nmk [2, 3, 4] rfl (nm_thn (ws_seqN NextDart_n3 NextDart_n4 rfl rfl rfl (ws_region rfl ?_))))
 refine wlo 0 1 rfl rfl rfl (wo_run rfl rfl (run_loadN (us := [_, _]) rfl rfl Try.underlying24 rfl sz24 (S3.boxcs (i := 2) rfl ⟨rfl, rfl, trivial⟩)) (wlo 1 2 rfl rfl rfl (wo_run rfl rfl (run_fieldAddr rfl rfl Try.underlying65 rfl (ce3) (nf3)) (wlo 2 3 rfl rfl rfl (wo_run rfl rfl (run_load1 rfl rfl Try.underlying3 rfl (S3.boxc (i := 1) rfl rfl)) (wlo 3 4 rfl rfl rfl (wo_run rfl rfl (run_fieldAddr rfl rfl Try.underlying65 rfl (ce4) (nf4)) (wlo 4 5 rfl rfl rfl (wo_run rfl rfl (run_load1 rfl rfl Try.underlying4 rfl (S3.boxc (i := 1) rfl rfl)) ?_)))))))))
 refine wlo 5 6 rfl rfl rfl (wo_cq rfl rfl rfl rfl rfl rfl rfl cf39 S3 (EndOf_q d x.a x.b (hdcrs.mono S3.un_XH) S3.lend) ?_)
 rintro _ w4 S4 rfl; clear S3
 refine wlo 6 7 rfl rfl rfl (wo_alloc (l := [_, _]) rfl rfl rfl zr53 rfl S4 ?_)
 intro gb4 w5 S5; clear S4
 refine wlo 7 8 rfl rfl rfl (wo_storeB (i := 0) (us := [_, _]) (l' := [_, _]) (H' := [_, _, _, _]) rfl rfl S5 rfl rfl rfl rfl sz53 rfl rfl rfl rfl ?_)
 intro w6 S6; clear S5
 refine wl_end rfl (nmk [2, 4, 5] rfl (nm_thn (ws_seqN NextDart_n5 NextDart_n6 rfl rfl rfl (ws_region rfl ?_))))
 refine wlo 0 1 rfl rfl rfl (wo_run rfl rfl (run_fieldAddr rfl rfl Try.underlying53 rfl (ce3) (nf3)) (wlo 1 2 rfl rfl rfl (wo_run rfl rfl (run_load1 rfl rfl Try.underlying3 rfl (S6.boxc (i := 0) rfl rfl)) (wlo 2 3 rfl rfl rfl (wo_run rfl rfl (run_fieldAddr rfl rfl Try.underlying53 rfl (ce3) (nf3)) (wlo 3 4 rfl rfl rfl (wo_run rfl rfl (run_load1 rfl rfl Try.underlying3 rfl (S6.boxc (i := 0) rfl rfl)) (wlo 4 5 rfl rfl rfl (wo_run rfl rfl (run_add rfl rfl rfl (by first | omega | (simp only [lens]; omega))) ?_)))))))))
 refine wlo 5 6 rfl rfl rfl (wo_run rfl rfl (run_rem rfl rfl rfl (by first | omega | (simp only [lens]; omega))) ?_)
 refine wl_eq 18 (.int .i64 ((((endOf d x.a x.b).2 + 3) % 4 : Nat) : Int)) rfl (int_eq (by omega)) ?_
 refine wlo 6 7 rfl rfl rfl (wo_run rfl rfl (run_build (l := [_, _]) rfl rfl st53 rfl rfl) (wlo 7 8 rfl rfl rfl (wo_alloc (l := [_, _]) rfl rfl rfl zr53 rfl S6 ?_)))
 intro gb5 w7 S7; clear S6
 refine wlo 8 9 rfl rfl rfl (wo_storeB (i := 0) (us := [_, _]) (l' := [_, _]) (H' := [_, _, _, _, _]) rfl rfl S7 rfl rfl rfl rfl sz53 rfl rfl rfl rfl ?_)
 intro w8 S8; clear S7
 refine wl_end rfl (nmk [2, 4, 6] rfl (nm_thn (ws_seqN NextDart_n7 NextDart_n8 rfl rfl rfl (ws_draw rfl (by kernel_rfl) S8 8 rfl ?_))))
 clear S8
 refine wat 0 7 rfl (by kernel_rfl) rfl rfl rfl (fun M1 N1 w9 hle1 S9 => .inl (run_loadN (us := [_, _]) rfl rfl Try.underlying24 rfl sz24 (S9.suf.boxcs (i := 4) rfl ⟨rfl, rfl, trivial⟩))) ?_
 refine wat 1 6 rfl (by kernel_rfl) rfl rfl rfl (fun M2 N2 w10 hle2 S10 => .inl (run_loadN (us := [_, _]) rfl rfl Try.underlying53 rfl sz53 (S10.suf.boxcs (i := 0) rfl ⟨rfl, rfl, trivial⟩))) ?_
 refine wat 2 5 rfl (by kernel_rfl) rfl rfl rfl (fun M3 N3 w11 hle3 S11 => yield_cq rfl rfl rfl rfl rfl cf28 S11 (ArcAt_q d ((endOf d x.a x.b).1) (((endOf d x.a x.b).2 + 3) % 4) ((hdcrs.mono (Hp.un_mono hle3 S11.mx)).mono S11.un_XH) (by omega) (by omega) S11.lend)) ?_
 refine wat 3 4 rfl (by kernel_rfl) rfl rfl rfl (fun M4 N4 w12 hle4 S12 => .inl (run_loadN (us := [_, _]) rfl rfl Try.underlying24 rfl sz24 (S12.suf.boxcs (i := 4) rfl ⟨rfl, rfl, trivial⟩))) ?_
 refine wat 4 3 rfl (by kernel_rfl) rfl rfl rfl (fun M5 N5 w13 hle5 S13 => .inl (run_loadN (us := [_, _]) rfl rfl Try.underlying53 rfl sz53 (S13.suf.boxcs (i := 0) rfl ⟨rfl, rfl, trivial⟩))) ?_
 refine wat 5 2 rfl (by kernel_rfl) rfl rfl rfl (fun M6 N6 w14 hle6 S14 => yield_cq rfl rfl rfl rfl rfl cf29 S14 (Entry_q d ((endOf d x.a x.b).1) (((endOf d x.a x.b).2 + 3) % 4) ((hdcrs.mono (Hp.un_mono hle6 S14.mx)).mono S14.un_XH) (by omega) (by omega) S14.lend)) ?_
 refine wat 6 1 rfl (by kernel_rfl) rfl rfl rfl (fun M7 N7 w15 hle7 S15 => .inl (run_build (l := [_, _]) rfl rfl st65 rfl rfl)) ?_
 refine wa_only (i := 7) 0 rfl (by kernel_rfl) rfl rfl (fun w17 S17 => ?_)
 refine (wo_storeB (i := 2) (us := [_, _]) (l' := [_, _]) (H' := [_, _, _, _, _]) rfl rfl S17 rfl rfl rfl rfl sz65 rfl rfl rfl rfl ?_)
 intro w18 S18; clear S17
 refine LeftW.turn (by kernel_rfl) S18 ?_; clear S18
 change WA _ _ _ _ _ _ _ _ _ _ _ _ [_, _, _, _, _]
 refine wa_end (by kernel_rfl) (fun w19 S19 => ?_)
 refine nmk [4] rfl (nm_thn (ws_ret hC [_] rfl rfl ⟨⟨_, rfl, loadVarN (us := [_, _]) Try.underlying65 rfl sz65 (S19.boxcs (i := 2) rfl ⟨rfl, rfl, trivial⟩)⟩, trivial⟩ ?_))
 exact ⟨_, rfl, (S19.pick [] [] (by decide) trivial), rfl⟩
noncomputable def dartCode_n0 : Code := Try.f26.body.getD .skip
noncomputable def dartCode_n1 : Code := cL dartCode_n0
noncomputable def dartCode_n2 : Code := cR dartCode_n0
noncomputable def dartCode_n3 : Code := cL dartCode_n2
noncomputable def dartCode_n4 : Code := cR dartCode_n2
noncomputable def dartCode_n5 : Code := cL dartCode_n3
noncomputable def dartCode_n6 : Code := cR dartCode_n3
noncomputable def dartCode_n7 : Code := cL dartCode_n6
noncomputable def dartCode_n8 : Code := cR dartCode_n6
noncomputable def dartCode_n9 : Code := cL dartCode_n7
noncomputable def dartCode_n10 : Code := cR dartCode_n7
noncomputable def dartCode_n11 : Code := cL dartCode_n4
noncomputable def dartCode_n12 : Code := cR dartCode_n4
set_option maxRecDepth 10000 in
theorem dartCode_q {w : World} {M : Hp} {X : Fr} (x : Da) (hx : 1 ≤ x.a ∧ x.a ≤ 1000) (S : SH w M X []) : Cq Try.prog 26 [.agg [.int .i64 x.a, .bool x.b].toArray] w M X (fun u => u = .int .i64 (dcN x : Int)) := by
 unfold Cq
 refine calls_in (b := dartCode_n0) Try.func26 rfl Try.ntmps26 rfl (fun C hC => (ws_sub [(0, _)] ⟨rfl, trivial⟩ (ws_seqN dartCode_n1 dartCode_n2 rfl rfl rfl (ws_region rfl (wlo 0 1 rfl rfl rfl (wo_box (l := [_, _]) rfl rfl rfl rfl rfl S ?_))))))
 intro gb1 w1 S1; clear S
 refine wla 1 2 rfl rfl rfl rfl rfl rfl rfl (wl_end rfl (nmk [1] rfl (nm_thn (ws_seqN dartCode_n3 dartCode_n4 rfl rfl rfl ?_))))
 refine ws_seqN dartCode_n5 dartCode_n6 rfl rfl rfl (ws_region rfl (wlo 0 1 rfl rfl rfl (wo_run rfl rfl (run_fieldAddr rfl rfl Try.underlying65 rfl (ce4) (nf4)) (wlo 1 2 rfl rfl rfl (wo_run rfl rfl (run_load1 rfl rfl Try.underlying4 rfl (S1.boxc (i := 0) rfl rfl)) (wl_end rfl ?_))))))
 refine nmk [1, 4] rfl (nm_thn ?_)
 refine ws_condN dartCode_n7 dartCode_n8 rfl rfl rfl rfl (fun hb4 => ?_) (fun hb4 => ?_)
 ·refine ws_seqN dartCode_n9 dartCode_n10 rfl rfl rfl (ws_region rfl (wlo 0 1 rfl rfl rfl (wo_run rfl rfl (run_fieldAddr rfl rfl Try.underlying65 rfl (ce3) (nf3)) (wlo 1 2 rfl rfl rfl (wo_run rfl rfl (run_load1 rfl rfl Try.underlying3 rfl (S1.boxc (i := 0) rfl rfl)) (wlo 2 3 rfl rfl rfl (wo_run rfl rfl (run_mul rfl rfl rfl (by first | omega | (simp only [lens]; omega))) ?_)))))))
  refine wlo 3 4 rfl rfl rfl (wo_run rfl rfl (run_add rfl rfl rfl (by first | omega | (simp only [lens]; omega))) ?_)
  refine wla 4 5 rfl rfl rfl rfl rfl rfl rfl (wl_end rfl (nmk [2] rfl (nm_thn (ws_ret hC [_] rfl rfl ⟨rfl, trivial⟩ ?_))))
  exact ⟨_, rfl, (S1.pick [] [] (by decide) trivial), (by show Value.int _ _ = _; refine congrArg (Value.int .i64) ?_; unfold dcN; rw [hb4]; first | (rw [if_pos rfl]; omega) | (rw [if_neg Bool.false_ne_true]; omega))⟩
 ·refine ws_skip rfl (nmk [1] rfl (nm_thn (ws_seqN dartCode_n11 dartCode_n12 rfl rfl rfl (ws_region rfl ?_))))
  refine wlo 0 1 rfl rfl rfl (wo_run rfl rfl (run_fieldAddr rfl rfl Try.underlying65 rfl (ce3) (nf3)) (wlo 1 2 rfl rfl rfl (wo_run rfl rfl (run_load1 rfl rfl Try.underlying3 rfl (S1.boxc (i := 0) rfl rfl)) (wlo 2 3 rfl rfl rfl (wo_run rfl rfl (run_mul rfl rfl rfl (by first | omega | (simp only [lens]; omega))) ?_)))))
  refine wla 3 4 rfl rfl rfl rfl rfl rfl rfl (wl_end rfl (nmk [2] rfl (nm_thn (ws_ret hC [_] rfl rfl ⟨rfl, trivial⟩ ?_))))
  exact ⟨_, rfl, (S1.pick [] [] (by decide) trivial), (by show Value.int _ _ = _; refine congrArg (Value.int .i64) ?_; unfold dcN; rw [hb4]; first | (rw [if_pos rfl]; omega) | (rw [if_neg Bool.false_ne_true]; omega))⟩
noncomputable def FacesOf_n0 : Code := Try.f16.body.getD .skip
noncomputable def FacesOf_n1 : Code := cL FacesOf_n0
noncomputable def FacesOf_n2 : Code := cR FacesOf_n0
noncomputable def FacesOf_n3 : Code := cL FacesOf_n2
noncomputable def FacesOf_n4 : Code := cR FacesOf_n2
noncomputable def FacesOf_n5 : Code := cL FacesOf_n4
noncomputable def FacesOf_n6 : Code := cR FacesOf_n4
noncomputable def FacesOf_n7 : Code := cL FacesOf_n6
noncomputable def FacesOf_n8 : Code := cR FacesOf_n6
noncomputable def FacesOf_n9 : Code := cL FacesOf_n8
noncomputable def FacesOf_n10 : Code := cR FacesOf_n8
noncomputable def FacesOf_n11 : Code := cL FacesOf_n9
noncomputable def FacesOf_n12 : Code := cR FacesOf_n9
noncomputable def FacesOf_n13 : Code := cL FacesOf_n12
noncomputable def FacesOf_n14 : Code := cL FacesOf_n13
noncomputable def FacesOf_n15 : Code := cL FacesOf_n14
noncomputable def FacesOf_n16 : Code := cR FacesOf_n14
noncomputable def FacesOf_n17 : Code := cL FacesOf_n15
noncomputable def FacesOf_n18 : Code := cR FacesOf_n15
noncomputable def FacesOf_n19 : Code := cL FacesOf_n18
noncomputable def FacesOf_n20 : Code := cR FacesOf_n18
noncomputable def FacesOf_n21 : Code := cL FacesOf_n16
noncomputable def FacesOf_n22 : Code := cR FacesOf_n16
noncomputable def FacesOf_n23 : Code := cL FacesOf_n21
noncomputable def FacesOf_n24 : Code := cL FacesOf_n23
noncomputable def FacesOf_n25 : Code := cR FacesOf_n23
noncomputable def FacesOf_n26 : Code := cL FacesOf_n24
noncomputable def FacesOf_n27 : Code := cR FacesOf_n24
noncomputable def FacesOf_n28 : Code := cL FacesOf_n27
noncomputable def FacesOf_n29 : Code := cR FacesOf_n27
noncomputable def FacesOf_n30 : Code := cL FacesOf_n25
noncomputable def FacesOf_n31 : Code := cR FacesOf_n25
noncomputable def FacesOf_n32 : Code := cL FacesOf_n31
noncomputable def FacesOf_n33 : Code := cR FacesOf_n31
noncomputable def FacesOf_n34 : Code := cL FacesOf_n33
noncomputable def FacesOf_n35 : Code := cR FacesOf_n33
noncomputable def FacesOf_n36 : Code := cL FacesOf_n34
noncomputable def FacesOf_n37 : Code := cL FacesOf_n36
noncomputable def FacesOf_n38 : Code := cL FacesOf_n37
noncomputable def FacesOf_n39 : Code := cR FacesOf_n37
noncomputable def FacesOf_n40 : Code := cL FacesOf_n38
noncomputable def FacesOf_n41 : Code := cR FacesOf_n38
noncomputable def FacesOf_n42 : Code := cL FacesOf_n41
noncomputable def FacesOf_n43 : Code := cR FacesOf_n41
noncomputable def FacesOf_n44 : Code := cL FacesOf_n39
noncomputable def FacesOf_n45 : Code := cL FacesOf_n44
noncomputable def FacesOf_n46 : Code := cR FacesOf_n44
noncomputable def FacesOf_n47 : Code := cL FacesOf_n46
noncomputable def FacesOf_n48 : Code := cR FacesOf_n46
noncomputable def FacesOf_n49 : Code := cL FacesOf_n10
noncomputable def FacesOf_n50 : Code := cR FacesOf_n10
set_option maxHeartbeats 1000000 in
set_option maxRecDepth 10000 in
theorem FacesOf_t {w : World} {M : Hp} {X : Fr} (d : Dg) {dcrsA : Option Addr} {dcrsc : Nat} (hdcrs : RdA cdCr (M.un X.h) dcrsA dcrsc d.crs) (hn : d.crs.length ≤ 16) (hab : arcsB d = true) (S : SH w M X []) : Ct Try.prog 16 [.agg [.slice dcrsA d.crs.length dcrsc, .int .i64 d.loops].toArray] w M X (FacesR d) := by
 unfold Ct
 have rmhdcrs : d.crs.length * 40 ≤ 140737488355328 := hdcrs.room
 refine calls_in (b := FacesOf_n0) Try.func16 rfl Try.ntmps16 rfl (fun C hC => (ws_sub [(0, _)] ⟨rfl, trivial⟩ (ws_seqN FacesOf_n1 FacesOf_n2 rfl rfl rfl (ws_region rfl (wlo 0 1 rfl rfl rfl (wo_box (l := [_, _]) rfl rfl rfl rfl rfl S ?_))))))
 intro gb1 w1 S1; clear S
 refine wla 1 2 rfl rfl rfl rfl rfl rfl rfl (wl_end rfl (nmk [1] rfl (nm_thn (ws_seqN FacesOf_n3 FacesOf_n4 rfl rfl rfl ?_))))
 refine ws_region rfl (wlo 0 1 rfl rfl rfl (wo_run rfl rfl (run_fieldAddr rfl rfl Try.underlying24 rfl (ce22) (nf22)) (wlo 1 2 rfl rfl rfl (wo_run rfl rfl (run_load1 rfl rfl Try.underlying22 rfl (S1.boxc (i := 0) rfl rfl)) (wlo 2 3 rfl rfl rfl (wo_run rfl rfl (run_len rfl rfl rfl rfl rfl rfl Try.underlying22) (wlo 3 4 rfl rfl rfl (wo_run rfl rfl (run_mul rfl rfl rfl (by first | omega | (simp only [lens]; omega))) ?_))))))))
 refine wlo 4 5 rfl rfl rfl (wo_run rfl rfl (run_add rfl rfl rfl (by first | omega | (simp only [lens]; omega))) ?_)
 refine wla 5 6 rfl rfl rfl rfl rfl rfl rfl (wl_end rfl (nmk [1, 3] rfl (nm_thn (ws_seqN FacesOf_n5 FacesOf_n6 rfl rfl rfl ?_))))
 refine ws_region rfl (wlm 0 1 rfl rfl rfl rfl rfl rfl rfl (wlo 1 2 rfl rfl rfl (wo_make (C := cdBool) ((4 * (d.crs.length : Int)).toNat + 2) rfl rfl rfl rfl rfl sl70 (by first | rfl | omega) (by show _ * 1 ≤ _; first | omega | (simp only [lens]; omega)) S1 ?_)))
 intro vr1 w2 S2; clear S1
 refine wla 2 3 rfl rfl rfl rfl rfl rfl rfl (wl_end rfl (nmk [1, 3, 4] rfl (nm_thn (ws_seqN FacesOf_n7 FacesOf_n8 rfl rfl rfl ?_))))
 refine ws_region rfl (wla 0 1 rfl rfl rfl rfl rfl rfl rfl (wl_end rfl (nm_thn (ws_seqN FacesOf_n9 FacesOf_n10 rfl rfl rfl ?_))))
 refine ws_seqN FacesOf_n11 FacesOf_n12 rfl rfl rfl (ws_region rfl (wla 0 1 rfl rfl rfl rfl rfl rfl rfl (wl_end rfl (nm_thn ?_))))
 refine ws_blockN FacesOf_n13 0 rfl rfl rfl ?_
 have S3 := S2.nilrow (cdV 63); clear S2
 refine ws_loopE (fun mx_ ax_ wx_ => ∃ (k : Nat) (seen : List Bool) (outc : List (List Int)) (vs : List SlV) (vrs : Value) (vro : Value) (M1 : Hp), M.le M1 ∧ mx_ = 4 * d.crs.length - k ∧ Env 53 [(1, .pointer (some ⟨gb1, 0, none⟩)), (3, .int .i64 ((4 * (d.crs.length : Int)) + 2)), (4, vrs), (5, vro), (6, .int .i64 ((k + 2 : Nat) : Int))] ax_ ∧ SH wx_ M1 X [Rs.row (cdV 63) vro vs, Rs.row cdBool vrs seen, Rs.box gb1 24 [.slice dcrsA d.crs.length dcrsc, .int .i64 d.loops]] ∧ k ≤ 4 * d.crs.length ∧ facesN d k = (seen, outc) ∧ Rd2 cdDa M1 vs (outc.map dasL)) rfl ?_ ?_
 ·intro ax_ hax_
  refine ⟨_, ⟨0, _, [], _, _, _, _, Hp.le_refl _, rfl, hax_.sub ⟨rfl, rfl, rfl, rfl, rfl, trivial⟩, S3.pick [0, 1, 2] [_, _, _] (by decide) ⟨rfl, rfl, rfl, trivial⟩, ?hq1f0, ?hq1f1, ?hq1f2⟩⟩
  case hq1f0 => omega
  case hq1f1 => (unfold facesN; first | rfl | (congr 1))
  case hq1f2 => first | exact Rd2.nil_ | (rw [e9]; exact Rd2.nil_)
 ·rintro m1 a1 w3 ⟨k, seen, outc, vs, vrs, vro, M1, hle1, rfl, he1, S4, hk, hfn, hdo⟩
  clear S3
  refine ws_in he1 (c := FacesOf_n14) rfl ?_
  clear he1 a1
  replace hdcrs := hdcrs.mono (Hp.un_mono hle1 S4.mx)
  have hvs := hdo.1
  rw [List.length_map] at hvs
  have hmany := facesN_many d k
  rw [hfn] at hmany
  replace hmany : outc.length ≤ k := hmany
  have hsl : seen.length = 4 * d.crs.length + 2 := by have h9 := facesN_len d k; rw [hfn] at h9; exact h9
  refine ws_seqN FacesOf_n15 FacesOf_n16 rfl rfl rfl (ws_seqN FacesOf_n17 FacesOf_n18 rfl rfl rfl (ws_region rfl (wlm 0 1 rfl rfl rfl rfl rfl rfl rfl (wlm 1 2 rfl rfl rfl rfl rfl rfl rfl ?_))))
  refine wlo 2 3 rfl rfl rfl (wo_run rfl rfl (run_lss rfl rfl rfl) (wl_end rfl (nmk [1, 3, 4, 5, 6, 18] rfl (nm_thn ?_))))
  refine ws_condN FacesOf_n19 FacesOf_n20 rfl rfl rfl rfl (fun hb18 => ?_) (fun hb18 => ?_)
  ·replace hb18 := of_decide_eq_true hb18
   refine ws_skip rfl (nmk [1, 3, 4, 5, 6] rfl (nm_thn (ws_seqN FacesOf_n21 FacesOf_n22 rfl rfl rfl (ws_blockN FacesOf_n23 1 rfl rfl rfl ?_))))
   refine ws_seqN FacesOf_n24 FacesOf_n25 rfl rfl rfl (ws_seqN FacesOf_n26 FacesOf_n27 rfl rfl rfl (ws_region rfl (wlm 0 1 rfl rfl rfl rfl rfl rfl rfl (wlm 1 2 rfl rfl rfl rfl rfl rfl rfl ?_))))
   refine wlo 2 3 rfl rfl rfl (wo_run rfl rfl (run_indexR (C := cdBool) (i := 1) (k + 2) rfl rfl rfl sl70 S4 rfl (by first | rfl | omega) (by first | omega | (simp only [lens]; omega))) ?_)
   refine wlo 3 4 rfl rfl rfl (wo_run rfl rfl (run_load1 rfl rfl Try.underlying4 rfl (S4.rowc (i := 1) (e := k + 2) (j := 0) rfl (by first | omega | (simp only [lens]; omega)) rfl rfl)) ?_)
   refine wl_end rfl (nmk [1, 3, 4, 5, 6, 24] rfl (nm_thn ?_))
   refine ws_condN FacesOf_n28 FacesOf_n29 rfl rfl rfl rfl (fun hb24 => ?_) (fun hb24 => ?_)
   ·refine ws_exit rfl rfl (nmk [1, 3, 4, 5, 6] rfl (nm_thn (ws_region rfl (wlm 0 1 rfl rfl rfl rfl rfl rfl rfl ?_))))
    refine wlo 1 2 rfl rfl rfl (wo_run rfl rfl (run_add rfl rfl rfl (by first | omega | (simp only [lens]; omega))) ?_)
    refine wla 2 3 rfl rfl rfl rfl rfl rfl rfl (wl_end rfl (nm_lp ?_))
    intro ax_ hax_
    refine ⟨_, ?hq2m, ⟨k + 1, _, outc, _, _, _, _, (hle1), rfl, hax_.sub ⟨rfl, rfl, rfl, rfl, rfl, trivial⟩, S4.pick [0, 1, 2] [_, _, _] (by decide) ⟨rfl, rfl, rfl, trivial⟩, ?hq2f0, ?hq2f1, ?hq2f2⟩⟩
    case hq2f0 => omega
    case hq2f1 => first | exact facesN_skip hfn hb24 | exact facesN_ring hfn (by simpa using hb24) (hrg.trans (ringF_stop (by simpa using hb36)))
    case hq2f2 => first | exact hdo | (rw [e9]; exact hdo)
    case hq2m => omega
   ·refine ws_skip rfl (nmk [1, 3, 4, 5, 6] rfl (nm_thn (ws_seqN FacesOf_n30 FacesOf_n31 rfl rfl rfl (ws_region rfl ?_))))
    refine wla 0 1 rfl rfl rfl rfl rfl rfl rfl (wl_end rfl (nm_thn (ws_seqN FacesOf_n32 FacesOf_n33 rfl rfl rfl (ws_region rfl ?_))))
    refine wlm 0 1 rfl rfl rfl rfl rfl rfl rfl (wlo 1 2 rfl rfl rfl (wo_run rfl rfl (run_quo rfl rfl rfl (by first | omega | (simp only [lens]; omega))) ?_))
    refine wlm 2 3 rfl rfl rfl rfl rfl rfl rfl (wlo 3 4 rfl rfl rfl (wo_run rfl rfl (run_rem rfl rfl rfl (by first | omega | (simp only [lens]; omega))) ?_))
    refine wlo 4 5 rfl rfl rfl (wo_run rfl rfl (run_eql rfl rfl rfl) (wl_eq 26 (.int .i64 ((dA (k + 2)).a)) rfl (int_eq (by show _ = (((k + 2) / 2 : Nat) : Int); omega)) ?_))
    refine wl_eq 29 (.bool ((dA (k + 2)).b)) rfl (congrArg Value.bool (by show _ = decide _; exact decide_eq_decide.2 (by omega))) ?_
    refine wlo 5 6 rfl rfl rfl (wo_run rfl rfl (run_build (l := [_, _]) rfl rfl st65 rfl rfl) (wlo 6 7 rfl rfl rfl (wo_alloc (l := [_, _]) rfl rfl rfl zr65 rfl S4 ?_)))
    intro gb2 w4 S5; clear S4
    refine wlo 7 8 rfl rfl rfl (wo_storeB (i := 0) (us := [_, _]) (l' := [_, _]) (H' := [_, _, _, _]) rfl rfl S5 rfl rfl rfl rfl sz65 rfl rfl rfl rfl ?_)
    intro w5 S6; clear S5
    refine wl_end rfl (nmk [1, 3, 4, 5, 6, 7, 8] rfl (nm_thn (ws_seqN FacesOf_n34 FacesOf_n35 rfl rfl rfl (ws_blockN FacesOf_n36 2 rfl rfl rfl ?_))))
    have S7 := S6.nilrow cdDa; clear S6
    refine ws_loopE (fun mx_ ax_ wx_ => ∃ (seen2 : List Bool) (x : Nat) (y : Da) (acc : List Int) (ringt : List Da) (vrs2 : Value) (vring : Value), mx_ = free seen2 ∧ Env 53 [(1, .pointer (some ⟨gb1, 0, none⟩)), (3, .int .i64 ((4 * (d.crs.length : Int)) + 2)), (4, vrs2), (5, vro), (6, .int .i64 ((k + 2 : Nat) : Int)), (7, vring), (8, .pointer (some ⟨gb2, 0, none⟩))] ax_ ∧ SH wx_ M1 X [Rs.row cdDa vring ringt, Rs.box gb2 65 [.int .i64 y.a, .bool y.b], Rs.row (cdV 63) vro vs, Rs.row cdBool vrs2 seen2, Rs.box gb1 24 [.slice dcrsA d.crs.length dcrsc, .int .i64 d.loops]] ∧ ringF (nxC d) seen (k + 2) [] = ringF (nxC d) seen2 x acc ∧ ringt = dasL acc ∧ (2 ≤ x ∧ x < 4 * d.crs.length + 2) ∧ seen2.length = 4 * d.crs.length + 2 ∧ y = dA x ∧ acc.length + free seen2 ≤ 100) rfl ?_ ?_
    ·intro ax_ hax_
     refine ⟨_, ⟨seen, k + 2, (dA (k + 2)), [], _, _, _, rfl, hax_.sub ⟨rfl, rfl, rfl, rfl, rfl, rfl, rfl, trivial⟩, S7.pick [0, 1, 2, 3, 4] [_, _, _, _, _] (by decide) ⟨rfl, rfl, rfl, rfl, rfl, trivial⟩, ?hq3f0, ?hq3f1, ?hq3f2, ?hq3f3, ?hq3f4, ?hq3f5⟩⟩
     case hq3f0 => rfl
     case hq3f1 => rfl
     case hq3f2 => omega
     case hq3f3 => exact hsl
     case hq3f4 => rfl
     case hq3f5 => (have h8 : free seen ≤ seen.length := List.countP_le_length; simp only [List.length_nil]; omega)
    ·rintro m2 a2 w6 ⟨seen2, x, y, acc, ringt, vrs2, vring, rfl, he2, S8, hrg, hring, hx, hs2, hy, hroom⟩
     clear S7
     refine ws_in he2 (c := FacesOf_n37) rfl ?_
     clear he2 a2
     have hyk : okD d y := by rw [hy]; exact dA_ok hx
     have hyk1 := hyk.1
     have hyk2 := hyk.2
     have hrl : ringt.length = acc.length := by rw [hring]; simp [dasL]
     have hdc : dcN y = x := by rw [hy]; exact dcN_dA x
     refine ws_seqN FacesOf_n38 FacesOf_n39 rfl rfl rfl (ws_seqN FacesOf_n40 FacesOf_n41 rfl rfl rfl (ws_region rfl (wlm 0 1 rfl rfl rfl rfl rfl rfl rfl (wlo 1 2 rfl rfl rfl (wo_run rfl rfl (run_loadN (us := [_, _]) rfl rfl Try.underlying65 rfl sz65 (S8.boxcs (i := 1) rfl ⟨rfl, rfl, trivial⟩)) ?_)))))
     refine wlo 2 3 rfl rfl rfl (wo_cq rfl rfl rfl rfl rfl rfl rfl cf26 S8 (dartCode_q y ((by omega)) S8.lend) ?_)
     rintro _ w7 S9 rfl; clear S8
     refine wl_eq 33 (.int .i64 (x : Int)) rfl (int_eq (by rw [hdc])) ?_
     refine wlo 3 4 rfl rfl rfl (wo_run rfl rfl (run_indexR (C := cdBool) (i := 3) x rfl rfl rfl sl70 S9 rfl (by first | rfl | omega) (by first | omega | (simp only [lens]; omega))) ?_)
     refine wlo 4 5 rfl rfl rfl (wo_run rfl rfl (run_load1 rfl rfl Try.underlying4 rfl (S9.rowc (i := 3) (e := x) (j := 0) rfl (by first | omega | (simp only [lens]; omega)) rfl rfl)) ?_)
     refine wlo 5 6 rfl rfl rfl (wo_run rfl rfl (run_not rfl rfl) (wl_end rfl (nmk [1, 3, 4, 5, 6, 7, 8, 36] rfl (nm_thn ?_))))
     refine ws_condN FacesOf_n42 FacesOf_n43 rfl rfl rfl rfl (fun hb36 => ?_) (fun hb36 => ?_)
     ·simp only [Bool.and_eq_true, Bool.or_eq_true, Bool.and_eq_false_iff, Bool.or_eq_false_iff, decide_eq_true_eq, decide_eq_false_iff_not, Bool.not_eq_true', Bool.not_eq_false'] at hb36
      refine ws_skip rfl (nmk [1, 3, 4, 5, 6, 7, 8] rfl (nm_thn (ws_blockN FacesOf_n44 3 rfl rfl rfl (ws_seqN FacesOf_n45 FacesOf_n46 rfl rfl rfl ?_))))
      refine ws_region rfl (wlm 0 1 rfl rfl rfl rfl rfl rfl rfl (wlo 1 2 rfl rfl rfl (wo_run rfl rfl (run_loadN (us := [_, _]) rfl rfl Try.underlying65 rfl sz65 (S9.boxcs (i := 1) rfl ⟨rfl, rfl, trivial⟩)) (wlo 2 3 rfl rfl rfl (wo_cq rfl rfl rfl rfl rfl rfl rfl cf26 S9 (dartCode_q y ((by omega)) S9.lend) ?_)))))
      rintro _ w8 S10 rfl; clear S9
      refine wl_eq 39 (.int .i64 (x : Int)) rfl (int_eq (by rw [hdc])) ?_
      refine wlo 3 4 rfl rfl rfl (wo_run rfl rfl (run_indexR (C := cdBool) (i := 3) x rfl rfl rfl sl70 S10 rfl (by first | rfl | omega) (by first | omega | (simp only [lens]; omega))) ?_)
      refine wlo 4 5 rfl rfl rfl (wo_storeR (C := cdBool) (i := 3) (e := x) (j := 0) (us := [_]) (H' := [_, _, _, _, _]) true rfl rfl S10 rfl (by first | omega | (simp only [lens]; omega)) rfl rfl rfl sz4 rfl rfl rfl rfl ?_)
      intro w9 S11; clear S10
      refine wl_end rfl (nmk [1, 3, 4, 5, 6, 7, 8] rfl (nm_thn (ws_seqN FacesOf_n47 FacesOf_n48 rfl rfl rfl (ws_region rfl ?_))))
      refine wlm 0 1 rfl rfl rfl rfl rfl rfl rfl (wlo 1 2 rfl rfl rfl (wo_run rfl rfl (run_loadN (us := [_, _]) rfl rfl Try.underlying65 rfl sz65 (S11.boxcs (i := 1) rfl ⟨rfl, rfl, trivial⟩)) (wlo 2 3 rfl rfl rfl (wo_buildSlice1 (C := cdDa) (l := [_, _]) rfl rfl rfl rfl sl63 rfl rfl rfl rfl S11 ?_))))
      intro gb3 w10 S12; clear S11
      refine wlo 3 4 rfl rfl rfl (wo_append1 (C := cdDa) (i := 1) (q := 0) (⟨y.a, y.b⟩ : Da) rfl rfl rfl rfl rfl rfl rfl rfl sl63 S12 rfl rfl rfl (by show (_ + 1) * 16 ≤ _; first | omega | (simp only [lens]; omega)) ?_)
      intro vring1 w11 S13; clear S12
      have S14 := S13.pick [1, 2, 3, 4, 5] [_, _, _, _, _] (by decide) ⟨rfl, rfl, rfl, rfl, rfl, trivial⟩; clear S13
      refine wla 4 5 rfl rfl rfl rfl rfl rfl rfl (wl_end rfl (nmk [1, 3, 4, 5, 6, 7, 8] rfl (nm_thn (ws_region rfl ?_))))
      refine wlo 0 1 rfl rfl rfl (wo_run rfl rfl (run_loadN (us := [_, _]) rfl rfl Try.underlying24 rfl sz24 (S14.boxcs (i := 4) rfl ⟨rfl, rfl, trivial⟩)) (wlo 1 2 rfl rfl rfl (wo_run rfl rfl (run_loadN (us := [_, _]) rfl rfl Try.underlying65 rfl sz65 (S14.boxcs (i := 1) rfl ⟨rfl, rfl, trivial⟩)) (wlo 2 3 rfl rfl rfl (wo_cq rfl rfl rfl rfl rfl rfl rfl cf27 S14 (NextDart_q d y (hdcrs.mono S14.un_XH) (hab) ((by first | assumption | omega)) S14.lend) ?_)))))
      rintro _ w12 S15 rfl; clear S14
      refine wlo 3 4 rfl rfl rfl (wo_storeB (i := 1) (us := [_, _]) (l' := [_, _]) (H' := [_, _, _, _, _]) rfl rfl S15 rfl rfl rfl rfl sz65 rfl rfl rfl rfl ?_)
      intro w13 S16; clear S15
      refine wl_end rfl (nm_blk (nm_lp ?_))
      have hga : ga seen2 x = false := by simpa using hb36
      have hfr := free_set (seen := seen2) (x := x) (by omega) hga
      intro ax_ hax_
      refine ⟨_, ?hq4m, ⟨seen2.set x true, nxC d x, leftD d y, acc ++ [(x : Int)], _, _, _, rfl, hax_.sub ⟨rfl, rfl, rfl, rfl, rfl, rfl, rfl, trivial⟩, S16.pick [0, 1, 2, 3, 4] [_, _, _, _, _] (by decide) ⟨rfl, rfl, rfl, rfl, rfl, trivial⟩, ?hq4f0, ?hq4f1, ?hq4f2, ?hq4f3, ?hq4f4, ?hq4f5⟩⟩
      case hq4f0 => (rw [hrg]; exact ringF_go (by omega) hga)
      case hq4f1 => (rw [dasL_snoc, ← hring, hy])
      case hq4f2 => exact nxC_rng hab hx
      case hq4f3 => (rw [List.length_set]; exact hs2)
      case hq4f4 => (rw [hy, dA_nxC hab hx])
      case hq4f5 => (simp only [List.length_append, List.length_cons, List.length_nil]; omega)
      case hq4m => omega
     ·simp only [Bool.and_eq_true, Bool.or_eq_true, Bool.and_eq_false_iff, Bool.or_eq_false_iff, decide_eq_true_eq, decide_eq_false_iff_not, Bool.not_eq_true', Bool.not_eq_false'] at hb36
      refine ws_exit rfl rfl (nmk [1, 3, 4, 5, 6, 7] rfl (nm_thn (ws_region rfl (wlm 0 1 rfl rfl rfl rfl rfl rfl rfl ?_))))
      refine wlm 1 2 rfl rfl rfl rfl rfl rfl rfl ?_
      obtain ⟨M2, hle3, S17, ⟨A1, c1, e1, hr1⟩⟩ := S9.pubrow (i := 0) (H' := [_, _, _, _, _]) rfl rfl (by show _ * 16 ≤ _; first | omega | (simp only [lens]; omega))
      clear S9; subst e1
      replace hdcrs := hdcrs.mono (Hp.un_mono hle3 S17.mx)
      replace hdo := hdo.mono hle3
      refine wlo 2 3 rfl rfl rfl (wo_buildSlice1 (C := (cdV 63)) (l := [_]) rfl rfl rfl rfl sl49 rfl rfl rfl rfl S17 ?_)
      intro gb4 w14 S18; clear S17
      refine wlo 3 4 rfl rfl rfl (wo_append1 (C := (cdV 63)) (i := 3) (q := 0) (⟨A1, ringt.length, c1⟩ : SlV) rfl rfl rfl rfl rfl rfl rfl rfl sl49 S18 rfl rfl rfl (by show (_ + 1) * 24 ≤ _; first | omega | (simp only [lens]; omega)) ?_)
      intro vro1 w15 S19; clear S18
      have S20 := S19.pick [1, 2, 3, 4, 5] [_, _, _, _, _] (by decide) ⟨rfl, rfl, rfl, rfl, rfl, trivial⟩; clear S19
      have hd1 := hdo.snoc (c := c1) hr1
      refine wla 4 5 rfl rfl rfl rfl rfl rfl rfl (wl_end rfl (nm_blk (nmk [1, 3, 4, 5, 6] rfl (nm_thn ?_))))
      refine ws_region rfl (wlm 0 1 rfl rfl rfl rfl rfl rfl rfl (wlo 1 2 rfl rfl rfl (wo_run rfl rfl (run_add rfl rfl rfl (by first | omega | (simp only [lens]; omega))) ?_)))
      refine wla 2 3 rfl rfl rfl rfl rfl rfl rfl (wl_end rfl (nm_lp ?_))
      have hdx : dcN y = x := by rw [hy]; exact dcN_dA x
      have e9 : List.map dasL (outc ++ [acc]) = List.map dasL outc ++ [ringt] := by rw [List.map_append, show List.map dasL [acc] = [ringt] from by rw [hring]; rfl]
      intro ax_ hax_
      refine ⟨_, ?hq5m, ⟨k + 1, _, (outc ++ [acc]), _, _, _, _, (hle1.trans hle3), rfl, hax_.sub ⟨rfl, rfl, rfl, rfl, rfl, trivial⟩, S20.pick [2, 3, 4] [_, _, _] (by decide) ⟨rfl, rfl, rfl, trivial⟩, ?hq5f0, ?hq5f1, ?hq5f2⟩⟩
      case hq5f0 => omega
      case hq5f1 => first | exact facesN_skip hfn hb24 | exact facesN_ring hfn (by simpa using hb24) (hrg.trans (ringF_stop (by simpa using hb36)))
      case hq5f2 => first | exact hd1 | (rw [e9]; exact hd1)
      case hq5m => omega
  ·replace hb18 := of_decide_eq_false hb18
   refine ws_exit rfl rfl (nmk [5] rfl (nm_thn (ws_seqN FacesOf_n49 FacesOf_n50 rfl rfl rfl (ws_region rfl ?_))))
   refine wlm 0 1 rfl rfl rfl rfl rfl rfl rfl (wla 1 2 rfl rfl rfl rfl rfl rfl rfl (wl_end rfl (nmk [2] rfl (nm_thn ?_))))
   obtain ⟨M3, hle4, S21, ⟨A2, c2, e2, hr2⟩⟩ := S4.pubrow (i := 0) (H' := [_, _, _]) rfl rfl (by show _ * 24 ≤ _; first | omega | (simp only [lens]; omega))
   clear S4; subst e2
   replace hdcrs := hdcrs.mono (Hp.un_mono hle4 S21.mx)
   replace hdo := hdo.mono hle4
   refine ws_ret hC [_] rfl rfl ⟨rfl, trivial⟩ ?_
   refine ⟨_, rfl, _, hle1.trans hle4, (S21.pick [] [] (by decide) trivial), ?_⟩
   obtain rfl : k = 4 * d.crs.length := by omega
   have e2 : facesL d = outc.map dasL := by unfold facesL facesD; rw [hfn]
   unfold FacesR
   rw [e2]
   exact ⟨_, _, _, rfl, hr2, hdo⟩
end Go.Proofs.Ythppkofceancjaa
namespace Go.Proofs.Ythppkofceancjaa
open Go.ChangeShapes Go.WideShapes Go.ChangeAt Go.RowKit
/-- The labels of the pieces: one arc's step, a round, so many rounds. -/
def stepW (ws : List Int) (x y : Nat) : List Int := if ga ws x < ga ws y then ws.set y (ga ws x) else ws.set x (ga ws y)
def iniW (n : Nat) : Nat → List Int
 | 0 => List.replicate n 0
 | k + 1 => (iniW n k).set k (k : Int)
def endC (d : Dg) (k : Nat) (b : Bool) : Nat := (endOf d ((k + 1 : Nat) : Int) b).1
def roundW (d : Dg) (ws : List Int) : Nat → List Int
 | 0 => ws
 | k + 1 => stepW (roundW d ws k) (endC d k false) (endC d k true)
def rndsW (d : Dg) : Nat → List Int
 | 0 => iniW d.crs.length d.crs.length
 | j + 1 => roundW d (rndsW d j) (2 * d.crs.length)
def whoL (d : Dg) : List Int := rndsW d d.crs.length
theorem stepW_len (ws : List Int) (x y : Nat) : (stepW ws x y).length = ws.length := by
 unfold stepW
 split <;> rw [List.length_set]
theorem iniW_len (n k : Nat) : (iniW n k).length = n := by
 induction k with
 | zero => exact List.length_replicate
 | succ k ih => rw [iniW, List.length_set, ih]
theorem roundW_len (d : Dg) (ws : List Int) (k : Nat) : (roundW d ws k).length = ws.length := by
 induction k with
 | zero => rfl
 | succ k ih => rw [roundW, stepW_len, ih]
theorem rndsW_len (d : Dg) (j : Nat) : (rndsW d j).length = d.crs.length := by
 induction j with
 | zero => exact iniW_len _ _
 | succ j ih => rw [rndsW, roundW_len, ih]
theorem endC_lt {d : Dg} (h : arcsB d = true) {k : Nat} (hk : k < 2 * d.crs.length) (b : Bool) : endC d k b < d.crs.length := (endD h (a := ((k + 1 : Nat) : Int)) (by omega) b).1
noncomputable def PiecesOf_n0 : Code := Try.f25.body.getD .skip
noncomputable def PiecesOf_n1 : Code := cL PiecesOf_n0
noncomputable def PiecesOf_n2 : Code := cR PiecesOf_n0
noncomputable def PiecesOf_n3 : Code := cL PiecesOf_n2
noncomputable def PiecesOf_n4 : Code := cR PiecesOf_n2
noncomputable def PiecesOf_n5 : Code := cL PiecesOf_n4
noncomputable def PiecesOf_n6 : Code := cR PiecesOf_n4
noncomputable def PiecesOf_n7 : Code := cL PiecesOf_n6
noncomputable def PiecesOf_n8 : Code := cR PiecesOf_n6
noncomputable def PiecesOf_n9 : Code := cL PiecesOf_n7
noncomputable def PiecesOf_n10 : Code := cR PiecesOf_n7
noncomputable def PiecesOf_n11 : Code := cL PiecesOf_n10
noncomputable def PiecesOf_n12 : Code := cL PiecesOf_n11
noncomputable def PiecesOf_n13 : Code := cL PiecesOf_n12
noncomputable def PiecesOf_n14 : Code := cR PiecesOf_n12
noncomputable def PiecesOf_n15 : Code := cL PiecesOf_n13
noncomputable def PiecesOf_n16 : Code := cR PiecesOf_n13
noncomputable def PiecesOf_n17 : Code := cL PiecesOf_n16
noncomputable def PiecesOf_n18 : Code := cR PiecesOf_n16
noncomputable def PiecesOf_n19 : Code := cL PiecesOf_n14
noncomputable def PiecesOf_n20 : Code := cR PiecesOf_n14
noncomputable def PiecesOf_n21 : Code := cL PiecesOf_n19
noncomputable def PiecesOf_n22 : Code := cL PiecesOf_n8
noncomputable def PiecesOf_n23 : Code := cR PiecesOf_n8
noncomputable def PiecesOf_n24 : Code := cL PiecesOf_n22
noncomputable def PiecesOf_n25 : Code := cR PiecesOf_n22
noncomputable def PiecesOf_n26 : Code := cL PiecesOf_n25
noncomputable def PiecesOf_n27 : Code := cL PiecesOf_n26
noncomputable def PiecesOf_n28 : Code := cL PiecesOf_n27
noncomputable def PiecesOf_n29 : Code := cR PiecesOf_n27
noncomputable def PiecesOf_n30 : Code := cL PiecesOf_n28
noncomputable def PiecesOf_n31 : Code := cR PiecesOf_n28
noncomputable def PiecesOf_n32 : Code := cL PiecesOf_n31
noncomputable def PiecesOf_n33 : Code := cR PiecesOf_n31
noncomputable def PiecesOf_n34 : Code := cL PiecesOf_n29
noncomputable def PiecesOf_n35 : Code := cR PiecesOf_n29
noncomputable def PiecesOf_n36 : Code := cL PiecesOf_n34
noncomputable def PiecesOf_n37 : Code := cL PiecesOf_n36
noncomputable def PiecesOf_n38 : Code := cR PiecesOf_n36
noncomputable def PiecesOf_n39 : Code := cL PiecesOf_n38
noncomputable def PiecesOf_n40 : Code := cL PiecesOf_n39
noncomputable def PiecesOf_n41 : Code := cL PiecesOf_n40
noncomputable def PiecesOf_n42 : Code := cR PiecesOf_n40
noncomputable def PiecesOf_n43 : Code := cL PiecesOf_n41
noncomputable def PiecesOf_n44 : Code := cR PiecesOf_n41
noncomputable def PiecesOf_n45 : Code := cL PiecesOf_n44
noncomputable def PiecesOf_n46 : Code := cR PiecesOf_n44
noncomputable def PiecesOf_n47 : Code := cL PiecesOf_n42
noncomputable def PiecesOf_n48 : Code := cR PiecesOf_n42
noncomputable def PiecesOf_n49 : Code := cL PiecesOf_n47
noncomputable def PiecesOf_n50 : Code := cL PiecesOf_n49
noncomputable def PiecesOf_n51 : Code := cR PiecesOf_n49
noncomputable def PiecesOf_n52 : Code := cL PiecesOf_n51
noncomputable def PiecesOf_n53 : Code := cR PiecesOf_n51
noncomputable def PiecesOf_n54 : Code := cL PiecesOf_n53
noncomputable def PiecesOf_n55 : Code := cR PiecesOf_n53
noncomputable def PiecesOf_n56 : Code := cL PiecesOf_n23
noncomputable def PiecesOf_n57 : Code := cR PiecesOf_n23
set_option maxHeartbeats 1000000 in
set_option maxRecDepth 10000 in
theorem PiecesOf_t {w : World} {M : Hp} {X : Fr} (d : Dg) {dcrsA : Option Addr} {dcrsc : Nat} (hdcrs : RdA cdCr (M.un X.h) dcrsA dcrsc d.crs) (hn : d.crs.length ≤ 16) (hab : arcsB d = true) (S : SH w M X []) : Ct Try.prog 25 [.agg [.slice dcrsA d.crs.length dcrsc, .int .i64 d.loops].toArray] w M X (fun u M => ∃ A c, u = .slice A (whoL d).length c ∧ RdA cdInt M A c (whoL d)) := by
 unfold Ct
 have rmhdcrs : d.crs.length * 40 ≤ 140737488355328 := hdcrs.room
 refine calls_in (b := PiecesOf_n0) Try.func25 rfl Try.ntmps25 rfl (fun C hC => (ws_sub [(0, _)] ⟨rfl, trivial⟩ (ws_seqN PiecesOf_n1 PiecesOf_n2 rfl rfl rfl (ws_region rfl (wlo 0 1 rfl rfl rfl (wo_box (l := [_, _]) rfl rfl rfl rfl rfl S ?_))))))
 intro gb1 w1 S1; clear S
 refine wla 1 2 rfl rfl rfl rfl rfl rfl rfl (wl_end rfl (nmk [1] rfl (nm_thn (ws_seqN PiecesOf_n3 PiecesOf_n4 rfl rfl rfl ?_))))
 refine ws_region rfl (wlo 0 1 rfl rfl rfl (wo_run rfl rfl (run_fieldAddr rfl rfl Try.underlying24 rfl (ce22) (nf22)) (wlo 1 2 rfl rfl rfl (wo_run rfl rfl (run_load1 rfl rfl Try.underlying22 rfl (S1.boxc (i := 0) rfl rfl)) (wlo 2 3 rfl rfl rfl (wo_run rfl rfl (run_len rfl rfl rfl rfl rfl rfl Try.underlying22) (wla 3 4 rfl rfl rfl rfl rfl rfl rfl ?_)))))))
 refine wl_end rfl (nmk [1, 3] rfl (nm_thn (ws_seqN PiecesOf_n5 PiecesOf_n6 rfl rfl rfl (ws_region rfl ?_))))
 refine wlm 0 1 rfl rfl rfl rfl rfl rfl rfl (wlo 1 2 rfl rfl rfl (wo_make (C := cdInt) d.crs.length rfl rfl rfl rfl rfl sl25 (by first | rfl | omega) (by show _ * 8 ≤ _; first | omega | (simp only [lens]; omega)) S1 ?_))
 intro vr1 w2 S2; clear S1
 refine wla 2 3 rfl rfl rfl rfl rfl rfl rfl (wl_end rfl (nmk [1, 3, 4] rfl (nm_thn (ws_seqN PiecesOf_n7 PiecesOf_n8 rfl rfl rfl ?_))))
 refine ws_seqN PiecesOf_n9 PiecesOf_n10 rfl rfl rfl (ws_region rfl (wla 0 1 rfl rfl rfl rfl rfl rfl rfl (wl_end rfl (nm_thn ?_))))
 refine ws_blockN PiecesOf_n11 0 rfl rfl rfl ?_
 refine ws_loopE (fun mx_ ax_ wx_ => ∃ (i : Nat) (ws : List Int) (vrw : Value), mx_ = d.crs.length - i ∧ Env 67 [(1, .pointer (some ⟨gb1, 0, none⟩)), (3, .int .i64 (d.crs.length : Int)), (4, vrw), (5, .int .i64 (i : Int))] ax_ ∧ SH wx_ M X [Rs.row cdInt vrw ws, Rs.box gb1 24 [.slice dcrsA d.crs.length dcrsc, .int .i64 d.loops]] ∧ i ≤ d.crs.length ∧ ws = iniW d.crs.length i) rfl ?_ ?_
 ·intro ax_ hax_
  refine ⟨_, ⟨0, _, _, rfl, hax_.sub ⟨rfl, rfl, rfl, rfl, trivial⟩, S2.pick [0, 1] [_, _] (by decide) ⟨rfl, rfl, trivial⟩, ?hq1f0, ?hq1f1⟩⟩
  case hq1f0 => omega
  case hq1f1 => rfl
 ·rintro m1 a1 w3 ⟨i, ws, vrw, rfl, he1, S3, hi, hw⟩
  clear S2
  refine ws_in he1 (c := PiecesOf_n12) rfl ?_
  clear he1 a1
  have hl1 : ws.length = d.crs.length := by rw [hw, iniW_len]
  refine ws_seqN PiecesOf_n13 PiecesOf_n14 rfl rfl rfl (ws_seqN PiecesOf_n15 PiecesOf_n16 rfl rfl rfl (ws_region rfl (wlm 0 1 rfl rfl rfl rfl rfl rfl rfl (wlm 1 2 rfl rfl rfl rfl rfl rfl rfl ?_))))
  refine wlo 2 3 rfl rfl rfl (wo_run rfl rfl (run_lss rfl rfl rfl) (wl_end rfl (nmk [1, 3, 4, 5, 17] rfl (nm_thn ?_))))
  refine ws_condN PiecesOf_n17 PiecesOf_n18 rfl rfl rfl rfl (fun hb17 => ?_) (fun hb17 => ?_)
  ·replace hb17 := of_decide_eq_true hb17
   refine ws_skip rfl (nmk [1, 3, 4, 5] rfl (nm_thn (ws_seqN PiecesOf_n19 PiecesOf_n20 rfl rfl rfl (ws_blockN PiecesOf_n21 1 rfl rfl rfl ?_))))
   refine ws_region rfl (wlm 0 1 rfl rfl rfl rfl rfl rfl rfl (wlm 1 2 rfl rfl rfl rfl rfl rfl rfl (wlm 2 3 rfl rfl rfl rfl rfl rfl rfl (wlo 3 4 rfl rfl rfl (wo_run rfl rfl (run_indexR (C := cdInt) (i := 0) i rfl rfl rfl sl25 S3 rfl (by first | rfl | omega) (by first | omega | (simp only [lens]; omega))) ?_)))))
   refine wlo 4 5 rfl rfl rfl (wo_storeR (C := cdInt) (i := 0) (e := i) (j := 0) (us := [_]) (H' := [_, _]) (i : Int) rfl rfl S3 rfl (by first | omega | (simp only [lens]; omega)) rfl rfl rfl sz3 rfl rfl rfl rfl ?_)
   intro w4 S4; clear S3
   refine wl_end rfl (nm_blk (nmk [1, 3, 4, 5] rfl (nm_thn (ws_region rfl ?_))))
   refine wlm 0 1 rfl rfl rfl rfl rfl rfl rfl (wlo 1 2 rfl rfl rfl (wo_run rfl rfl (run_add rfl rfl rfl (by first | omega | (simp only [lens]; omega))) ?_))
   refine wla 2 3 rfl rfl rfl rfl rfl rfl rfl (wl_end rfl (nm_lp ?_))
   intro ax_ hax_
   refine ⟨_, ?hq2m, ⟨i + 1, _, _, rfl, hax_.sub ⟨rfl, rfl, rfl, rfl, trivial⟩, S4.pick [0, 1] [_, _] (by decide) ⟨rfl, rfl, trivial⟩, ?hq2f0, ?hq2f1⟩⟩
   case hq2f0 => omega
   case hq2f1 => (rw [hw]; rfl)
   case hq2m => omega
  ·replace hb17 := of_decide_eq_false hb17
   refine ws_exit rfl rfl (nmk [1, 3, 4] rfl (nm_thn (ws_seqN PiecesOf_n22 PiecesOf_n23 rfl rfl rfl (ws_seqN PiecesOf_n24 PiecesOf_n25 rfl rfl rfl ?_))))
   refine ws_region rfl (wla 0 1 rfl rfl rfl rfl rfl rfl rfl (wl_end rfl (nm_thn (ws_blockN PiecesOf_n26 2 rfl rfl rfl ?_))))
   refine ws_loopE (fun mx_ ax_ wx_ => ∃ (j : Nat) (ws2 : List Int) (vrw2 : Value), mx_ = d.crs.length - j ∧ Env 67 [(1, .pointer (some ⟨gb1, 0, none⟩)), (3, .int .i64 (d.crs.length : Int)), (4, vrw2), (6, .int .i64 (j : Int))] ax_ ∧ SH wx_ M X [Rs.row cdInt vrw2 ws2, Rs.box gb1 24 [.slice dcrsA d.crs.length dcrsc, .int .i64 d.loops]] ∧ j ≤ d.crs.length ∧ ws2 = rndsW d j) rfl ?_ ?_
   ·intro ax_ hax_
    refine ⟨_, ⟨0, _, _, rfl, hax_.sub ⟨rfl, rfl, rfl, rfl, trivial⟩, S3.pick [0, 1] [_, _] (by decide) ⟨rfl, rfl, trivial⟩, ?hq3f0, ?hq3f1⟩⟩
    case hq3f0 => omega
    case hq3f1 => (obtain rfl : i = d.crs.length := (by omega); exact hw)
   ·rintro m2 a2 w5 ⟨j, ws2, vrw2, rfl, he2, S5, hj, hw2⟩
    clear S3
    refine ws_in he2 (c := PiecesOf_n27) rfl ?_
    clear he2 a2
    have hl2 : ws2.length = d.crs.length := by rw [hw2, rndsW_len]
    refine ws_seqN PiecesOf_n28 PiecesOf_n29 rfl rfl rfl (ws_seqN PiecesOf_n30 PiecesOf_n31 rfl rfl rfl (ws_region rfl (wlm 0 1 rfl rfl rfl rfl rfl rfl rfl (wlm 1 2 rfl rfl rfl rfl rfl rfl rfl ?_))))
    refine wlo 2 3 rfl rfl rfl (wo_run rfl rfl (run_lss rfl rfl rfl) (wl_end rfl (nmk [1, 3, 4, 6, 26] rfl (nm_thn ?_))))
    refine ws_condN PiecesOf_n32 PiecesOf_n33 rfl rfl rfl rfl (fun hb26 => ?_) (fun hb26 => ?_)
    ·replace hb26 := of_decide_eq_true hb26
     refine ws_skip rfl (nmk [1, 3, 4, 6] rfl (nm_thn (ws_seqN PiecesOf_n34 PiecesOf_n35 rfl rfl rfl (ws_blockN PiecesOf_n36 3 rfl rfl rfl ?_))))
     refine ws_seqN PiecesOf_n37 PiecesOf_n38 rfl rfl rfl (ws_region rfl (wla 0 1 rfl rfl rfl rfl rfl rfl rfl (wl_end rfl (nm_thn ?_))))
     refine ws_blockN PiecesOf_n39 4 rfl rfl rfl ?_
     refine ws_loopE (fun mx_ ax_ wx_ => ∃ (k : Nat) (ws3 : List Int) (vrw3 : Value), mx_ = 2 * d.crs.length - k ∧ Env 67 [(1, .pointer (some ⟨gb1, 0, none⟩)), (3, .int .i64 (d.crs.length : Int)), (4, vrw3), (6, .int .i64 (j : Int)), (7, .int .i64 ((k + 1 : Nat) : Int))] ax_ ∧ SH wx_ M X [Rs.row cdInt vrw3 ws3, Rs.box gb1 24 [.slice dcrsA d.crs.length dcrsc, .int .i64 d.loops]] ∧ k ≤ 2 * d.crs.length ∧ ws3 = roundW d ws2 k) rfl ?_ ?_
     ·intro ax_ hax_
      refine ⟨_, ⟨0, _, _, rfl, hax_.sub ⟨rfl, rfl, rfl, rfl, rfl, trivial⟩, S5.pick [0, 1] [_, _] (by decide) ⟨rfl, rfl, trivial⟩, ?hq4f0, ?hq4f1⟩⟩
      case hq4f0 => omega
      case hq4f1 => rfl
     ·rintro m3 a3 w6 ⟨k, ws3, vrw3, rfl, he3, S6, hk, hw3⟩
      clear S5
      refine ws_in he3 (c := PiecesOf_n40) rfl ?_
      clear he3 a3
      have hl3 : ws3.length = d.crs.length := by rw [hw3, roundW_len, hw2, rndsW_len]
      refine ws_seqN PiecesOf_n41 PiecesOf_n42 rfl rfl rfl (ws_seqN PiecesOf_n43 PiecesOf_n44 rfl rfl rfl (ws_region rfl (wlm 0 1 rfl rfl rfl rfl rfl rfl rfl (wlm 1 2 rfl rfl rfl rfl rfl rfl rfl ?_))))
      refine wlo 2 3 rfl rfl rfl (wo_run rfl rfl (run_mul rfl rfl rfl (by first | omega | (simp only [lens]; omega))) ?_)
      refine wlo 3 4 rfl rfl rfl (wo_run rfl rfl (run_leq rfl rfl rfl) (wl_end rfl (nmk [1, 3, 4, 6, 7, 32] rfl (nm_thn ?_))))
      refine ws_condN PiecesOf_n45 PiecesOf_n46 rfl rfl rfl rfl (fun hb32 => ?_) (fun hb32 => ?_)
      ·replace hb32 := of_decide_eq_true hb32
       have hx := endC_lt hab (k := k) (by omega) false
       have hy := endC_lt hab (k := k) (by omega) true
       refine ws_skip rfl (nmk [1, 3, 4, 6, 7] rfl (nm_thn (ws_seqN PiecesOf_n47 PiecesOf_n48 rfl rfl rfl (ws_blockN PiecesOf_n49 5 rfl rfl rfl ?_))))
       refine ws_seqN PiecesOf_n50 PiecesOf_n51 rfl rfl rfl (ws_draw rfl (by kernel_rfl) S6 10 rfl ?_)
       clear S6
       refine wat 0 9 rfl (by kernel_rfl) rfl rfl rfl (fun M1 N1 w7 hle4 S7 => .inl (run_loadN (us := [_, _]) rfl rfl Try.underlying24 rfl sz24 (S7.suf.boxcs (i := 1) rfl ⟨rfl, rfl, trivial⟩))) ?_
       refine wap 1 8 rfl (by kernel_rfl) rfl rfl rfl (fun w8 => run_move rfl rfl) ?_
       refine wat 2 7 rfl (by kernel_rfl) rfl rfl rfl (fun M3 N3 w9 hle6 S9 => yield_cq rfl rfl rfl rfl rfl cf39 S9 (EndOf_q d ((k + 1 : Nat) : Int) false ((hdcrs.mono (Hp.un_mono hle6 S9.mx)).mono S9.un_XH) S9.lend)) ?_
       refine wap 3 6 rfl (by kernel_rfl) rfl rfl rfl (fun w10 => run_field0 rfl rfl Try.underlying53 rfl Try.underlying3 rfl rfl) ?_
       refine wat 4 5 rfl (by kernel_rfl) rfl rfl rfl (fun M5 N5 w11 hle8 S11 => .inl (run_loadN (us := [_, _]) rfl rfl Try.underlying24 rfl sz24 (S11.suf.boxcs (i := 1) rfl ⟨rfl, rfl, trivial⟩))) ?_
       refine wap 5 4 rfl (by kernel_rfl) rfl rfl rfl (fun w12 => run_move rfl rfl) ?_
       refine wat 6 3 rfl (by kernel_rfl) rfl rfl rfl (fun M7 N7 w13 hle10 S13 => yield_cq rfl rfl rfl rfl rfl cf39 S13 (EndOf_q d ((k + 1 : Nat) : Int) true ((hdcrs.mono (Hp.un_mono hle10 S13.mx)).mono S13.un_XH) S13.lend)) ?_
       refine wap 7 2 rfl (by kernel_rfl) rfl rfl rfl (fun w14 => run_field0 rfl rfl Try.underlying53 rfl Try.underlying3 rfl rfl) ?_
       refine wap 8 1 rfl (by kernel_rfl) rfl rfl rfl (fun w15 => run_assign rfl rfl) ?_
       refine wap 9 0 rfl (by kernel_rfl) rfl rfl rfl (fun w16 => run_assign rfl rfl) ?_
       refine wa_end (by kernel_rfl) (fun w17 S17 => ?_)
       refine nmk [1, 3, 4, 6, 7, 8, 9] rfl (nm_thn (ws_seqN PiecesOf_n52 PiecesOf_n53 rfl rfl rfl (ws_eq 8 (.int .i64 ((endC d k false : Nat) : Int)) rfl (int_eq rfl) (ws_eq 9 (.int .i64 ((endC d k true : Nat) : Int)) rfl (int_eq rfl) ?_))))
       refine ws_draw rfl (by kernel_rfl) S17 9 rfl ?_
       clear S17
       refine wap 0 8 rfl (by kernel_rfl) rfl rfl rfl (fun w18 => run_move rfl rfl) ?_
       refine wap 1 7 rfl (by kernel_rfl) rfl rfl rfl (fun w19 => run_move rfl rfl) ?_
       refine wat 2 6 rfl (by kernel_rfl) rfl rfl rfl (fun M13 N13 w20 hle16 S20 => .inl (run_indexR (C := cdInt) (i := 0) (endC d k false) rfl rfl rfl sl25 S20.suf rfl (by first | rfl | omega) (by first | omega | (simp only [lens]; omega)))) ?_
       refine wat 3 5 rfl (by kernel_rfl) rfl rfl rfl (fun M14 N14 w21 hle17 S21 => .inl (run_load1 rfl rfl Try.underlying3 rfl (S21.suf.rowc (i := 0) (e := endC d k false) (j := 0) rfl (by first | omega | (simp only [lens]; omega)) rfl rfl))) ?_
       refine wap 4 4 rfl (by kernel_rfl) rfl rfl rfl (fun w22 => run_move rfl rfl) ?_
       refine wap 5 3 rfl (by kernel_rfl) rfl rfl rfl (fun w23 => run_move rfl rfl) ?_
       refine wat 6 2 rfl (by kernel_rfl) rfl rfl rfl (fun M17 N17 w24 hle20 S24 => .inl (run_indexR (C := cdInt) (i := 0) (endC d k true) rfl rfl rfl sl25 S24.suf rfl (by first | rfl | omega) (by first | omega | (simp only [lens]; omega)))) ?_
       refine wat 7 1 rfl (by kernel_rfl) rfl rfl rfl (fun M18 N18 w25 hle21 S25 => .inl (run_load1 rfl rfl Try.underlying3 rfl (S25.suf.rowc (i := 0) (e := endC d k true) (j := 0) rfl (by first | omega | (simp only [lens]; omega)) rfl rfl))) ?_
       refine wap 8 0 rfl (by kernel_rfl) rfl rfl rfl (fun w26 => run_lss rfl rfl rfl) ?_
       refine wa_end (by kernel_rfl) (fun w27 S27 => ?_)
       refine nmk [1, 3, 4, 6, 7, 8, 9, 51] rfl (nm_thn ?_)
       refine ws_condN PiecesOf_n54 PiecesOf_n55 rfl rfl rfl rfl (fun hb51 => ?_) (fun hb51 => ?_)
       ·replace hb51 := of_decide_eq_true hb51
        refine ws_region rfl (wlm 0 1 rfl rfl rfl rfl rfl rfl rfl (wlm 1 2 rfl rfl rfl rfl rfl rfl rfl (wlm 2 3 rfl rfl rfl rfl rfl rfl rfl (wlm 3 4 rfl rfl rfl rfl rfl rfl rfl ?_))))
        refine wlo 4 5 rfl rfl rfl (wo_run rfl rfl (run_indexR (C := cdInt) (i := 0) (endC d k false) rfl rfl rfl sl25 S27 rfl (by first | rfl | omega) (by first | omega | (simp only [lens]; omega))) ?_)
        refine wlo 5 6 rfl rfl rfl (wo_run rfl rfl (run_load1 rfl rfl Try.underlying3 rfl (S27.rowc (i := 0) (e := endC d k false) (j := 0) rfl (by first | omega | (simp only [lens]; omega)) rfl rfl)) ?_)
        refine wlo 6 7 rfl rfl rfl (wo_run rfl rfl (run_indexR (C := cdInt) (i := 0) (endC d k true) rfl rfl rfl sl25 S27 rfl (by first | rfl | omega) (by first | omega | (simp only [lens]; omega))) ?_)
        refine wlo 7 8 rfl rfl rfl (wo_storeR (C := cdInt) (i := 0) (e := endC d k true) (j := 0) (us := [_]) (H' := [_, _]) (ga ws3 (endC d k false)) rfl rfl S27 rfl (by first | omega | (simp only [lens]; omega)) rfl rfl rfl sz3 rfl rfl rfl rfl ?_)
        intro w28 S28; clear S27
        refine wl_end rfl (nm_blk (nmk [1, 3, 4, 6, 7] rfl (nm_thn (ws_region rfl ?_))))
        refine wlm 0 1 rfl rfl rfl rfl rfl rfl rfl (wlo 1 2 rfl rfl rfl (wo_run rfl rfl (run_add rfl rfl rfl (by first | omega | (simp only [lens]; omega))) ?_))
        refine wla 2 3 rfl rfl rfl rfl rfl rfl rfl (wl_end rfl (nm_lp ?_))
        intro ax_ hax_
        refine ⟨_, ?hq5m, ⟨k + 1, _, _, rfl, hax_.sub ⟨rfl, rfl, rfl, rfl, rfl, trivial⟩, S28.pick [0, 1] [_, _] (by decide) ⟨rfl, rfl, trivial⟩, ?hq5f0, ?hq5f1⟩⟩
        case hq5f0 => omega
        case hq5f1 => (show _ = stepW _ _ _; rw [← hw3]; unfold stepW; first | rw [if_pos (by omega)] | rw [if_neg (by omega)])
        case hq5m => omega
       ·replace hb51 := of_decide_eq_false hb51
        refine ws_region rfl (wlm 0 1 rfl rfl rfl rfl rfl rfl rfl (wlm 1 2 rfl rfl rfl rfl rfl rfl rfl (wlm 2 3 rfl rfl rfl rfl rfl rfl rfl (wlm 3 4 rfl rfl rfl rfl rfl rfl rfl ?_))))
        refine wlo 4 5 rfl rfl rfl (wo_run rfl rfl (run_indexR (C := cdInt) (i := 0) (endC d k true) rfl rfl rfl sl25 S27 rfl (by first | rfl | omega) (by first | omega | (simp only [lens]; omega))) ?_)
        refine wlo 5 6 rfl rfl rfl (wo_run rfl rfl (run_load1 rfl rfl Try.underlying3 rfl (S27.rowc (i := 0) (e := endC d k true) (j := 0) rfl (by first | omega | (simp only [lens]; omega)) rfl rfl)) ?_)
        refine wlo 6 7 rfl rfl rfl (wo_run rfl rfl (run_indexR (C := cdInt) (i := 0) (endC d k false) rfl rfl rfl sl25 S27 rfl (by first | rfl | omega) (by first | omega | (simp only [lens]; omega))) ?_)
        refine wlo 7 8 rfl rfl rfl (wo_storeR (C := cdInt) (i := 0) (e := endC d k false) (j := 0) (us := [_]) (H' := [_, _]) (ga ws3 (endC d k true)) rfl rfl S27 rfl (by first | omega | (simp only [lens]; omega)) rfl rfl rfl sz3 rfl rfl rfl rfl ?_)
        intro w29 S29; clear S27
        refine wl_end rfl (nm_blk (nmk [1, 3, 4, 6, 7] rfl (nm_thn (ws_region rfl ?_))))
        refine wlm 0 1 rfl rfl rfl rfl rfl rfl rfl (wlo 1 2 rfl rfl rfl (wo_run rfl rfl (run_add rfl rfl rfl (by first | omega | (simp only [lens]; omega))) ?_))
        refine wla 2 3 rfl rfl rfl rfl rfl rfl rfl (wl_end rfl (nm_lp ?_))
        intro ax_ hax_
        refine ⟨_, ?hq6m, ⟨k + 1, _, _, rfl, hax_.sub ⟨rfl, rfl, rfl, rfl, rfl, trivial⟩, S29.pick [0, 1] [_, _] (by decide) ⟨rfl, rfl, trivial⟩, ?hq6f0, ?hq6f1⟩⟩
        case hq6f0 => omega
        case hq6f1 => (show _ = stepW _ _ _; rw [← hw3]; unfold stepW; first | rw [if_pos (by omega)] | rw [if_neg (by omega)])
        case hq6m => omega
      ·replace hb32 := of_decide_eq_false hb32
       refine ws_exit rfl rfl (nm_blk (nmk [1, 3, 4, 6] rfl (nm_thn (ws_region rfl ?_))))
       refine wlm 0 1 rfl rfl rfl rfl rfl rfl rfl (wlo 1 2 rfl rfl rfl (wo_run rfl rfl (run_add rfl rfl rfl (by first | omega | (simp only [lens]; omega))) ?_))
       refine wla 2 3 rfl rfl rfl rfl rfl rfl rfl (wl_end rfl (nm_lp ?_))
       intro ax_ hax_
       refine ⟨_, ?hq7m, ⟨j + 1, _, _, rfl, hax_.sub ⟨rfl, rfl, rfl, rfl, trivial⟩, S6.pick [0, 1] [_, _] (by decide) ⟨rfl, rfl, trivial⟩, ?hq7f0, ?hq7f1⟩⟩
       case hq7f0 => omega
       case hq7f1 => (obtain rfl : k = 2 * d.crs.length := (by omega); rw [hw3, hw2]; rfl)
       case hq7m => omega
    ·replace hb26 := of_decide_eq_false hb26
     refine ws_exit rfl rfl (nmk [4] rfl (nm_thn (ws_seqN PiecesOf_n56 PiecesOf_n57 rfl rfl rfl (ws_region rfl ?_))))
     refine wlm 0 1 rfl rfl rfl rfl rfl rfl rfl (wla 1 2 rfl rfl rfl rfl rfl rfl rfl (wl_end rfl (nmk [2] rfl (nm_thn ?_))))
     obtain ⟨M20, hle23, S30, ⟨A1, c1, e1, hr1⟩⟩ := S5.pubrow (i := 0) (H' := [_, _]) rfl rfl (by show _ * 8 ≤ _; first | omega | (simp only [lens]; omega))
     clear S5; subst e1
     replace hdcrs := hdcrs.mono (Hp.un_mono hle23 S30.mx)
     refine ws_ret hC [_] rfl rfl ⟨rfl, trivial⟩ ?_
     refine ⟨_, rfl, _, hle23, (S30.pick [] [] (by decide) trivial), ?_⟩
     obtain rfl : j = d.crs.length := by omega
     subst hw2
     exact ⟨_, _, rfl, hr1⟩
end Go.Proofs.Ythppkofceancjaa
namespace Go.Proofs.Ythppkofceancjaa
open Go.ChangeShapes Go.WideShapes Go.ChangeAt Go.RowKit
theorem ringF_pre (nx : Nat → Nat) (seen : List Bool) (x : Nat) (acc : List Int) : ∃ t, (ringF nx seen x acc).2 = acc ++ t := by
 induction hk : free seen using Nat.strongRecOn generalizing seen x acc with
 | _ k ih =>
  by_cases h : x < seen.length ∧ ga seen x = false
  ·rw [ringF_go h.1 h.2]
   have := free_set h.1 h.2
   obtain ⟨t, ht⟩ := ih (free (seen.set x true)) (by omega) (seen.set x true) (nx x) (acc ++ [(x : Int)]) rfl
   exact ⟨(x : Int) :: t, by rw [ht]; simp⟩
  ·refine ⟨[], ?_⟩
   rw [ringF]
   simp [h]
theorem facesN_head (d : Dg) (k : Nat) (hk : k ≤ 4 * d.crs.length) : ∀ r ∈ (facesN d k).2, ∃ (c : Nat) (t : List Int), r = (c : Int) :: t ∧ 2 ≤ c ∧ c < 4 * d.crs.length + 2 := by
 induction k with
 | zero => intro r hr; simp [facesN] at hr
 | succ k ih =>
  by_cases hg : ga (facesN d k).1 (k + 2) = true
  ·rw [facesN_skip rfl hg]; exact ih (by omega)
  ·rw [facesN_ring rfl (by simpa using hg) rfl]
   intro r hr
   rcases List.mem_append.1 hr with hr | hr
   ·exact ih (by omega) r hr
   ·rw [List.mem_singleton] at hr
    subst hr
    have hl := facesN_len d k
    rw [ringF_go (by omega) (by simpa using hg)]
    obtain ⟨t, ht⟩ := ringF_pre (nxC d) ((facesN d k).1.set (k + 2) true) (nxC d (k + 2)) ([] ++ [((k + 2 : Nat) : Int)])
    exact ⟨k + 2, t, by rw [ht]; rfl, by omega, by omega⟩
def hd0 (d : Dg) (k : Nat) : Da := ga (ga (facesL d) k) 0
theorem hd0_ok {d : Dg} {k : Nat} (hk : k < (facesL d).length) : 0 < (ga (facesL d) k).length ∧ okD d (hd0 d k) := by
 have hm : ga (facesL d) k ∈ facesL d := by rw [ga_eq hk]; exact List.getElem_mem hk
 unfold facesL facesD at hm
 rw [List.mem_map] at hm
 obtain ⟨r, hr, e⟩ := hm
 obtain ⟨c, t, rfl, h1, h2⟩ := facesN_head d _ (Nat.le_refl _) r hr
 have e' : ga (facesL d) k = dA c :: dasL t := e.symm
 refine ⟨by rw [e']; simp, ?_⟩
 unfold hd0
 rw [e']
 exact dA_ok ⟨h1, h2⟩
/-- The crossing at which the first dart of a face ends. -/
def fcC (d : Dg) (k : Nat) : Nat := (endOf d (hd0 d k).a (hd0 d k).b).1
theorem fcC_lt {d : Dg} (h : arcsB d = true) {k : Nat} (hk : k < (facesL d).length) : fcC d k < d.crs.length := (endD h (hd0_ok hk).2 (hd0 d k).b).1
def negW (ws : List Int) (p : Int) : Nat → Int
 | 0 => 0
 | k + 1 => if ga ws k = p then negW ws p k - 1 else negW ws p k
def facW (d : Dg) (ws : List Int) (p : Int) (m : Int) : Nat → Int
 | 0 => m
 | k + 1 => if ga ws (fcC d k) = p then facW d ws p m k + 1 else facW d ws p m k
def rootOk (d : Dg) (p : Nat) : Bool := decide (ga (whoL d) p ≠ (p : Int)) || decide (facW d (whoL d) p (negW (whoL d) p d.crs.length) (facesL d).length = 2)
def planIs (d : Dg) : Bool := (List.range d.crs.length).all (rootOk d)
theorem planIs_t {d : Dg} (h : ∀ p, p < d.crs.length → rootOk d p = true) : planIs d = true := by
 unfold planIs
 rw [List.all_eq_true]
 intro p hp
 exact h p (List.mem_range.1 hp)
theorem planIs_f {d : Dg} {p : Nat} (hp : p < d.crs.length) (h : rootOk d p = false) : planIs d = false := by
 unfold planIs
 rw [List.all_eq_false]
 exact ⟨p, List.mem_range.2 hp, by rw [h]; decide⟩
theorem negW_bd (ws : List Int) (p : Int) (k : Nat) : -(k : Int) ≤ negW ws p k ∧ negW ws p k ≤ 0 := by
 induction k with
 | zero => simp [negW]
 | succ k ih => rw [negW]; split <;> omega
theorem facW_bd (d : Dg) (ws : List Int) (p m : Int) (k : Nat) : m ≤ facW d ws p m k ∧ facW d ws p m k ≤ m + k := by
 induction k with
 | zero => simp [facW]
 | succ k ih => rw [facW]; split <;> omega
theorem facesL_many (d : Dg) : (facesL d).length ≤ 4 * d.crs.length := by
 unfold facesL facesD
 rw [List.length_map]
 exact facesN_many d _
noncomputable def PlanarIs_n0 : Code := Try.f24.body.getD .skip
noncomputable def PlanarIs_n1 : Code := cL PlanarIs_n0
noncomputable def PlanarIs_n2 : Code := cR PlanarIs_n0
noncomputable def PlanarIs_n3 : Code := cL PlanarIs_n2
noncomputable def PlanarIs_n4 : Code := cR PlanarIs_n2
noncomputable def PlanarIs_n5 : Code := cL PlanarIs_n4
noncomputable def PlanarIs_n6 : Code := cR PlanarIs_n4
noncomputable def PlanarIs_n7 : Code := cL PlanarIs_n6
noncomputable def PlanarIs_n8 : Code := cR PlanarIs_n6
noncomputable def PlanarIs_n9 : Code := cL PlanarIs_n7
noncomputable def PlanarIs_n10 : Code := cR PlanarIs_n7
noncomputable def PlanarIs_n11 : Code := cL PlanarIs_n10
noncomputable def PlanarIs_n12 : Code := cL PlanarIs_n11
noncomputable def PlanarIs_n13 : Code := cL PlanarIs_n12
noncomputable def PlanarIs_n14 : Code := cR PlanarIs_n12
noncomputable def PlanarIs_n15 : Code := cL PlanarIs_n13
noncomputable def PlanarIs_n16 : Code := cR PlanarIs_n13
noncomputable def PlanarIs_n17 : Code := cL PlanarIs_n16
noncomputable def PlanarIs_n18 : Code := cR PlanarIs_n16
noncomputable def PlanarIs_n19 : Code := cL PlanarIs_n14
noncomputable def PlanarIs_n20 : Code := cR PlanarIs_n14
noncomputable def PlanarIs_n21 : Code := cL PlanarIs_n19
noncomputable def PlanarIs_n22 : Code := cL PlanarIs_n21
noncomputable def PlanarIs_n23 : Code := cR PlanarIs_n21
noncomputable def PlanarIs_n24 : Code := cL PlanarIs_n22
noncomputable def PlanarIs_n25 : Code := cR PlanarIs_n22
noncomputable def PlanarIs_n26 : Code := cL PlanarIs_n25
noncomputable def PlanarIs_n27 : Code := cR PlanarIs_n25
noncomputable def PlanarIs_n28 : Code := cL PlanarIs_n23
noncomputable def PlanarIs_n29 : Code := cR PlanarIs_n23
noncomputable def PlanarIs_n30 : Code := cL PlanarIs_n29
noncomputable def PlanarIs_n31 : Code := cR PlanarIs_n29
noncomputable def PlanarIs_n32 : Code := cL PlanarIs_n30
noncomputable def PlanarIs_n33 : Code := cR PlanarIs_n30
noncomputable def PlanarIs_n34 : Code := cL PlanarIs_n33
noncomputable def PlanarIs_n35 : Code := cL PlanarIs_n34
noncomputable def PlanarIs_n36 : Code := cL PlanarIs_n35
noncomputable def PlanarIs_n37 : Code := cR PlanarIs_n35
noncomputable def PlanarIs_n38 : Code := cL PlanarIs_n36
noncomputable def PlanarIs_n39 : Code := cR PlanarIs_n36
noncomputable def PlanarIs_n40 : Code := cL PlanarIs_n39
noncomputable def PlanarIs_n41 : Code := cR PlanarIs_n39
noncomputable def PlanarIs_n42 : Code := cL PlanarIs_n37
noncomputable def PlanarIs_n43 : Code := cR PlanarIs_n37
noncomputable def PlanarIs_n44 : Code := cL PlanarIs_n42
noncomputable def PlanarIs_n45 : Code := cL PlanarIs_n44
noncomputable def PlanarIs_n46 : Code := cR PlanarIs_n44
noncomputable def PlanarIs_n47 : Code := cL PlanarIs_n46
noncomputable def PlanarIs_n48 : Code := cR PlanarIs_n46
noncomputable def PlanarIs_n49 : Code := cL PlanarIs_n31
noncomputable def PlanarIs_n50 : Code := cR PlanarIs_n31
noncomputable def PlanarIs_n51 : Code := cL PlanarIs_n49
noncomputable def PlanarIs_n52 : Code := cR PlanarIs_n49
noncomputable def PlanarIs_n53 : Code := cL PlanarIs_n52
noncomputable def PlanarIs_n54 : Code := cL PlanarIs_n53
noncomputable def PlanarIs_n55 : Code := cL PlanarIs_n54
noncomputable def PlanarIs_n56 : Code := cR PlanarIs_n54
noncomputable def PlanarIs_n57 : Code := cL PlanarIs_n55
noncomputable def PlanarIs_n58 : Code := cR PlanarIs_n55
noncomputable def PlanarIs_n59 : Code := cL PlanarIs_n58
noncomputable def PlanarIs_n60 : Code := cR PlanarIs_n58
noncomputable def PlanarIs_n61 : Code := cL PlanarIs_n56
noncomputable def PlanarIs_n62 : Code := cR PlanarIs_n56
noncomputable def PlanarIs_n63 : Code := cL PlanarIs_n61
noncomputable def PlanarIs_n64 : Code := cL PlanarIs_n63
noncomputable def PlanarIs_n65 : Code := cR PlanarIs_n63
noncomputable def PlanarIs_n66 : Code := cL PlanarIs_n65
noncomputable def PlanarIs_n67 : Code := cR PlanarIs_n65
noncomputable def PlanarIs_n68 : Code := cL PlanarIs_n50
noncomputable def PlanarIs_n69 : Code := cR PlanarIs_n50
noncomputable def PlanarIs_n70 : Code := cL PlanarIs_n69
noncomputable def PlanarIs_n71 : Code := cR PlanarIs_n69
noncomputable def PlanarIs_n72 : Code := cL PlanarIs_n70
noncomputable def PlanarIs_n73 : Code := cR PlanarIs_n70
noncomputable def PlanarIs_n74 : Code := cL PlanarIs_n8
noncomputable def PlanarIs_n75 : Code := cR PlanarIs_n8
set_option maxHeartbeats 1000000 in
set_option maxRecDepth 10000 in
theorem PlanarIs_t {w : World} {M : Hp} {X : Fr} (d : Dg) {dcrsA : Option Addr} {dcrsc : Nat} (hdcrs : RdA cdCr (M.un X.h) dcrsA dcrsc d.crs) (hn : d.crs.length ≤ 16) (hab : arcsB d = true) (S : SH w M X []) : Ct Try.prog 24 [.agg [.slice dcrsA d.crs.length dcrsc, .int .i64 d.loops].toArray] w M X (fun u _ => u = .bool (planIs d)) := by
 unfold Ct
 have rmhdcrs : d.crs.length * 40 ≤ 140737488355328 := hdcrs.room
 refine calls_in (b := PlanarIs_n0) Try.func24 rfl Try.ntmps24 rfl (fun C hC => (ws_sub [(0, _)] ⟨rfl, trivial⟩ (ws_seqN PlanarIs_n1 PlanarIs_n2 rfl rfl rfl (ws_region rfl (wlo 0 1 rfl rfl rfl (wo_box (l := [_, _]) rfl rfl rfl rfl rfl S ?_))))))
 intro gb1 w1 S1; clear S
 refine wla 1 2 rfl rfl rfl rfl rfl rfl rfl (wl_end rfl (nmk [1] rfl (nm_thn (ws_seqN PlanarIs_n3 PlanarIs_n4 rfl rfl rfl ?_))))
 refine ws_region rfl (wlo 0 1 rfl rfl rfl (wo_run rfl rfl (run_loadN (us := [_, _]) rfl rfl Try.underlying24 rfl sz24 (S1.boxcs (i := 0) rfl ⟨rfl, rfl, trivial⟩)) (wlo 1 2 rfl rfl rfl (wo_ct rfl rfl rfl rfl rfl rfl rfl cf25 S1 (PiecesOf_t d (hdcrs.mono S1.un_XH) (hn) (hab) S1.lend) ?_))))
 intro vw2 w2 M1 hle1 S2 hRw2; clear S1
 replace hdcrs := hdcrs.mono (Hp.un_mono hle1 S2.mx)
 obtain ⟨A1, c1, rfl, hr1⟩ := hRw2
 refine wla 2 3 rfl rfl rfl rfl rfl rfl rfl (wl_end rfl (nmk [1, 3] rfl (nm_thn (ws_seqN PlanarIs_n5 PlanarIs_n6 rfl rfl rfl ?_))))
 refine ws_region rfl (wlo 0 1 rfl rfl rfl (wo_run rfl rfl (run_loadN (us := [_, _]) rfl rfl Try.underlying24 rfl sz24 (S2.boxcs (i := 0) rfl ⟨rfl, rfl, trivial⟩)) (wlo 1 2 rfl rfl rfl (wo_ct rfl rfl rfl rfl rfl rfl rfl cf16 S2 (FacesOf_t d (hdcrs.mono S2.un_XH) (hn) (hab) S2.lend) ?_))))
 intro vw3 w3 M2 hle2 S3 hRw3; clear S2
 replace hdcrs := hdcrs.mono (Hp.un_mono hle2 S3.mx)
 replace hr1 := hr1.mono hle2
 obtain ⟨A2, c2, vs1, rfl, hr2, hd1⟩ := hRw3
 have hfl := hd1.1
 refine wla 2 3 rfl rfl rfl rfl rfl rfl rfl (wl_end rfl (nmk [1, 3, 4] rfl (nm_thn (ws_seqN PlanarIs_n7 PlanarIs_n8 rfl rfl rfl ?_))))
 refine ws_seqN PlanarIs_n9 PlanarIs_n10 rfl rfl rfl (ws_region rfl (wla 0 1 rfl rfl rfl rfl rfl rfl rfl (wl_end rfl (nm_thn ?_))))
 refine ws_blockN PlanarIs_n11 0 rfl rfl rfl ?_
 refine ws_loopE (fun mx_ ax_ wx_ => ∃ (p : Nat), mx_ = d.crs.length - p ∧ Env 71 [(1, .pointer (some ⟨gb1, 0, none⟩)), (3, .slice A1 (whoL d).length c1), (4, .slice A2 vs1.length c2), (5, .int .i64 (p : Int))] ax_ ∧ SH wx_ M2 X [Rs.box gb1 24 [.slice dcrsA d.crs.length dcrsc, .int .i64 d.loops]] ∧ p ≤ d.crs.length ∧ (∀ q, q < p → rootOk d q = true)) rfl ?_ ?_
 ·intro ax_ hax_
  refine ⟨_, ⟨0, rfl, hax_.sub ⟨rfl, rfl, rfl, rfl, trivial⟩, S3.pick [0] [_] (by decide) ⟨rfl, trivial⟩, ?hq1f0, ?hq1f1⟩⟩
  case hq1f0 => omega
  case hq1f1 => (intro q hq; omega)
 ·rintro m1 a1 w4 ⟨p, rfl, he1, S4, hp, hall⟩
  clear S3
  refine ws_in he1 (c := PlanarIs_n12) rfl ?_
  clear he1 a1
  have hwl := rndsW_len d d.crs.length
  replace hwl : (whoL d).length = d.crs.length := hwl
  have hfm := facesL_many d
  refine ws_seqN PlanarIs_n13 PlanarIs_n14 rfl rfl rfl (ws_seqN PlanarIs_n15 PlanarIs_n16 rfl rfl rfl (ws_region rfl (wlm 0 1 rfl rfl rfl rfl rfl rfl rfl (wlm 1 2 rfl rfl rfl rfl rfl rfl rfl ?_))))
  refine wlo 2 3 rfl rfl rfl (wo_run rfl rfl (run_len rfl rfl rfl rfl rfl rfl Try.underlying25) (wlo 3 4 rfl rfl rfl (wo_run rfl rfl (run_lss rfl rfl rfl) (wl_end rfl (nmk [1, 3, 4, 5, 16] rfl (nm_thn ?_))))))
  refine ws_condN PlanarIs_n17 PlanarIs_n18 rfl rfl rfl rfl (fun hb16 => ?_) (fun hb16 => ?_)
  ·replace hb16 := of_decide_eq_true hb16
   refine ws_skip rfl (nmk [1, 3, 4, 5] rfl (nm_thn (ws_seqN PlanarIs_n19 PlanarIs_n20 rfl rfl rfl (ws_blockN PlanarIs_n21 1 rfl rfl rfl ?_))))
   refine ws_seqN PlanarIs_n22 PlanarIs_n23 rfl rfl rfl (ws_seqN PlanarIs_n24 PlanarIs_n25 rfl rfl rfl (ws_region rfl (wlm 0 1 rfl rfl rfl rfl rfl rfl rfl (wlm 1 2 rfl rfl rfl rfl rfl rfl rfl ?_))))
   refine wlo 2 3 rfl rfl rfl (wo_run rfl rfl (run_indexM (C := cdInt) p rfl rfl rfl sl25 (by first | rfl | omega) hr1 (by first | omega | (simp only [lens]; omega))) ?_)
   refine wlo 3 4 rfl rfl rfl (wo_run rfl rfl (run_load1 rfl rfl Try.underlying3 rfl (hr1.cell S4.m (i := p) (by first | omega | (simp only [lens]; omega)) 0 rfl rfl)) ?_)
   refine wlm 4 5 rfl rfl rfl rfl rfl rfl rfl (wlo 5 6 rfl rfl rfl (wo_run rfl rfl (run_neq rfl rfl rfl) (wl_end rfl (nmk [1, 3, 4, 5, 24] rfl (nm_thn ?_)))))
   refine ws_condN PlanarIs_n26 PlanarIs_n27 rfl rfl rfl rfl (fun hb24 => ?_) (fun hb24 => ?_)
   ·replace hb24 := of_decide_eq_true hb24
    refine ws_exit rfl rfl (nmk [1, 3, 4, 5] rfl (nm_thn (ws_region rfl (wlm 0 1 rfl rfl rfl rfl rfl rfl rfl ?_))))
    refine wlo 1 2 rfl rfl rfl (wo_run rfl rfl (run_add rfl rfl rfl (by first | omega | (simp only [lens]; omega))) ?_)
    refine wla 2 3 rfl rfl rfl rfl rfl rfl rfl (wl_end rfl (nm_lp ?_))
    intro ax_ hax_
    refine ⟨_, ?hq2m, ⟨p + 1, rfl, hax_.sub ⟨rfl, rfl, rfl, rfl, trivial⟩, S4.pick [0] [_] (by decide) ⟨rfl, trivial⟩, ?hq2f0, ?hq2f1⟩⟩
    case hq2f0 => omega
    case hq2f1 => (intro q hq; by_cases h : q = p; (subst h; unfold rootOk; rw [Bool.or_eq_true]; first | (left; exact decide_eq_true (by omega)) | (right; exact decide_eq_true (by omega))); exact hall q (by omega))
    case hq2m => omega
   ·replace hb24 := of_decide_eq_false hb24
    refine ws_skip rfl (nmk [1, 3, 4, 5] rfl (nm_thn (ws_seqN PlanarIs_n28 PlanarIs_n29 rfl rfl rfl (ws_region rfl ?_))))
    refine wla 0 1 rfl rfl rfl rfl rfl rfl rfl (wl_end rfl (nm_thn (ws_seqN PlanarIs_n30 PlanarIs_n31 rfl rfl rfl (ws_seqN PlanarIs_n32 PlanarIs_n33 rfl rfl rfl ?_))))
    refine ws_region rfl (wla 0 1 rfl rfl rfl rfl rfl rfl rfl (wl_end rfl (nm_thn (ws_blockN PlanarIs_n34 2 rfl rfl rfl ?_))))
    refine ws_loopE (fun mx_ ax_ wx_ => ∃ (i : Nat) (m : Int), mx_ = d.crs.length - i ∧ Env 71 [(1, .pointer (some ⟨gb1, 0, none⟩)), (3, .slice A1 (whoL d).length c1), (4, .slice A2 vs1.length c2), (5, .int .i64 (p : Int)), (6, .int .i64 m), (7, .int .i64 (i : Int))] ax_ ∧ SH wx_ M2 X [Rs.box gb1 24 [.slice dcrsA d.crs.length dcrsc, .int .i64 d.loops]] ∧ i ≤ d.crs.length ∧ m = negW (whoL d) p i) rfl ?_ ?_
    ·intro ax_ hax_
     refine ⟨_, ⟨0, _, rfl, hax_.sub ⟨rfl, rfl, rfl, rfl, rfl, rfl, trivial⟩, S4.pick [0] [_] (by decide) ⟨rfl, trivial⟩, ?hq3f0, ?hq3f1⟩⟩
     case hq3f0 => omega
     case hq3f1 => rfl
    ·rintro m2 a2 w5 ⟨i, m, rfl, he2, S5, hi, hm⟩
     clear S4
     refine ws_in he2 (c := PlanarIs_n35) rfl ?_
     clear he2 a2
     have hnb := negW_bd (whoL d) p i
     refine ws_seqN PlanarIs_n36 PlanarIs_n37 rfl rfl rfl (ws_seqN PlanarIs_n38 PlanarIs_n39 rfl rfl rfl (ws_region rfl (wlm 0 1 rfl rfl rfl rfl rfl rfl rfl (wlm 1 2 rfl rfl rfl rfl rfl rfl rfl ?_))))
     refine wlo 2 3 rfl rfl rfl (wo_run rfl rfl (run_len rfl rfl rfl rfl rfl rfl Try.underlying25) (wlo 3 4 rfl rfl rfl (wo_run rfl rfl (run_lss rfl rfl rfl) (wl_end rfl (nmk [1, 3, 4, 5, 6, 7, 28] rfl (nm_thn ?_))))))
     refine ws_condN PlanarIs_n40 PlanarIs_n41 rfl rfl rfl rfl (fun hb28 => ?_) (fun hb28 => ?_)
     ·replace hb28 := of_decide_eq_true hb28
      refine ws_skip rfl (nmk [1, 3, 4, 5, 6, 7] rfl (nm_thn (ws_seqN PlanarIs_n42 PlanarIs_n43 rfl rfl rfl (ws_blockN PlanarIs_n44 3 rfl rfl rfl ?_))))
      refine ws_seqN PlanarIs_n45 PlanarIs_n46 rfl rfl rfl (ws_region rfl (wlm 0 1 rfl rfl rfl rfl rfl rfl rfl (wlm 1 2 rfl rfl rfl rfl rfl rfl rfl (wlo 2 3 rfl rfl rfl (wo_run rfl rfl (run_indexM (C := cdInt) i rfl rfl rfl sl25 (by first | rfl | omega) hr1 (by first | omega | (simp only [lens]; omega))) ?_)))))
      refine wlo 3 4 rfl rfl rfl (wo_run rfl rfl (run_load1 rfl rfl Try.underlying3 rfl (hr1.cell S5.m (i := i) (by first | omega | (simp only [lens]; omega)) 0 rfl rfl)) ?_)
      refine wlm 4 5 rfl rfl rfl rfl rfl rfl rfl (wlo 5 6 rfl rfl rfl (wo_run rfl rfl (run_eql rfl rfl rfl) (wl_end rfl (nmk [1, 3, 4, 5, 6, 7, 36] rfl (nm_thn ?_)))))
      refine ws_condN PlanarIs_n47 PlanarIs_n48 rfl rfl rfl rfl (fun hb36 => ?_) (fun hb36 => ?_)
      ·replace hb36 := of_decide_eq_true hb36
       refine ws_region rfl (wlm 0 1 rfl rfl rfl rfl rfl rfl rfl (wlo 1 2 rfl rfl rfl (wo_run rfl rfl (run_sub rfl rfl rfl (by first | omega | (simp only [lens]; omega))) ?_)))
       refine wla 2 3 rfl rfl rfl rfl rfl rfl rfl (wl_end rfl (nm_blk (nmk [1, 3, 4, 5, 6, 7] rfl (nm_thn ?_))))
       refine ws_region rfl (wlm 0 1 rfl rfl rfl rfl rfl rfl rfl (wlo 1 2 rfl rfl rfl (wo_run rfl rfl (run_add rfl rfl rfl (by first | omega | (simp only [lens]; omega))) ?_)))
       refine wla 2 3 rfl rfl rfl rfl rfl rfl rfl (wl_end rfl (nm_lp ?_))
       intro ax_ hax_
       refine ⟨_, ?hq4m, ⟨i + 1, _, rfl, hax_.sub ⟨rfl, rfl, rfl, rfl, rfl, rfl, trivial⟩, S5.pick [0] [_] (by decide) ⟨rfl, trivial⟩, ?hq4f0, ?hq4f1⟩⟩
       case hq4f0 => omega
       case hq4f1 => (rw [negW, hm]; first | rw [if_pos (by omega)] | rw [if_neg (by omega)])
       case hq4m => omega
      ·replace hb36 := of_decide_eq_false hb36
       refine ws_skip rfl (nm_blk (nmk [1, 3, 4, 5, 6, 7] rfl (nm_thn (ws_region rfl ?_))))
       refine wlm 0 1 rfl rfl rfl rfl rfl rfl rfl (wlo 1 2 rfl rfl rfl (wo_run rfl rfl (run_add rfl rfl rfl (by first | omega | (simp only [lens]; omega))) ?_))
       refine wla 2 3 rfl rfl rfl rfl rfl rfl rfl (wl_end rfl (nm_lp ?_))
       intro ax_ hax_
       refine ⟨_, ?hq5m, ⟨i + 1, _, rfl, hax_.sub ⟨rfl, rfl, rfl, rfl, rfl, rfl, trivial⟩, S5.pick [0] [_] (by decide) ⟨rfl, trivial⟩, ?hq5f0, ?hq5f1⟩⟩
       case hq5f0 => omega
       case hq5f1 => (rw [negW, hm]; first | rw [if_pos (by omega)] | rw [if_neg (by omega)])
       case hq5m => omega
     ·replace hb28 := of_decide_eq_false hb28
      refine ws_exit rfl rfl (nmk [1, 3, 4, 5, 6] rfl (nm_thn (ws_seqN PlanarIs_n49 PlanarIs_n50 rfl rfl rfl (ws_seqN PlanarIs_n51 PlanarIs_n52 rfl rfl rfl ?_))))
      refine ws_region rfl (wla 0 1 rfl rfl rfl rfl rfl rfl rfl (wl_end rfl (nm_thn (ws_blockN PlanarIs_n53 4 rfl rfl rfl ?_))))
      refine ws_loopE (fun mx_ ax_ wx_ => ∃ (k : Nat) (m2 : Int), mx_ = (facesL d).length - k ∧ Env 71 [(1, .pointer (some ⟨gb1, 0, none⟩)), (3, .slice A1 (whoL d).length c1), (4, .slice A2 vs1.length c2), (5, .int .i64 (p : Int)), (6, .int .i64 m2), (8, .int .i64 (k : Int))] ax_ ∧ SH wx_ M2 X [Rs.box gb1 24 [.slice dcrsA d.crs.length dcrsc, .int .i64 d.loops]] ∧ k ≤ (facesL d).length ∧ m2 = facW d (whoL d) p (negW (whoL d) p d.crs.length) k) rfl ?_ ?_
      ·intro ax_ hax_
       refine ⟨_, ⟨0, _, rfl, hax_.sub ⟨rfl, rfl, rfl, rfl, rfl, rfl, trivial⟩, S5.pick [0] [_] (by decide) ⟨rfl, trivial⟩, ?hq6f0, ?hq6f1⟩⟩
       case hq6f0 => omega
       case hq6f1 => (rw [hm, show i = d.crs.length by omega]; rfl)
      ·rintro m3 a3 w6 ⟨k, m2, rfl, he3, S6, hk, hm2⟩
       clear S5
       refine ws_in he3 (c := PlanarIs_n54) rfl ?_
       clear he3 a3
       have hnb := negW_bd (whoL d) p d.crs.length
       have hfb := facW_bd d (whoL d) p (negW (whoL d) p d.crs.length) k
       refine ws_seqN PlanarIs_n55 PlanarIs_n56 rfl rfl rfl (ws_seqN PlanarIs_n57 PlanarIs_n58 rfl rfl rfl (ws_region rfl (wlm 0 1 rfl rfl rfl rfl rfl rfl rfl (wlm 1 2 rfl rfl rfl rfl rfl rfl rfl ?_))))
       refine wlo 2 3 rfl rfl rfl (wo_run rfl rfl (run_len rfl rfl rfl rfl rfl rfl Try.underlying49) (wlo 3 4 rfl rfl rfl (wo_run rfl rfl (run_lss rfl rfl rfl) (wl_end rfl (nmk [1, 3, 4, 5, 6, 8, 42] rfl (nm_thn ?_))))))
       refine ws_condN PlanarIs_n59 PlanarIs_n60 rfl rfl rfl rfl (fun hb42 => ?_) (fun hb42 => ?_)
       ·replace hb42 := of_decide_eq_true hb42
        have hhd := hd0_ok (d := d) (k := k) (by omega)
        have hfc := fcC_lt hab (k := k) (by omega)
        obtain ⟨hh0, hok⟩ := hhd
        have hfe : fcC d k = (endOf d (ga (ga (facesL d) k) 0).a (ga (ga (facesL d) k) 0).b).1 := rfl
        rw [hfe] at hfc
        refine ws_skip rfl (nmk [1, 3, 4, 5, 6, 8] rfl (nm_thn (ws_seqN PlanarIs_n61 PlanarIs_n62 rfl rfl rfl (ws_blockN PlanarIs_n63 5 rfl rfl rfl ?_))))
        refine ws_seqN PlanarIs_n64 PlanarIs_n65 rfl rfl rfl (ws_draw rfl (by kernel_rfl) S6 22 rfl ?_)
        clear S6
        refine wap 0 21 rfl (by kernel_rfl) rfl rfl rfl (fun w7 => run_move rfl rfl) ?_
        refine wat 1 20 rfl (by kernel_rfl) rfl rfl rfl (fun M4 N2 w8 hle7 S8 => .inl (run_loadN (us := [_, _]) rfl rfl Try.underlying24 rfl sz24 (S8.suf.boxcs (i := 0) rfl ⟨rfl, rfl, trivial⟩))) ?_
        refine wap 2 19 rfl (by kernel_rfl) rfl rfl rfl (fun w9 => run_move rfl rfl) ?_
        refine wap 3 18 rfl (by kernel_rfl) rfl rfl rfl (fun w10 => run_move rfl rfl) ?_
        refine wat 4 17 rfl (by kernel_rfl) rfl rfl rfl (fun M7 N5 w11 hle10 S11 => .inl (run_indexM (C := (cdV 63)) k rfl rfl rfl sl49 (by first | rfl | omega) (hr2.mono hle10) (by first | omega | (simp only [lens]; omega)))) ?_
        obtain ⟨hn1, hr3⟩ := hd1.2 k (by first | omega | (simp only [lens]; omega))
        have rmhr3 : (ga (facesL d) k).length * 16 ≤ 140737488355328 := hr3.room
        refine wat 5 16 rfl (by kernel_rfl) rfl rfl rfl (fun M8 N6 w12 hle11 S12 => .inl (run_load1 rfl rfl Try.underlying63 rfl ((hr2.mono hle11).cell S12.m (i := k) (by first | omega | (simp only [lens]; omega)) 0 rfl (congrArg (fun n => some (Value.slice _ n _)) hn1)))) ?_
        refine wat 6 15 rfl (by kernel_rfl) rfl rfl rfl (fun M9 N7 w13 hle12 S13 => .inl (run_indexM (C := cdDa) 0 rfl rfl rfl sl63 (by first | rfl | omega) (hr3.mono hle12) (by first | omega | (simp only [lens]; omega)))) ?_
        refine wap 7 14 rfl (by kernel_rfl) rfl rfl rfl (fun w14 => run_fieldAddr rfl rfl Try.underlying65 rfl (ce3) (nf3)) ?_
        refine wat 8 13 rfl (by kernel_rfl) rfl rfl rfl (fun M11 N9 w15 hle14 S15 => .inl (run_load1 rfl rfl Try.underlying3 rfl ((hr3.mono hle14).cell S15.m (i := 0) (by first | omega | (simp only [lens]; omega)) 0 rfl rfl))) ?_
        refine wap 9 12 rfl (by kernel_rfl) rfl rfl rfl (fun w16 => run_move rfl rfl) ?_
        refine wap 10 11 rfl (by kernel_rfl) rfl rfl rfl (fun w17 => run_move rfl rfl) ?_
        refine wat 11 10 rfl (by kernel_rfl) rfl rfl rfl (fun M14 N12 w18 hle17 S18 => .inl (run_indexM (C := (cdV 63)) k rfl rfl rfl sl49 (by first | rfl | omega) (hr2.mono hle17) (by first | omega | (simp only [lens]; omega)))) ?_
        obtain ⟨hn2, hr4⟩ := hd1.2 k (by first | omega | (simp only [lens]; omega))
        have rmhr4 : (ga (facesL d) k).length * 16 ≤ 140737488355328 := hr4.room
        refine wat 12 9 rfl (by kernel_rfl) rfl rfl rfl (fun M15 N13 w19 hle18 S19 => .inl (run_load1 rfl rfl Try.underlying63 rfl ((hr2.mono hle18).cell S19.m (i := k) (by first | omega | (simp only [lens]; omega)) 0 rfl (congrArg (fun n => some (Value.slice _ n _)) hn2)))) ?_
        refine wat 13 8 rfl (by kernel_rfl) rfl rfl rfl (fun M16 N14 w20 hle19 S20 => .inl (run_indexM (C := cdDa) 0 rfl rfl rfl sl63 (by first | rfl | omega) (hr4.mono hle19) (by first | omega | (simp only [lens]; omega)))) ?_
        refine wap 14 7 rfl (by kernel_rfl) rfl rfl rfl (fun w21 => run_fieldAddr rfl rfl Try.underlying65 rfl (ce4) (nf4)) ?_
        refine wat 15 6 rfl (by kernel_rfl) rfl rfl rfl (fun M18 N16 w22 hle21 S22 => .inl (run_load1 rfl rfl Try.underlying4 rfl ((hr4.mono hle21).cell S22.m (i := 0) (by first | omega | (simp only [lens]; omega)) 1 rfl rfl))) ?_
        refine wat 16 5 rfl (by kernel_rfl) rfl rfl rfl (fun M19 N17 w23 hle22 S23 => yield_cq rfl rfl rfl rfl rfl cf39 S23 (EndOf_q d ((ga (ga (facesL d) k) 0).a) ((ga (ga (facesL d) k) 0).b) ((hdcrs.mono (Hp.un_mono hle22 S23.mx)).mono S23.un_XH) S23.lend)) ?_
        refine wap 17 4 rfl (by kernel_rfl) rfl rfl rfl (fun w24 => run_field0 rfl rfl Try.underlying53 rfl Try.underlying3 rfl rfl) ?_
        refine wat 18 3 rfl (by kernel_rfl) rfl rfl rfl (fun M21 N19 w25 hle24 S25 => .inl (run_indexM (C := cdInt) ((endOf d ((ga (ga (facesL d) k) 0).a) ((ga (ga (facesL d) k) 0).b)).1) rfl rfl rfl sl25 (by first | rfl | omega) (hr1.mono hle24) (by first | omega | (simp only [lens]; omega)))) ?_
        refine wat 19 2 rfl (by kernel_rfl) rfl rfl rfl (fun M22 N20 w26 hle25 S26 => .inl (run_load1 rfl rfl Try.underlying3 rfl ((hr1.mono hle25).cell S26.m (i := (endOf d ((ga (ga (facesL d) k) 0).a) ((ga (ga (facesL d) k) 0).b)).1) (by first | omega | (simp only [lens]; omega)) 0 rfl rfl))) ?_
        refine wap 20 1 rfl (by kernel_rfl) rfl rfl rfl (fun w27 => run_move rfl rfl) ?_
        refine wap 21 0 rfl (by kernel_rfl) rfl rfl rfl (fun w28 => run_eql rfl rfl rfl) ?_
        refine wa_end (by kernel_rfl) (fun w29 S29 => ?_)
        refine nmk [1, 3, 4, 5, 6, 8, 66] rfl (nm_thn ?_)
        refine ws_condN PlanarIs_n66 PlanarIs_n67 rfl rfl rfl rfl (fun hb66 => ?_) (fun hb66 => ?_)
        ·replace hb66 := of_decide_eq_true hb66
         refine ws_region rfl (wlm 0 1 rfl rfl rfl rfl rfl rfl rfl (wlo 1 2 rfl rfl rfl (wo_run rfl rfl (run_add rfl rfl rfl (by first | omega | (simp only [lens]; omega))) ?_)))
         refine wla 2 3 rfl rfl rfl rfl rfl rfl rfl (wl_end rfl (nm_blk (nmk [1, 3, 4, 5, 6, 8] rfl (nm_thn ?_))))
         refine ws_region rfl (wlm 0 1 rfl rfl rfl rfl rfl rfl rfl (wlo 1 2 rfl rfl rfl (wo_run rfl rfl (run_add rfl rfl rfl (by first | omega | (simp only [lens]; omega))) ?_)))
         refine wla 2 3 rfl rfl rfl rfl rfl rfl rfl (wl_end rfl (nm_lp ?_))
         intro ax_ hax_
         refine ⟨_, ?hq7m, ⟨k + 1, _, rfl, hax_.sub ⟨rfl, rfl, rfl, rfl, rfl, rfl, trivial⟩, S29.pick [0] [_] (by decide) ⟨rfl, trivial⟩, ?hq7f0, ?hq7f1⟩⟩
         case hq7f0 => omega
         case hq7f1 => (rw [facW, hm2, hfe]; first | rw [if_pos (by omega)] | rw [if_neg (by omega)])
         case hq7m => omega
        ·replace hb66 := of_decide_eq_false hb66
         refine ws_skip rfl (nm_blk (nmk [1, 3, 4, 5, 6, 8] rfl (nm_thn (ws_region rfl ?_))))
         refine wlm 0 1 rfl rfl rfl rfl rfl rfl rfl (wlo 1 2 rfl rfl rfl (wo_run rfl rfl (run_add rfl rfl rfl (by first | omega | (simp only [lens]; omega))) ?_))
         refine wla 2 3 rfl rfl rfl rfl rfl rfl rfl (wl_end rfl (nm_lp ?_))
         intro ax_ hax_
         refine ⟨_, ?hq8m, ⟨k + 1, _, rfl, hax_.sub ⟨rfl, rfl, rfl, rfl, rfl, rfl, trivial⟩, S29.pick [0] [_] (by decide) ⟨rfl, trivial⟩, ?hq8f0, ?hq8f1⟩⟩
         case hq8f0 => omega
         case hq8f1 => (rw [facW, hm2, hfe]; first | rw [if_pos (by omega)] | rw [if_neg (by omega)])
         case hq8m => omega
       ·replace hb42 := of_decide_eq_false hb42
        have hm3 : m2 = facW d (whoL d) p (negW (whoL d) p d.crs.length) (facesL d).length := by rw [hm2, show k = (facesL d).length by omega]
        refine ws_exit rfl rfl (nmk [1, 3, 4, 5, 6] rfl (nm_thn (ws_seqN PlanarIs_n68 PlanarIs_n69 rfl rfl rfl (ws_region rfl ?_))))
        refine wlm 0 1 rfl rfl rfl rfl rfl rfl rfl (wlo 1 2 rfl rfl rfl (wo_run rfl rfl (run_neq rfl rfl rfl) (wl_end rfl (nmk [1, 3, 4, 5, 70] rfl (nm_thn ?_)))))
        refine ws_condN PlanarIs_n70 PlanarIs_n71 rfl rfl rfl rfl (fun hb70 => ?_) (fun hb70 => ?_)
        ·replace hb70 := of_decide_eq_true hb70
         refine ws_seqN PlanarIs_n72 PlanarIs_n73 rfl rfl rfl (ws_region rfl (wla 0 1 rfl rfl rfl rfl rfl rfl rfl (wl_end rfl (nmk [2] rfl ?_))))
         refine nm_thn (ws_ret hC [_] rfl rfl ⟨rfl, trivial⟩ ?_)
         refine ⟨_, rfl, _, hle1.trans hle2, (S6.pick [] [] (by decide) trivial), ?_⟩
         refine congrArg Value.bool (planIs_f (p := p) (by omega) ?_).symm
         unfold rootOk
         rw [Bool.or_eq_false_iff]
         exact ⟨decide_eq_false (by omega), decide_eq_false (by omega)⟩
        ·replace hb70 := of_decide_eq_false hb70
         refine ws_skip rfl (nm_blk (nmk [1, 3, 4, 5] rfl (nm_thn (ws_region rfl ?_))))
         refine wlm 0 1 rfl rfl rfl rfl rfl rfl rfl (wlo 1 2 rfl rfl rfl (wo_run rfl rfl (run_add rfl rfl rfl (by first | omega | (simp only [lens]; omega))) ?_))
         refine wla 2 3 rfl rfl rfl rfl rfl rfl rfl (wl_end rfl (nm_lp ?_))
         intro ax_ hax_
         refine ⟨_, ?hq9m, ⟨p + 1, rfl, hax_.sub ⟨rfl, rfl, rfl, rfl, trivial⟩, S6.pick [0] [_] (by decide) ⟨rfl, trivial⟩, ?hq9f0, ?hq9f1⟩⟩
         case hq9f0 => omega
         case hq9f1 => (intro q hq; by_cases h : q = p; (subst h; unfold rootOk; rw [Bool.or_eq_true]; first | (left; exact decide_eq_true (by omega)) | (right; exact decide_eq_true (by omega))); exact hall q (by omega))
         case hq9m => omega
  ·replace hb16 := of_decide_eq_false hb16
   refine ws_exit rfl rfl (nm_sub [] trivial (nm_thn (ws_seqN PlanarIs_n74 PlanarIs_n75 rfl rfl rfl (ws_region rfl ?_))))
   refine wla 0 1 rfl rfl rfl rfl rfl rfl rfl (wl_end rfl (nm_thn (ws_ret hC [_] rfl rfl ⟨rfl, trivial⟩ ?_)))
   refine ⟨_, rfl, _, hle1.trans hle2, (S4.pick [] [] (by decide) trivial), ?_⟩
   exact congrArg Value.bool (planIs_t (fun q hq => hall q (by omega))).symm
end Go.Proofs.Ythppkofceancjaa
namespace Go.Proofs.Ythppkofceancjaa
open Go.ChangeShapes Go.WideShapes Go.ChangeAt Go.RowKit Go.Sort
def srt (xs : List Int) : List Int := xs.mergeSort fun x y => decide (x ≤ y)
theorem srt_perm (xs : List Int) : (srt xs).Perm xs := List.mergeSort_perm _ _
theorem srt_len (xs : List Int) : (srt xs).length = xs.length := (srt_perm xs).length_eq
theorem srt_mem {xs : List Int} {x : Int} : x ∈ srt xs ↔ x ∈ xs := (srt_perm xs).mem_iff
theorem flat_int (xs : List Int) : xs.flatMap cdInt.f = xs.map (Value.int .i64) := by
  induction xs with
  | nil => rfl
  | cons x xs ih => simp only [List.flatMap_cons, ih, List.map_cons]; rfl
theorem SH.sorted {w : World} {M : Hp} {X : Fr} {g cap n : Nat} {xs ys : List Int} {os : Array Obj} (S : SH w M X [Rs.row cdInt (.slice (some ⟨g, 0, none⟩) xs.length cap) xs]) (hl : ys.length = xs.length) :
    SH (Go.Sort.grow (putRow (Value.int .i64) (Go.Sort.ahead w n) g 0 ys.toArray) os) M X [Rs.row cdInt (.slice (some ⟨g, 0, none⟩) xs.length cap) ys] := by
  have hok : RowOk cdInt (.slice (some ⟨g, 0, none⟩) xs.length cap) xs (hp w) := S.get (i := 0) rfl
  rcases hok with ⟨h1, _⟩ | ⟨g', cap', cur, h1, h2, h3, h4, h5, h6⟩
  · cases h1
  cases h1
  have gb := grownBy_sortedI (w := w) (g := g) (n := n) (os := os) ys.toArray
  have h5' : cur.size = cap := h5.trans (Nat.mul_one _)
  refine S.step (i := 0) (H' := [Rs.row cdInt (.slice (some ⟨g, 0, none⟩) xs.length cap) ys]) rfl rfl ⟨gb.os, gb.tape, gb.output, gb.size⟩ (fun b hb hn => ?_) ?_ (fun b hb => ⟨.inl hb, ?_⟩)
  · exact gb.block b hb (fun e => hn (by injection e with e; subst e; simp [Rs.row, Value.ownBlock]))
  · refine .inr ⟨g, cap, _, by rw [hl], heap_sortedI _ h2, by rw [hl]; exact h3, h4, by simp [putCells, h5'] ; exact (Nat.mul_one _).symm, ?_⟩
    rw [flat_int, show ys.length * cdInt.k = ys.length from Nat.mul_one _]
    exact take_putCellsI cur ys (by omega)
  · have hg : g < w.heap.size := hp_lt h2
    have e : b = g := by simpa [Rs.row, Value.ownBlock] using hb
    subst e
    exact Nat.lt_of_lt_of_le hg gb.size
theorem SH.holdsI {w : World} {M : Hp} {X : Fr} {g cap : Nat} {xs : List Int} (S : SH w M X [Rs.row cdInt (.slice (some ⟨g, 0, none⟩) xs.length cap) xs]) : Holds (Value.int .i64) w g 0 xs.toArray ∧ g < w.heap.size := by
  have hok : RowOk cdInt (.slice (some ⟨g, 0, none⟩) xs.length cap) xs (hp w) := S.get (i := 0) rfl
  rcases hok with ⟨h1, _⟩ | ⟨g', cap', cur, h1, h2, h3, h4, h5, h6⟩
  · cases h1
  cases h1
  refine ⟨holds_of_blockI h2 ?_, hp_lt h2⟩
  rw [flat_int, show xs.length * cdInt.k = xs.length from Nat.mul_one _] at h6
  exact h6
/-- slices.Sort: the row holds the same numbers, sorted. -/
theorem c1_sort {P : Program} {ρ : Go.Shelf.Ren} (L : Lays.n189 P ρ) {w : World} {M : Hp} {X : Fr} {v : Value} {xs : List Int} (hsz : xs.length < 4611686018427387904) (S : SH w M X [Rs.row cdInt v xs]) :
    C1 P (ρ.f 189) [v] w M X fun u M' r' => u = .tuple #[] ∧ M' = M ∧ r' = Rs.row cdInt v (srt xs) := by
  have hok : RowOk cdInt v xs (hp w) := S.get (i := 0) rfl
  rcases hok with ⟨h1, h2⟩ | ⟨g, cap, cur, h1, _⟩
  · subst h1; subst h2
    refine (Any.slices_Sort_int_none L none 0 w).mono ?_
    rintro e w' ⟨rfl, rfl⟩
    exact ⟨_, rfl, M, _, Hp.le_refl _, S, rfl, rfl, by simp [srt]⟩
  · subst h1
    obtain ⟨hH, hb⟩ := S.holdsI
    refine (Any.slices_Sort_int L g 0 cap xs w hH hb hsz).mono ?_
    rintro e w' ⟨rfl, n, os, rfl⟩
    exact ⟨_, rfl, M, _, Hp.le_refl _, S.sorted (srt_len xs), rfl, rfl, rfl⟩
end Go.Proofs.Ythppkofceancjaa
namespace Go.Proofs.Ythppkofceancjaa
open Go.Shelf
def srtL_ren : Go.Shelf.Ren := ⟨fun | 189 => 33 | 125 => 44 | 257 => 43 | 128 => 56 | 129 => 57 | 294 => 47 | 295 => 48 | 296 => 49 | 297 => 50 | 298 => 51 | 299 => 52 | 216 => 53 | 300 => 54 | 301 => 55 | 328 => 58 | 329 => 59 | 330 => 60 | 331 => 61 | 332 => 62 | 215 => 63 | 343 => 64 | n => n, fun | 28 => 25 | 3 => 3 | 46 => 95 | 0 => 0 | 51 => 109 | 53 => 111 | 4 => 4 | 183 => 101 | 182 => 100 | 131 => 106 | 5 => 5 | 9 => 9 | 218 => 112 | 222 => 116 | 228 => 119 | 229 => 120 | n => n, fun | n => n⟩
theorem srtL : Go.Proofs.Lays.n189 Try.prog srtL_ren := {
  mixed := by kernel_rfl
  f125 := Try.func44.trans (congrArg some (by kernel_rfl))
  f128 := Try.func56.trans (congrArg some (by kernel_rfl))
  f129 := Try.func57.trans (congrArg some (by kernel_rfl))
  f189 := Try.func33.trans (congrArg some (by kernel_rfl))
  f215 := Try.func63.trans (congrArg some (by kernel_rfl))
  f216 := Try.func53.trans (congrArg some (by kernel_rfl))
  f257 := Try.func43.trans (congrArg some (by kernel_rfl))
  f294 := Try.func47.trans (congrArg some (by kernel_rfl))
  f295 := Try.func48.trans (congrArg some (by kernel_rfl))
  f296 := Try.func49.trans (congrArg some (by kernel_rfl))
  f297 := Try.func50.trans (congrArg some (by kernel_rfl))
  f298 := Try.func51.trans (congrArg some (by kernel_rfl))
  f299 := Try.func52.trans (congrArg some (by kernel_rfl))
  f300 := Try.func54.trans (congrArg some (by kernel_rfl))
  f301 := Try.func55.trans (congrArg some (by kernel_rfl))
  f328 := Try.func58.trans (congrArg some (by kernel_rfl))
  f329 := Try.func59.trans (congrArg some (by kernel_rfl))
  f330 := Try.func60.trans (congrArg some (by kernel_rfl))
  f331 := Try.func61.trans (congrArg some (by kernel_rfl))
  f332 := Try.func62.trans (congrArg some (by kernel_rfl))
  f343 := Try.func64.trans (congrArg some (by kernel_rfl))
  t0 := Try.underlying0
  a0 := Try.isAgg0
  z0 := Try.sizeOf0
  v0 := Try.zeroValue0
  t3 := Try.underlying3
  a3 := Try.isAgg3
  z3 := Try.sizeOf3
  v3 := Try.zeroValue3
  t4 := Try.underlying4
  a4 := Try.isAgg4
  z4 := Try.sizeOf4
  v4 := Try.zeroValue4
  t5 := Try.underlying5
  a5 := Try.isAgg5
  z5 := Try.sizeOf5
  v5 := Try.zeroValue5
  t9 := Try.underlying9
  a9 := Try.isAgg9
  z9 := Try.sizeOf9
  v9 := Try.zeroValue9
  t28 := Try.underlying25
  a28 := Try.isAgg25
  z28 := Try.sizeOf25
  v28 := Try.zeroValue25
  t46 := Try.underlying95
  a46 := Try.isAgg95
  z46 := Try.sizeOf95
  v46 := Try.zeroValue95
  t51 := Try.underlying109
  a51 := Try.isAgg109
  z51 := Try.sizeOf109
  v51 := Try.zeroValue109
  t53 := Try.underlying111
  a53 := Try.isAgg111
  z53 := Try.sizeOf111
  v53 := Try.zeroValue111
  t131 := Try.underlying106
  a131 := Try.isAgg106
  z131 := Try.sizeOf106
  v131 := Try.zeroValue106
  t182 := Try.underlying100
  a182 := Try.isAgg100
  z182 := Try.sizeOf100
  v182 := Try.zeroValue100
  t183 := Try.underlying101
  a183 := Try.isAgg101
  z183 := Try.sizeOf101
  v183 := Try.zeroValue101
  t218 := Try.underlying112
  a218 := Try.isAgg112
  z218 := Try.sizeOf112
  v218 := Try.zeroValue112
  t222 := Try.underlying116
  a222 := Try.isAgg116
  z222 := Try.sizeOf116
  v222 := Try.zeroValue116
  t228 := Try.underlying119
  a228 := Try.isAgg119
  z228 := Try.sizeOf119
  v228 := Try.zeroValue119
  t229 := Try.underlying120
  a229 := Try.isAgg120
  z229 := Try.sizeOf120
  v229 := Try.zeroValue120 }
theorem sort_w {w : World} {M : Hp} {X : Fr} {v : Value} {xs : List Int} (hsz : xs.length < 4611686018427387904) (S : SH w M X [Rs.row cdInt v xs]) :
    C1 Try.prog 33 [v] w M X fun u M' r' => u = .tuple #[] ∧ M' = M ∧ r' = Rs.row cdInt v (srt xs) := c1_sort srtL hsz S
end Go.Proofs.Ythppkofceancjaa
