/- Walks printed by eng.py. -/
import Derived.Test.YtlbpgnimpcflaaaP8
import Derived.Test.YtlbpgnimpcflaaaE8
set_option linter.unusedSimpArgs false
set_option linter.unusedVariables false
namespace Go.Proofs.Ytlbpgnimpcflaaa
open Go.ChangeShapes Go.WideShapes Go.ChangeAt Go.RowKit
noncomputable def CodeFaces_n0 : Code := Try.f8.body.getD .skip
noncomputable def CodeFaces_n1 : Code := cL CodeFaces_n0
noncomputable def CodeFaces_n2 : Code := cR CodeFaces_n0
noncomputable def CodeFaces_n3 : Code := cL CodeFaces_n2
noncomputable def CodeFaces_n4 : Code := cR CodeFaces_n2
noncomputable def CodeFaces_n5 : Code := cL CodeFaces_n4
noncomputable def CodeFaces_n6 : Code := cR CodeFaces_n4
noncomputable def CodeFaces_n7 : Code := cL CodeFaces_n6
noncomputable def CodeFaces_n8 : Code := cR CodeFaces_n6
noncomputable def CodeFaces_n9 : Code := cL CodeFaces_n8
noncomputable def CodeFaces_n10 : Code := cR CodeFaces_n8
noncomputable def CodeFaces_n11 : Code := cL CodeFaces_n9
noncomputable def CodeFaces_n12 : Code := cR CodeFaces_n9
noncomputable def CodeFaces_n13 : Code := cL CodeFaces_n12
noncomputable def CodeFaces_n14 : Code := cR CodeFaces_n12
noncomputable def CodeFaces_n15 : Code := cL CodeFaces_n13
noncomputable def CodeFaces_n16 : Code := cR CodeFaces_n13
noncomputable def CodeFaces_n17 : Code := cL CodeFaces_n10
noncomputable def CodeFaces_n18 : Code := cR CodeFaces_n10
set_option maxRecDepth 10000 in
theorem CodeFaces_t {w : World} {M : Hp} {X : Fr} (d : Dg) {dcrsA : Option Addr} {dcrsc : Nat} (hdcrs : RdA cdCr M dcrsA dcrsc d.crs) (S : SH w M X []) : Ct Try.prog 8 [.agg [.slice dcrsA d.crs.length dcrsc, .int .i64 d.loops].toArray] w M X (fun u _ => u = .bool true) := by
  unfold Ct
  have rmhdcrs : d.crs.length * 40 ≤ 140737488355328 := hdcrs.room
  refine calls_in (b := CodeFaces_n0) Try.func8 rfl Try.ntmps8 rfl (fun C hC => ?_)
  refine ws_sub [(0, _)] ⟨rfl, trivial⟩ ?_
  refine ws_seqN CodeFaces_n1 CodeFaces_n2 rfl rfl rfl ?_
  refine ws_region rfl ?_
  refine wl_op (k := 0) (k' := 1) rfl rfl rfl (wo_box (l := [_, _]) rfl rfl rfl rfl rfl S ?_)
  intro gb1 w1 S1; clear S
  refine wl_op (k := 1) (k' := 2) rfl rfl rfl (wo_run rfl rfl (run_assign rfl rfl) ?_)
  refine wl_end rfl ?_
  refine nm_sub [(1, _)] ⟨rfl, trivial⟩ ?_
  refine nm_thn ?_
  refine ws_seqN CodeFaces_n3 CodeFaces_n4 rfl rfl rfl ?_
  refine ws_region rfl ?_
  refine wl_op (k := 0) (k' := 1) rfl rfl rfl (wo_run rfl rfl (run_loadN (us := [_, _]) rfl rfl Try.underlying27 rfl sz27 (S1.boxcs (i := 0) rfl ⟨rfl, rfl, trivial⟩)) ?_)
  refine wl_op (k := 1) (k' := 2) rfl rfl rfl (wo_ct rfl rfl rfl rfl rfl rfl rfl cf16 S1 (DiagramOf_t d (hdcrs.mono (Hp.le_un _ _)) S1.lend) ?_)
  intro vw2 w2 M1 hle1 S2 hRw2; clear S1
  replace hdcrs := hdcrs.mono hle1
  obtain ⟨A1, c1, rfl, hr1⟩ := hRw2
  refine wl_op (k := 2) (k' := 3) rfl rfl rfl (wo_ct rfl rfl rfl rfl rfl rfl rfl cf32 S2 (CFaces_t d (hr1.mono (Hp.le_un _ _)) S2.lend) ?_)
  intro vw3 w3 M2 hle2 S3 hRw3; clear S2
  replace hdcrs := hdcrs.mono hle2
  replace hr1 := hr1.mono hle2
  obtain ⟨A2, c2, vs1, rfl, hr2, hd1⟩ := hRw3
  have hff := hd1.1
  refine wl_op (k := 3) (k' := 4) rfl rfl rfl (wo_run rfl rfl (run_move rfl rfl) ?_)
  refine wl_op (k := 4) (k' := 5) rfl rfl rfl (wo_run rfl rfl (run_extract rfl rfl rfl) ?_)
  refine wl_op (k := 5) (k' := 6) rfl rfl rfl (wo_run rfl rfl (run_extract rfl rfl rfl) ?_)
  refine wl_op (k := 6) (k' := 7) rfl rfl rfl (wo_run rfl rfl (run_assign rfl rfl) ?_)
  refine wl_op (k := 7) (k' := 8) rfl rfl rfl (wo_run rfl rfl (run_assign rfl rfl) ?_)
  refine wl_end rfl ?_
  refine nm_sub [(1, _), (3, _), (4, _)] ⟨rfl, rfl, rfl, trivial⟩ ?_
  refine nm_thn ?_
  refine ws_seqN CodeFaces_n5 CodeFaces_n6 rfl rfl rfl ?_
  refine ws_region rfl ?_
  refine wl_op (k := 0) (k' := 1) rfl rfl rfl (wo_run rfl rfl (run_loadN (us := [_, _]) rfl rfl Try.underlying27 rfl sz27 (S3.boxcs (i := 0) rfl ⟨rfl, rfl, trivial⟩)) ?_)
  refine wl_op (k := 1) (k' := 2) rfl rfl rfl (wo_ct rfl rfl rfl rfl rfl rfl rfl cf16 S3 (DiagramOf_t d (hdcrs.mono (Hp.le_un _ _)) S3.lend) ?_)
  intro vw4 w4 M3 hle3 S4 hRw4; clear S3
  replace hdcrs := hdcrs.mono hle3
  replace hr1 := hr1.mono hle3
  replace hr2 := hr2.mono hle3
  replace hd1 := hd1.mono hle3
  obtain ⟨A3, c3, rfl, hr3⟩ := hRw4
  refine wl_op (k := 2) (k' := 3) rfl rfl rfl (wo_ct rfl rfl rfl rfl rfl rfl rfl cf33 S4 (CPlanar_t d (hr3.mono (Hp.le_un _ _)) S4.lend) ?_)
  intro vw5 w5 M4 hle4 S5 hRw5; clear S4
  replace hdcrs := hdcrs.mono hle4
  replace hr1 := hr1.mono hle4
  replace hr2 := hr2.mono hle4
  replace hd1 := hd1.mono hle4
  replace hr3 := hr3.mono hle4
  obtain rfl := hRw5
  refine wl_op (k := 3) (k' := 4) rfl rfl rfl (wo_run rfl rfl (run_move rfl rfl) ?_)
  refine wl_op (k := 4) (k' := 5) rfl rfl rfl (wo_run rfl rfl (run_extract rfl rfl rfl) ?_)
  refine wl_op (k := 5) (k' := 6) rfl rfl rfl (wo_run rfl rfl (run_extract rfl rfl rfl) ?_)
  refine wl_op (k := 6) (k' := 7) rfl rfl rfl (wo_run rfl rfl (run_assign rfl rfl) ?_)
  refine wl_op (k := 7) (k' := 8) rfl rfl rfl (wo_run rfl rfl (run_assign rfl rfl) ?_)
  refine wl_end rfl ?_
  refine nm_sub [(1, _), (3, _), (4, _), (5, _), (6, _)] ⟨rfl, rfl, rfl, rfl, rfl, trivial⟩ ?_
  refine nm_thn ?_
  refine ws_seqN CodeFaces_n7 CodeFaces_n8 rfl rfl rfl ?_
  refine ws_region rfl ?_
  refine wl_op (k := 0) (k' := 1) rfl rfl rfl (wo_run rfl rfl (run_loadN (us := [_, _]) rfl rfl Try.underlying27 rfl sz27 (S5.boxcs (i := 0) rfl ⟨rfl, rfl, trivial⟩)) ?_)
  refine wl_op (k := 1) (k' := 2) rfl rfl rfl (wo_ct rfl rfl rfl rfl rfl rfl rfl cf16 S5 (DiagramOf_t d (hdcrs.mono (Hp.le_un _ _)) S5.lend) ?_)
  intro vw6 w6 M5 hle5 S6 hRw6; clear S5
  replace hdcrs := hdcrs.mono hle5
  replace hr1 := hr1.mono hle5
  replace hr2 := hr2.mono hle5
  replace hd1 := hd1.mono hle5
  replace hr3 := hr3.mono hle5
  obtain ⟨A4, c4, rfl, hr4⟩ := hRw6
  refine wl_op (k := 2) (k' := 3) rfl rfl rfl (wo_ct rfl rfl rfl rfl rfl rfl rfl cf34 S6 (CMay_t d (hr4.mono (Hp.le_un _ _)) S6.lend) ?_)
  intro vw7 w7 M6 hle6 S7 hRw7; clear S6
  replace hdcrs := hdcrs.mono hle6
  replace hr1 := hr1.mono hle6
  replace hr2 := hr2.mono hle6
  replace hd1 := hd1.mono hle6
  replace hr3 := hr3.mono hle6
  replace hr4 := hr4.mono hle6
  obtain rfl := hRw7
  refine wl_op (k := 3) (k' := 4) rfl rfl rfl (wo_run rfl rfl (run_assign rfl rfl) ?_)
  refine wl_end rfl ?_
  refine nm_sub [(1, _), (3, _), (4, _), (5, _), (6, _), (7, _)] ⟨rfl, rfl, rfl, rfl, rfl, rfl, trivial⟩ ?_
  refine nm_thn ?_
  refine ws_seqN CodeFaces_n9 CodeFaces_n10 rfl rfl rfl ?_
  refine ws_seqN CodeFaces_n11 CodeFaces_n12 rfl rfl rfl ?_
  refine ws_region rfl ?_
  refine wl_op (k := 0) (k' := 1) rfl rfl rfl (wo_run rfl rfl (run_loadN (us := [_, _]) rfl rfl Try.underlying27 rfl sz27 (S7.boxcs (i := 0) rfl ⟨rfl, rfl, trivial⟩)) ?_)
  refine wl_op (k := 1) (k' := 2) rfl rfl rfl (wo_cq rfl rfl rfl rfl rfl rfl rfl cf17 S7 (DiagramMay_q d (hdcrs.mono (Hp.le_un _ _)) S7.lend) ?_)
  rintro _ w8 S8 rfl; clear S7
  refine wl_op (k := 2) (k' := 3) rfl rfl rfl (wo_run rfl rfl (run_not rfl rfl) ?_)
  refine wl_end rfl ?_
  refine nm_sub [(1, _), (3, _), (4, _), (5, _), (6, _), (7, _), (25, _)] ⟨rfl, rfl, rfl, rfl, rfl, rfl, rfl, trivial⟩ ?_
  refine nm_thn ?_
  refine ws_condN CodeFaces_n13 CodeFaces_n14 rfl rfl rfl rfl (fun hb25 => ?_) (fun hb25 => ?_)
  · simp only [Bool.and_eq_true, Bool.or_eq_true, Bool.and_eq_false_iff, Bool.or_eq_false_iff, decide_eq_true_eq, decide_eq_false_iff_not, Bool.not_eq_true', Bool.not_eq_false'] at hb25
    have hm : mayB d = false := by simpa using hb25
    have e0 : errF d = 7 := by unfold errF; rw [if_neg (by rw [hm]; exact Bool.false_ne_true)]
    have e1 : facesR d = [] := by unfold facesR; rw [if_neg (by rw [hm]; exact Bool.false_ne_true)]
    have e2 : vs1.length = 0 := by rw [hff, e1]; rfl
    refine ws_seqN CodeFaces_n15 CodeFaces_n16 rfl rfl rfl ?_
    refine ws_region rfl ?_
    refine wl_op (k := 0) (k' := 1) rfl rfl rfl (wo_run rfl rfl (run_move rfl rfl) ?_)
    refine wl_op (k := 1) (k' := 2) rfl rfl rfl (wo_run rfl rfl (run_not rfl rfl) ?_)
    refine wl_op (k := 2) (k' := 3) rfl rfl rfl (wo_run rfl rfl (run_move rfl rfl) ?_)
    refine wl_split (t := 28) rfl (fun hg28 => ?_) (fun hg28 => ?_)
    · simp only [Bool.and_eq_true, Bool.or_eq_true, Bool.and_eq_false_iff, Bool.or_eq_false_iff, decide_eq_true_eq, decide_eq_false_iff_not, Bool.not_eq_true', Bool.not_eq_false'] at hg28
      refine wl_opG (k := 3) (k' := 4) rfl rfl ⟨_, _, _, rfl, rfl, rfl, rfl⟩ rfl (wo_run rfl rfl (run_move rfl rfl) ?_)
      refine wl_opG (k := 4) (k' := 5) rfl rfl ⟨_, _, _, rfl, rfl, rfl, rfl⟩ rfl (wo_run rfl rfl (run_eql rfl rfl rfl) ?_)
      refine wl_op (k := 5) (k' := 6) rfl rfl rfl (wo_run rfl rfl (run_pickT rfl rfl rfl) ?_)
      refine wl_op (k := 6) (k' := 7) rfl rfl rfl (wo_run rfl rfl (run_move rfl rfl) ?_)
      refine wl_split (t := 32) rfl (fun hg32 => ?_) (fun hg32 => ?_)
      · have hg32 := of_decide_eq_true hg32
        refine wl_opG (k := 7) (k' := 8) rfl rfl ⟨_, _, _, rfl, rfl, rfl, rfl⟩ rfl (wo_run rfl rfl (run_move rfl rfl) ?_)
        refine wl_opG (k := 8) (k' := 9) rfl rfl ⟨_, _, _, rfl, rfl, rfl, rfl⟩ rfl (wo_run rfl rfl (run_eql rfl rfl rfl) ?_)
        refine wl_op (k := 9) (k' := 10) rfl rfl rfl (wo_run rfl rfl (run_pickT rfl rfl rfl) ?_)
        refine wl_op (k := 10) (k' := 11) rfl rfl rfl (wo_run rfl rfl (run_move rfl rfl) ?_)
        refine wl_split (t := 36) rfl (fun hg36 => ?_) (fun hg36 => ?_)
        · have hg36 := of_decide_eq_true hg36
          refine wl_opG (k := 11) (k' := 12) rfl rfl ⟨_, _, _, rfl, rfl, rfl, rfl⟩ rfl (wo_run rfl rfl (run_move rfl rfl) ?_)
          refine wl_opG (k := 12) (k' := 13) rfl rfl ⟨_, _, _, rfl, rfl, rfl, rfl⟩ rfl (wo_run rfl rfl (run_len rfl rfl rfl rfl rfl rfl Try.underlying54) ?_)
          refine wl_opG (k := 13) (k' := 14) rfl rfl ⟨_, _, _, rfl, rfl, rfl, rfl⟩ rfl (wo_run rfl rfl (run_eql rfl rfl rfl) ?_)
          refine wl_op (k := 14) (k' := 15) rfl rfl rfl (wo_run rfl rfl (run_pickT rfl rfl rfl) ?_)
          refine wl_op (k := 15) (k' := 16) rfl rfl rfl (wo_run rfl rfl (run_move rfl rfl) ?_)
          refine wl_split (t := 41) rfl (fun hg41 => ?_) (fun hg41 => ?_)
          · have hg41 := of_decide_eq_true hg41
            refine wl_opG (k := 16) (k' := 17) rfl rfl ⟨_, _, _, rfl, rfl, rfl, rfl⟩ rfl (wo_run rfl rfl (run_move rfl rfl) ?_)
            refine wl_opG (k := 17) (k' := 18) rfl rfl ⟨_, _, _, rfl, rfl, rfl, rfl⟩ rfl (wo_run rfl rfl (run_not rfl rfl) ?_)
            refine wl_op (k := 18) (k' := 19) rfl rfl rfl (wo_run rfl rfl (run_pickT rfl rfl rfl) ?_)
            refine wl_op (k := 19) (k' := 20) rfl rfl rfl (wo_run rfl rfl (run_assign rfl rfl) ?_)
            refine wl_end rfl ?_
            refine nm_sub [(2, _)] ⟨rfl, trivial⟩ ?_
            refine nm_thn ?_
            refine ws_ret hC [_] rfl rfl ⟨rfl, trivial⟩ ?_
            refine ⟨_, rfl, _, ((((hle1.trans hle2).trans hle3).trans hle4).trans hle5).trans hle6, (S8.pick [] [] (by decide) trivial), ?_⟩
            show Value.bool _ = _
            refine congrArg Value.bool ?_
            first | rfl | simp [e0, e2, hm] | (rw [hm]; simp [e0, e2])
          · have hg41 := of_decide_eq_false hg41
            exfalso; first | omega | (simp_all; done) | contradiction
        · have hg36 := of_decide_eq_false hg36
          exfalso; first | omega | (simp_all; done) | contradiction
      · have hg32 := of_decide_eq_false hg32
        exfalso; first | omega | (simp_all; done) | contradiction
    · simp only [Bool.and_eq_true, Bool.or_eq_true, Bool.and_eq_false_iff, Bool.or_eq_false_iff, decide_eq_true_eq, decide_eq_false_iff_not, Bool.not_eq_true', Bool.not_eq_false'] at hg28
      exfalso; first | omega | (simp_all; done) | contradiction
  · simp only [Bool.and_eq_true, Bool.or_eq_true, Bool.and_eq_false_iff, Bool.or_eq_false_iff, decide_eq_true_eq, decide_eq_false_iff_not, Bool.not_eq_true', Bool.not_eq_false'] at hb25
    have hm : mayB d = true := by simpa using hb25
    obtain ⟨hn, hab, _, _⟩ := mayO hm
    have e0 : errF d = 0 := by unfold errF; rw [if_pos hm]
    have e1 : facesR d = facesL d := by unfold facesR; rw [if_pos hm]
    have e2 := planar_law hab
    refine ws_skip rfl ?_
    refine nm_sub [(1, _), (3, _), (4, _), (5, _), (6, _), (7, _)] ⟨rfl, rfl, rfl, rfl, rfl, rfl, trivial⟩ ?_
    refine nm_thn ?_
    refine ws_seqN CodeFaces_n17 CodeFaces_n18 rfl rfl rfl ?_
    refine ws_region rfl ?_
    refine wl_op (k := 0) (k' := 1) rfl rfl rfl (wo_run rfl rfl (run_move rfl rfl) ?_)
    refine wl_op (k := 1) (k' := 2) rfl rfl rfl (wo_run rfl rfl (run_move rfl rfl) ?_)
    refine wl_split (t := 46) rfl (fun hg46 => ?_) (fun hg46 => ?_)
    · refine wl_opG (k := 2) (k' := 3) rfl rfl ⟨_, _, _, rfl, rfl, rfl, rfl⟩ rfl (wo_run rfl rfl (run_move rfl rfl) ?_)
      refine wl_opG (k := 3) (k' := 4) rfl rfl ⟨_, _, _, rfl, rfl, rfl, rfl⟩ rfl (wo_run rfl rfl (run_eql rfl rfl rfl) ?_)
      refine wl_op (k := 4) (k' := 5) rfl rfl rfl (wo_run rfl rfl (run_pickT rfl rfl rfl) ?_)
      refine wl_op (k := 5) (k' := 6) rfl rfl rfl (wo_run rfl rfl (run_move rfl rfl) ?_)
      refine wl_split (t := 50) rfl (fun hg50 => ?_) (fun hg50 => ?_)
      · have hg50 := of_decide_eq_true hg50
        refine wl_opG (k := 6) (k' := 7) rfl rfl ⟨_, _, _, rfl, rfl, rfl, rfl⟩ rfl (wo_run rfl rfl (run_move rfl rfl) ?_)
        refine wl_opG (k := 7) (k' := 8) rfl rfl ⟨_, _, _, rfl, rfl, rfl, rfl⟩ rfl (wo_run rfl rfl (run_eql rfl rfl rfl) ?_)
        refine wl_op (k := 8) (k' := 9) rfl rfl rfl (wo_run rfl rfl (run_pickT rfl rfl rfl) ?_)
        refine wl_op (k := 9) (k' := 10) rfl rfl rfl (wo_run rfl rfl (run_move rfl rfl) ?_)
        refine wl_split (t := 54) rfl (fun hg54 => ?_) (fun hg54 => ?_)
        · have hg54 := of_decide_eq_true hg54
          refine wl_opG (k := 10) (k' := 11) rfl rfl ⟨_, _, _, rfl, rfl, rfl, rfl⟩ rfl (wo_run rfl rfl (run_move rfl rfl) ?_)
          refine wl_opG (k := 11) (k' := 12) rfl rfl ⟨_, _, _, rfl, rfl, rfl, rfl⟩ rfl (wo_run rfl rfl (run_loadN (us := [_, _]) rfl rfl Try.underlying27 rfl sz27 (S8.boxcs (i := 0) rfl ⟨rfl, rfl, trivial⟩)) ?_)
          refine wl_opG (k := 12) (k' := 13) rfl rfl ⟨_, _, _, rfl, rfl, rfl, rfl⟩ rfl (wo_ct rfl rfl rfl rfl rfl rfl rfl cf36 S8 (FacesOf_t d (hdcrs.mono (Hp.le_un _ _)) (hn) (hab) S8.lend) ?_)
          intro vw9 w9 M7 hle7 S9 hRw9; clear S8
          replace hdcrs := hdcrs.mono hle7
          replace hr1 := hr1.mono hle7
          replace hr2 := hr2.mono hle7
          replace hd1 := hd1.mono hle7
          replace hr3 := hr3.mono hle7
          replace hr4 := hr4.mono hle7
          obtain ⟨A5, c5, vs2, rfl, hr5, hd2⟩ := hRw9
          have hflA5 := hd2.1
          refine wl_opG (k := 13) (k' := 14) rfl rfl ⟨_, _, _, rfl, rfl, rfl, rfl⟩ rfl (wo_cq rfl rfl rfl rfl rfl rfl rfl cf35 S9 (sameDarts_q (facesR d) (facesL d) (hr2.mono (Hp.le_un _ _)) (hd1.mono (Hp.le_un _ _)) (hr5.mono (Hp.le_un _ _)) (hd2.mono (Hp.le_un _ _)) (e1) S9.lend) ?_)
          rintro _ w10 S10 rfl; clear S9
          refine wl_op (k := 14) (k' := 15) rfl rfl rfl (wo_run rfl rfl (run_pickT rfl rfl rfl) ?_)
          refine wl_op (k := 15) (k' := 16) rfl rfl rfl (wo_run rfl rfl (run_move rfl rfl) ?_)
          refine wl_opG (k := 16) (k' := 17) rfl rfl ⟨_, _, _, rfl, rfl, rfl, rfl⟩ rfl (wo_run rfl rfl (run_move rfl rfl) ?_)
          refine wl_opG (k := 17) (k' := 18) rfl rfl ⟨_, _, _, rfl, rfl, rfl, rfl⟩ rfl (wo_run rfl rfl (run_loadN (us := [_, _]) rfl rfl Try.underlying27 rfl sz27 (S10.boxcs (i := 0) rfl ⟨rfl, rfl, trivial⟩)) ?_)
          refine wl_opG (k := 18) (k' := 19) rfl rfl ⟨_, _, _, rfl, rfl, rfl, rfl⟩ rfl (wo_ct rfl rfl rfl rfl rfl rfl rfl cf37 S10 (PlanarIs_t d (hdcrs.mono (Hp.le_un _ _)) (hn) (hab) S10.lend) ?_)
          intro vw11 w11 M8 hle8 S11 hRw11; clear S10
          replace hdcrs := hdcrs.mono hle8
          replace hr1 := hr1.mono hle8
          replace hr2 := hr2.mono hle8
          replace hd1 := hd1.mono hle8
          replace hr3 := hr3.mono hle8
          replace hr4 := hr4.mono hle8
          replace hr5 := hr5.mono hle8
          replace hd2 := hd2.mono hle8
          obtain rfl := hRw11
          refine wl_opG (k := 19) (k' := 20) rfl rfl ⟨_, _, _, rfl, rfl, rfl, rfl⟩ rfl (wo_run rfl rfl (run_beq rfl rfl rfl Try.underlying4) ?_)
          refine wl_op (k := 20) (k' := 21) rfl rfl rfl (wo_run rfl rfl (run_pickT rfl rfl rfl) ?_)
          refine wl_op (k := 21) (k' := 22) rfl rfl rfl (wo_run rfl rfl (run_assign rfl rfl) ?_)
          refine wl_end rfl ?_
          refine nm_sub [(2, _)] ⟨rfl, trivial⟩ ?_
          refine nm_thn ?_
          refine ws_ret hC [_] rfl rfl ⟨rfl, trivial⟩ ?_
          refine ⟨_, rfl, _, ((((((hle1.trans hle2).trans hle3).trans hle4).trans hle5).trans hle6).trans hle7).trans hle8, (S11.pick [] [] (by decide) trivial), ?_⟩
          show Value.bool _ = _
          refine congrArg Value.bool ?_
          first | rfl | simp [e0, e2, hm] | (rw [hm]; simp [e0, e2])
        · have hg54 := of_decide_eq_false hg54
          exfalso; first | omega | (simp_all; done) | contradiction
      · have hg50 := of_decide_eq_false hg50
        exfalso; first | omega | (simp_all; done) | contradiction
    · exfalso; first | omega | (simp_all; done) | contradiction

end Go.Proofs.Ytlbpgnimpcflaaa
