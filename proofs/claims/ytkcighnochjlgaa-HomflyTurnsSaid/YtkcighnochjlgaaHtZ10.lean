/- Part 10 of the proof of the law HomflyTurns: the walks through its functions and the plain laws that they need. -/
import Derived.Test.YtkcighnochjlgaaHtZ9
set_option linter.unusedSimpArgs false
set_option linter.unusedVariables false
namespace Go.Proofs.Ytkcighnochjlgaa
open Go.ChangeShapes Go.WideShapes Go.ChangeAt Go.RowKit
theorem errH_cases (d : Dg) (k : Int) : (errO d ≠ 0 ∧ errH d k = errO d) ∨ (errO d = 0 ∧ (k < 0 ∨ (d.crs.length : Int) ≤ k) ∧ errH d k = 3) ∨ (errO d = 0 ∧ 0 ≤ k ∧ k < (d.crs.length : Int) ∧ 8 < d.crs.length ∧ errH d k = 2) ∨ (errO d = 0 ∧ 0 ≤ k ∧ k < (d.crs.length : Int) ∧ d.crs.length ≤ 8 ∧ errH d k = 0) := by
 unfold errH
 split
 ·split
  ·exact .inr (.inl ⟨by assumption, by assumption, rfl⟩)
  ·split
   ·exact .inr (.inr (.inl ⟨by assumption, by omega, by omega, by assumption, rfl⟩))
   ·exact .inr (.inr (.inr ⟨by assumption, by omega, by omega, by omega, rfl⟩))
 ·exact .inl ⟨by assumption, rfl⟩
theorem errS_cases (d : Dg) (k : Int) : (errH d k ≠ 0 ∧ errS d k = errH d k) ∨ (errH d k = 0 ∧ 16 < (smD d k.toNat).loops ∧ errS d k = 2) ∨ (errH d k = 0 ∧ (smD d k.toNat).loops ≤ 16 ∧ errS d k = 0) := by
 unfold errS
 split
 ·split
  ·exact .inr (.inl ⟨by assumption, by assumption, rfl⟩)
  ·exact .inr (.inr ⟨by assumption, by omega, rfl⟩)
 ·exact .inl ⟨by assumption, rfl⟩
noncomputable def HomflyTurns_n0 : Code := Try.f9.body.getD .skip
noncomputable def HomflyTurns_n1 : Code := cL HomflyTurns_n0
noncomputable def HomflyTurns_n2 : Code := cR HomflyTurns_n0
noncomputable def HomflyTurns_n3 : Code := cL HomflyTurns_n2
noncomputable def HomflyTurns_n4 : Code := cR HomflyTurns_n2
noncomputable def HomflyTurns_n5 : Code := cL HomflyTurns_n4
noncomputable def HomflyTurns_n6 : Code := cR HomflyTurns_n4
noncomputable def HomflyTurns_n7 : Code := cL HomflyTurns_n6
noncomputable def HomflyTurns_n8 : Code := cR HomflyTurns_n6
noncomputable def HomflyTurns_n9 : Code := cL HomflyTurns_n8
noncomputable def HomflyTurns_n10 : Code := cR HomflyTurns_n8
noncomputable def HomflyTurns_n11 : Code := cL HomflyTurns_n9
noncomputable def HomflyTurns_n12 : Code := cR HomflyTurns_n9
noncomputable def HomflyTurns_n13 : Code := cL HomflyTurns_n12
noncomputable def HomflyTurns_n14 : Code := cR HomflyTurns_n12
noncomputable def HomflyTurns_n15 : Code := cL HomflyTurns_n10
noncomputable def HomflyTurns_n16 : Code := cR HomflyTurns_n10
noncomputable def HomflyTurns_n17 : Code := cL HomflyTurns_n15
noncomputable def HomflyTurns_n18 : Code := cR HomflyTurns_n15
noncomputable def HomflyTurns_n19 : Code := cL HomflyTurns_n18
noncomputable def HomflyTurns_n20 : Code := cR HomflyTurns_n18
noncomputable def HomflyTurns_n21 : Code := cL HomflyTurns_n16
noncomputable def HomflyTurns_n22 : Code := cR HomflyTurns_n16
noncomputable def HomflyTurns_n23 : Code := cL HomflyTurns_n21
noncomputable def HomflyTurns_n24 : Code := cR HomflyTurns_n21
noncomputable def HomflyTurns_n25 : Code := cL HomflyTurns_n24
noncomputable def HomflyTurns_n26 : Code := cR HomflyTurns_n24
noncomputable def HomflyTurns_n27 : Code := cL HomflyTurns_n25
noncomputable def HomflyTurns_n28 : Code := cR HomflyTurns_n25
noncomputable def HomflyTurns_n29 : Code := cL HomflyTurns_n22
noncomputable def HomflyTurns_n30 : Code := cR HomflyTurns_n22
noncomputable def HomflyTurns_n31 : Code := cL HomflyTurns_n30
noncomputable def HomflyTurns_n32 : Code := cR HomflyTurns_n30
noncomputable def HomflyTurns_n33 : Code := cL HomflyTurns_n31
noncomputable def HomflyTurns_n34 : Code := cR HomflyTurns_n31
noncomputable def HomflyTurns_n35 : Code := cL HomflyTurns_n34
noncomputable def HomflyTurns_n36 : Code := cR HomflyTurns_n34
noncomputable def HomflyTurns_n37 : Code := cL HomflyTurns_n35
noncomputable def HomflyTurns_n38 : Code := cR HomflyTurns_n35
noncomputable def HomflyTurns_n39 : Code := cL HomflyTurns_n32
noncomputable def HomflyTurns_n40 : Code := cR HomflyTurns_n32
noncomputable def HomflyTurns_n41 : Code := cL HomflyTurns_n39
noncomputable def HomflyTurns_n42 : Code := cR HomflyTurns_n39
noncomputable def HomflyTurns_n43 : Code := cL HomflyTurns_n42
noncomputable def HomflyTurns_n44 : Code := cR HomflyTurns_n42
noncomputable def HomflyTurns_n45 : Code := cL HomflyTurns_n43
noncomputable def HomflyTurns_n46 : Code := cR HomflyTurns_n43
noncomputable def HomflyTurns_n47 : Code := cL HomflyTurns_n40
noncomputable def HomflyTurns_n48 : Code := cR HomflyTurns_n40
set_option maxHeartbeats 4000000 in
set_option maxRecDepth 10000 in
theorem HomflyTurns_t {w : World} {M : Hp} {X : Fr} (d : Dg) {dcrsA : Option Addr} {dcrsc : Nat} (k : Int) (hdcrs : RdA cdCr M dcrsA dcrsc d.crs) (S : SH w M X []) : Ct Try.prog 9 [.agg [.slice dcrsA d.crs.length dcrsc, .int .i64 d.loops].toArray, .int .i64 k] w M X (fun u _ => u = .bool true) := by
 unfold Ct
 have rmhdcrs : d.crs.length * 40 ≤ 140737488355328 := hdcrs.room
 refine calls_in (b := HomflyTurns_n0) Try.func9 rfl Try.ntmps9 rfl (fun C hC => ?_)
 refine ws_sub [(0, _), (1, _)] ⟨rfl, rfl, trivial⟩ ?_
 refine ws_seqN HomflyTurns_n1 HomflyTurns_n2 rfl rfl rfl ?_
 refine ws_region rfl ?_
 refine wlo 0 1 rfl rfl rfl (wo_box (l := [_, _]) rfl rfl rfl rfl rfl S ?_)
 intro gb1 w1 S1; clear S
 refine wla 1 2 rfl rfl rfl rfl rfl rfl rfl ?_
 refine wl_end rfl ?_
 refine nm_sub [(1, _), (2, _)] ⟨rfl, rfl, trivial⟩ ?_
 refine nm_thn ?_
 refine ws_seqN HomflyTurns_n3 HomflyTurns_n4 rfl rfl rfl ?_
 refine ws_region rfl ?_
 refine wlo 0 1 rfl rfl rfl (wo_run rfl rfl (run_loadN (us := [_, _]) rfl rfl Try.underlying51 rfl sz51 (S1.boxcs (i := 0) rfl ⟨rfl, rfl, trivial⟩)) ?_)
 refine wlo 1 2 rfl rfl rfl (wo_ct rfl rfl rfl rfl rfl rfl rfl cf33 S1 (DiagramOf_t d (hdcrs.mono (Hp.le_un _ _)) S1.lend) ?_)
 intro vw2 w2 M1 hle1 S2 hRw2; clear S1
 replace hdcrs := hdcrs.mono hle1
 obtain ⟨A1, c1, rfl, hr1⟩ := hRw2
 refine wlm 2 3 rfl rfl rfl rfl rfl rfl rfl ?_
 refine wlo 3 4 rfl rfl rfl (wo_ct rfl rfl rfl rfl rfl rfl rfl cf39 S2 (Change_t d k (hr1.mono (Hp.le_un _ _)) S2.lend) ?_)
 intro vw3 w3 M2 hle2 S3 hRw3; clear S2
 replace hdcrs := hdcrs.mono hle2
 replace hr1 := hr1.mono hle2
 rcases hRw3 with ⟨hchg, rfl⟩ | ⟨hchg, A2, c2, rfl, hr2⟩
 ·refine wlm 4 5 rfl rfl rfl rfl rfl rfl rfl ?_
  refine wlo 5 6 rfl rfl rfl (wo_run rfl rfl (run_extract rfl rfl rfl) ?_)
  refine wlo 6 7 rfl rfl rfl (wo_run rfl rfl (run_extract rfl rfl rfl) ?_)
  refine wlo 7 8 rfl rfl rfl (wo_alloc (l := [_, _]) rfl rfl rfl zr51 rfl S3 ?_)
  intro gb2 w4 S4; clear S3
  refine wlo 8 9 rfl rfl rfl (wo_storeB (i := 0) (us := [_, _]) (l' := [_, _]) (H' := [_, _]) rfl rfl S4 rfl rfl rfl rfl sz51 rfl rfl rfl rfl ?_)
  intro w5 S5; clear S4
  refine wla 9 10 rfl rfl rfl rfl rfl rfl rfl ?_
  refine wl_end rfl ?_
  refine nm_sub [(1, _), (2, _), (5, _), (6, _)] ⟨rfl, rfl, rfl, rfl, trivial⟩ ?_
  refine nm_thn ?_
  refine ws_seqN HomflyTurns_n5 HomflyTurns_n6 rfl rfl rfl ?_
  refine ws_region rfl ?_
  refine wlo 0 1 rfl rfl rfl (wo_run rfl rfl (run_loadN (us := [_, _]) rfl rfl Try.underlying51 rfl sz51 (S5.boxcs (i := 1) rfl ⟨rfl, rfl, trivial⟩)) ?_)
  refine wlo 1 2 rfl rfl rfl (wo_ct rfl rfl rfl rfl rfl rfl rfl cf33 S5 (DiagramOf_t d (hdcrs.mono (Hp.le_un _ _)) S5.lend) ?_)
  intro vw6 w6 M3 hle3 S6 hRw6; clear S5
  replace hdcrs := hdcrs.mono hle3
  replace hr1 := hr1.mono hle3
  obtain ⟨A3, c3, rfl, hr3⟩ := hRw6
  refine wlm 2 3 rfl rfl rfl rfl rfl rfl rfl ?_
  refine wlo 3 4 rfl rfl rfl (wo_ct rfl rfl rfl rfl rfl rfl rfl cf40 S6 (Smooth_t d k (hr3.mono (Hp.le_un _ _)) S6.lend) ?_)
  intro vw7 w7 M4 hle4 S7 hRw7; clear S6
  replace hdcrs := hdcrs.mono hle4
  replace hr1 := hr1.mono hle4
  replace hr3 := hr3.mono hle4
  rcases hRw7 with ⟨hsmo, rfl⟩ | ⟨hsmo, A4, c4, rfl, hr4⟩
  ·have hS := errS_cases d k
   refine wlm 4 5 rfl rfl rfl rfl rfl rfl rfl ?_
   refine wlo 5 6 rfl rfl rfl (wo_run rfl rfl (run_extract rfl rfl rfl) ?_)
   refine wlo 6 7 rfl rfl rfl (wo_run rfl rfl (run_extract rfl rfl rfl) ?_)
   refine wlo 7 8 rfl rfl rfl (wo_alloc (l := [_, _]) rfl rfl rfl zr51 rfl S7 ?_)
   intro gb3 w8 S8; clear S7
   refine wlo 8 9 rfl rfl rfl (wo_storeB (i := 0) (us := [_, _]) (l' := [_, _]) (H' := [_, _, _]) rfl rfl S8 rfl rfl rfl rfl sz51 rfl rfl rfl rfl ?_)
   intro w9 S9; clear S8
   refine wla 9 10 rfl rfl rfl rfl rfl rfl rfl ?_
   refine wl_end rfl ?_
   refine nm_sub [(1, _), (2, _), (5, _), (6, _), (7, _), (8, _)] ⟨rfl, rfl, rfl, rfl, rfl, rfl, trivial⟩ ?_
   refine nm_thn ?_
   refine ws_seqN HomflyTurns_n7 HomflyTurns_n8 rfl rfl rfl ?_
   refine ws_region rfl ?_
   refine wlo 0 1 rfl rfl rfl (wo_run rfl rfl (run_loadN (us := [_, _]) rfl rfl Try.underlying51 rfl sz51 (S9.boxcs (i := 2) rfl ⟨rfl, rfl, trivial⟩)) ?_)
   refine wlo 1 2 rfl rfl rfl (wo_ct rfl rfl rfl rfl rfl rfl rfl cf41 S9 (PlanarMay_t d (hdcrs.mono (Hp.le_un _ _)) S9.lend) ?_)
   intro vw10 w10 M5 hle5 S10 hRw10; clear S9
   replace hdcrs := hdcrs.mono hle5
   replace hr1 := hr1.mono hle5
   replace hr3 := hr3.mono hle5
   obtain rfl := hRw10
   refine wla 2 3 rfl rfl rfl rfl rfl rfl rfl ?_
   refine wl_end rfl ?_
   refine nm_sub [(1, _), (2, _), (5, _), (6, _), (7, _), (8, _), (9, _)] ⟨rfl, rfl, rfl, rfl, rfl, rfl, rfl, trivial⟩ ?_
   refine nm_thn ?_
   refine ws_seqN HomflyTurns_n9 HomflyTurns_n10 rfl rfl rfl ?_
   refine ws_seqN HomflyTurns_n11 HomflyTurns_n12 rfl rfl rfl ?_
   have hE := errH_cases d k
   refine ws_region rfl ?_
   refine wlm 0 1 rfl rfl rfl rfl rfl rfl rfl ?_
   refine wlo 1 2 rfl rfl rfl (wo_run rfl rfl (run_eql rfl rfl rfl) ?_)
   refine wlm 2 3 rfl rfl rfl rfl rfl rfl rfl ?_
   refine wl_split (t := 29) rfl (fun hg29 => ?_) (fun hg29 => ?_)
   ·replace hg29 := of_decide_eq_true hg29
    refine wl_opG (k := 3) (k' := 4) rfl rfl ⟨_, _, _, rfl, rfl, rfl, rfl⟩ rfl (wo_run rfl rfl (run_move rfl rfl) ?_)
    refine wl_opG (k := 4) (k' := 5) rfl rfl ⟨_, _, _, rfl, rfl, rfl, rfl⟩ rfl (wo_run rfl rfl (run_lss rfl rfl rfl) ?_)
    refine wl_opG (k := 5) (k' := 6) rfl rfl ⟨_, _, _, rfl, rfl, rfl, rfl⟩ rfl (wo_run rfl rfl (run_move rfl rfl) ?_)
    refine wl_split (t := 32) rfl (fun hg32 => ?_) (fun hg32 => ?_)
    ·replace hg32 := of_decide_eq_true hg32
     refine wl_no (k := 6) (k' := 7) (d := 33) rfl rfl ⟨_, _, _, rfl, rfl, rfl, rfl⟩ rfl rfl ?_
     refine wl_no (k := 7) (k' := 8) (d := 34) rfl rfl ⟨_, _, _, rfl, rfl, rfl, rfl⟩ rfl rfl ?_
     refine wl_no (k := 8) (k' := 9) (d := 35) rfl rfl ⟨_, _, _, rfl, rfl, rfl, rfl⟩ rfl rfl ?_
     refine wl_no (k := 9) (k' := 10) (d := 36) rfl rfl ⟨_, _, _, rfl, rfl, rfl, rfl⟩ rfl rfl ?_
     refine wl_no (k := 10) (k' := 11) (d := 37) rfl rfl ⟨_, _, _, rfl, rfl, rfl, rfl⟩ rfl rfl ?_
     refine wl_opG (k := 11) (k' := 12) rfl rfl ⟨_, _, _, rfl, rfl, rfl, rfl⟩ rfl (wo_run rfl rfl (run_pickT rfl rfl rfl) ?_)
     refine wlo 12 13 rfl rfl rfl (wo_run rfl rfl (run_pickT rfl rfl rfl) ?_)
     refine wl_end rfl ?_
     refine nm_sub [(1, _), (2, _), (5, _), (6, _), (7, _), (8, _), (9, _), (39, _)] ⟨rfl, rfl, rfl, rfl, rfl, rfl, rfl, rfl, trivial⟩ ?_
     refine nm_thn ?_
     refine ws_condTN HomflyTurns_n13 rfl rfl rfl ?_
     refine ws_region rfl ?_
     refine wla 0 1 rfl rfl rfl rfl rfl rfl rfl ?_
     refine wl_end rfl ?_
     refine nm_sub [(1, _), (2, _), (5, _), (6, _), (7, _), (8, _), (9, _)] ⟨rfl, rfl, rfl, rfl, rfl, rfl, rfl, trivial⟩ ?_
     refine nm_thn ?_
     refine ws_seqN HomflyTurns_n15 HomflyTurns_n16 rfl rfl rfl ?_
     refine ws_seqN HomflyTurns_n17 HomflyTurns_n18 rfl rfl rfl ?_
     refine ws_region rfl ?_
     refine wlm 0 1 rfl rfl rfl rfl rfl rfl rfl ?_
     refine wlo 1 2 rfl rfl rfl (wo_run rfl rfl (run_eql rfl rfl rfl) ?_)
     refine wlm 2 3 rfl rfl rfl rfl rfl rfl rfl ?_
     refine wl_split (t := 42) rfl (fun hg42 => ?_) (fun hg42 => ?_)
     ·replace hg42 := of_decide_eq_true hg42
      refine wl_opG (k := 3) (k' := 4) rfl rfl ⟨_, _, _, rfl, rfl, rfl, rfl⟩ rfl (wo_run rfl rfl (run_fieldAddr rfl rfl Try.underlying51 rfl (ce49) (nf49)) ?_)
      refine wl_opG (k := 4) (k' := 5) rfl rfl ⟨_, _, _, rfl, rfl, rfl, rfl⟩ rfl (wo_run rfl rfl (run_load1 rfl rfl Try.underlying49 rfl (S10.boxc (i := 2) rfl rfl)) ?_)
      refine wl_opG (k := 5) (k' := 6) rfl rfl ⟨_, _, _, rfl, rfl, rfl, rfl⟩ rfl (wo_run rfl rfl (run_len rfl rfl rfl rfl rfl rfl Try.underlying49) ?_)
      refine wl_opG (k := 6) (k' := 7) rfl rfl ⟨_, _, _, rfl, rfl, rfl, rfl⟩ rfl (wo_run rfl rfl (run_gtr rfl rfl rfl) ?_)
      refine wlo 7 8 rfl rfl rfl (wo_run rfl rfl (run_pickT rfl rfl rfl) ?_)
      refine wl_end rfl ?_
      refine nm_sub [(1, _), (2, _), (5, _), (6, _), (7, _), (8, _), (9, _), (47, _)] ⟨rfl, rfl, rfl, rfl, rfl, rfl, rfl, rfl, trivial⟩ ?_
      refine nm_thn ?_
      refine ws_condN HomflyTurns_n19 HomflyTurns_n20 rfl rfl rfl rfl (fun hb47 => ?_) (fun hb47 => ?_)
      ·replace hb47 := of_decide_eq_true hb47
       refine ws_region rfl ?_
       refine wla 0 1 rfl rfl rfl rfl rfl rfl rfl ?_
       refine wl_end rfl ?_
       refine nm_sub [(1, _), (2, _), (5, _), (6, _), (7, _), (8, _), (9, _)] ⟨rfl, rfl, rfl, rfl, rfl, rfl, rfl, trivial⟩ ?_
       refine nm_thn ?_
       refine ws_seqN HomflyTurns_n21 HomflyTurns_n22 rfl rfl rfl ?_
       refine ws_seqN HomflyTurns_n23 HomflyTurns_n24 rfl rfl rfl ?_
       refine ws_region rfl ?_
       refine wlm 0 1 rfl rfl rfl rfl rfl rfl rfl ?_
       refine wlo 1 2 rfl rfl rfl (wo_run rfl rfl (run_neq rfl rfl rfl) ?_)
       refine wl_end rfl ?_
       refine nm_sub [(1, _), (2, _), (5, _), (6, _), (7, _), (8, _), (9, _), (49, _)] ⟨rfl, rfl, rfl, rfl, rfl, rfl, rfl, rfl, trivial⟩ ?_
       refine nm_thn ?_
       refine ws_condN HomflyTurns_n25 HomflyTurns_n26 rfl rfl rfl rfl (fun hb49 => ?_) (fun hb49 => ?_)
       ·replace hb49 := of_decide_eq_true hb49
        refine ws_seqN HomflyTurns_n27 HomflyTurns_n28 rfl rfl rfl ?_
        refine ws_region rfl ?_
        refine wlm 0 1 rfl rfl rfl rfl rfl rfl rfl ?_
        refine wlm 1 2 rfl rfl rfl rfl rfl rfl rfl ?_
        refine wlo 2 3 rfl rfl rfl (wo_run rfl rfl (run_eql rfl rfl rfl) ?_)
        refine wlm 3 4 rfl rfl rfl rfl rfl rfl rfl ?_
        refine wl_split (t := 53) rfl (fun hg53 => ?_) (fun hg53 => ?_)
        ·replace hg53 := of_decide_eq_true hg53
         refine wl_opG (k := 4) (k' := 5) rfl rfl ⟨_, _, _, rfl, rfl, rfl, rfl⟩ rfl (wo_run rfl rfl (run_move rfl rfl) ?_)
         refine wl_opG (k := 5) (k' := 6) rfl rfl ⟨_, _, _, rfl, rfl, rfl, rfl⟩ rfl (wo_run rfl rfl (run_move rfl rfl) ?_)
         refine wl_opG (k := 6) (k' := 7) rfl rfl ⟨_, _, _, rfl, rfl, rfl, rfl⟩ rfl (wo_run rfl rfl (run_eql rfl rfl rfl) ?_)
         refine wlo 7 8 rfl rfl rfl (wo_run rfl rfl (run_pickT rfl rfl rfl) ?_)
         refine wlm 8 9 rfl rfl rfl rfl rfl rfl rfl ?_
         refine wl_split (t := 58) rfl (fun hg58 => ?_) (fun hg58 => ?_)
         ·replace hg58 := of_decide_eq_true hg58
          refine wl_opG (k := 9) (k' := 10) rfl rfl ⟨_, _, _, rfl, rfl, rfl, rfl⟩ rfl (wo_run rfl rfl (run_fieldAddr rfl rfl Try.underlying51 rfl (ce49) (nf49)) ?_)
          refine wl_opG (k := 10) (k' := 11) rfl rfl ⟨_, _, _, rfl, rfl, rfl, rfl⟩ rfl (wo_run rfl rfl (run_load1 rfl rfl Try.underlying49 rfl (S10.boxc (i := 1) rfl rfl)) ?_)
          refine wl_opG (k := 11) (k' := 12) rfl rfl ⟨_, _, _, rfl, rfl, rfl, rfl⟩ rfl (wo_run rfl rfl (run_len rfl rfl rfl rfl rfl rfl Try.underlying49) ?_)
          refine wl_opG (k := 12) (k' := 13) rfl rfl ⟨_, _, _, rfl, rfl, rfl, rfl⟩ rfl (wo_run rfl rfl (run_eql rfl rfl rfl) ?_)
          refine wlo 13 14 rfl rfl rfl (wo_run rfl rfl (run_pickT rfl rfl rfl) ?_)
          refine wlm 14 15 rfl rfl rfl rfl rfl rfl rfl ?_
          refine wl_split (t := 64) rfl (fun hg64 => ?_) (fun hg64 => ?_)
          ·replace hg64 := of_decide_eq_true hg64
           refine wl_opG (k := 15) (k' := 16) rfl rfl ⟨_, _, _, rfl, rfl, rfl, rfl⟩ rfl (wo_run rfl rfl (run_fieldAddr rfl rfl Try.underlying51 rfl (ce49) (nf49)) ?_)
           refine wl_opG (k := 16) (k' := 17) rfl rfl ⟨_, _, _, rfl, rfl, rfl, rfl⟩ rfl (wo_run rfl rfl (run_load1 rfl rfl Try.underlying49 rfl (S10.boxc (i := 0) rfl rfl)) ?_)
           refine wl_opG (k := 17) (k' := 18) rfl rfl ⟨_, _, _, rfl, rfl, rfl, rfl⟩ rfl (wo_run rfl rfl (run_len rfl rfl rfl rfl rfl rfl Try.underlying49) ?_)
           refine wl_opG (k := 18) (k' := 19) rfl rfl ⟨_, _, _, rfl, rfl, rfl, rfl⟩ rfl (wo_run rfl rfl (run_eql rfl rfl rfl) ?_)
           refine wlo 19 20 rfl rfl rfl (wo_run rfl rfl (run_pickT rfl rfl rfl) ?_)
           refine wla 20 21 rfl rfl rfl rfl rfl rfl rfl ?_
           refine wl_end rfl ?_
           refine nm_sub [(4, _)] ⟨rfl, trivial⟩ ?_
           refine nm_thn ?_
           refine ws_ret hC [_] rfl rfl ⟨rfl, trivial⟩ ?_
           refine ⟨_, rfl, _, (((hle1.trans hle2).trans hle3).trans hle4).trans hle5, (S10.pick [] [] (by decide) trivial), ?_⟩
           show Value.bool _ = _
           refine congrArg Value.bool ?_
           first | rfl | (rw [decide_eq_true_iff]; omega) | (simp_all; done) | (simp_all <;> omega)
          ·replace hg64 := of_decide_eq_false hg64
           refine wl_no (k := 15) (k' := 16) (d := 65) rfl rfl ⟨_, _, _, rfl, rfl, rfl, rfl⟩ rfl rfl ?_
           refine wl_no (k := 16) (k' := 17) (d := 66) rfl rfl ⟨_, _, _, rfl, rfl, rfl, rfl⟩ rfl rfl ?_
           refine wl_no (k := 17) (k' := 18) (d := 67) rfl rfl ⟨_, _, _, rfl, rfl, rfl, rfl⟩ rfl rfl ?_
           refine wl_no (k := 18) (k' := 19) (d := 68) rfl rfl ⟨_, _, _, rfl, rfl, rfl, rfl⟩ rfl rfl ?_
           refine wlo 19 20 rfl rfl rfl (wo_run rfl rfl (run_pickF rfl rfl rfl) ?_)
           refine wla 20 21 rfl rfl rfl rfl rfl rfl rfl ?_
           refine wl_end rfl ?_
           refine nm_sub [(4, _)] ⟨rfl, trivial⟩ ?_
           refine nm_thn ?_
           refine ws_ret hC [_] rfl rfl ⟨rfl, trivial⟩ ?_
           refine ⟨_, rfl, _, (((hle1.trans hle2).trans hle3).trans hle4).trans hle5, (S10.pick [] [] (by decide) trivial), ?_⟩
           show Value.bool _ = _
           refine congrArg Value.bool ?_
           first | rfl | (rw [decide_eq_true_iff]; omega) | (simp_all; done) | (simp_all <;> omega)
         ·replace hg58 := of_decide_eq_false hg58
          refine wl_no (k := 9) (k' := 10) (d := 59) rfl rfl ⟨_, _, _, rfl, rfl, rfl, rfl⟩ rfl rfl ?_
          refine wl_no (k := 10) (k' := 11) (d := 60) rfl rfl ⟨_, _, _, rfl, rfl, rfl, rfl⟩ rfl rfl ?_
          refine wl_no (k := 11) (k' := 12) (d := 61) rfl rfl ⟨_, _, _, rfl, rfl, rfl, rfl⟩ rfl rfl ?_
          refine wl_no (k := 12) (k' := 13) (d := 62) rfl rfl ⟨_, _, _, rfl, rfl, rfl, rfl⟩ rfl rfl ?_
          refine wlo 13 14 rfl rfl rfl (wo_run rfl rfl (run_pickF rfl rfl rfl) ?_)
          refine wlm 14 15 rfl rfl rfl rfl rfl rfl rfl ?_
          refine wl_no (k := 15) (k' := 16) (d := 65) rfl rfl ⟨_, _, _, rfl, rfl, rfl, rfl⟩ rfl rfl ?_
          refine wl_no (k := 16) (k' := 17) (d := 66) rfl rfl ⟨_, _, _, rfl, rfl, rfl, rfl⟩ rfl rfl ?_
          refine wl_no (k := 17) (k' := 18) (d := 67) rfl rfl ⟨_, _, _, rfl, rfl, rfl, rfl⟩ rfl rfl ?_
          refine wl_no (k := 18) (k' := 19) (d := 68) rfl rfl ⟨_, _, _, rfl, rfl, rfl, rfl⟩ rfl rfl ?_
          refine wlo 19 20 rfl rfl rfl (wo_run rfl rfl (run_pickF rfl rfl rfl) ?_)
          refine wla 20 21 rfl rfl rfl rfl rfl rfl rfl ?_
          refine wl_end rfl ?_
          refine nm_sub [(4, _)] ⟨rfl, trivial⟩ ?_
          refine nm_thn ?_
          refine ws_ret hC [_] rfl rfl ⟨rfl, trivial⟩ ?_
          refine ⟨_, rfl, _, (((hle1.trans hle2).trans hle3).trans hle4).trans hle5, (S10.pick [] [] (by decide) trivial), ?_⟩
          show Value.bool _ = _
          refine congrArg Value.bool ?_
          first | rfl | (rw [decide_eq_true_iff]; omega) | (simp_all; done) | (simp_all <;> omega)
        ·replace hg53 := of_decide_eq_false hg53
         refine wl_no (k := 4) (k' := 5) (d := 54) rfl rfl ⟨_, _, _, rfl, rfl, rfl, rfl⟩ rfl rfl ?_
         refine wl_no (k := 5) (k' := 6) (d := 55) rfl rfl ⟨_, _, _, rfl, rfl, rfl, rfl⟩ rfl rfl ?_
         refine wl_no (k := 6) (k' := 7) (d := 56) rfl rfl ⟨_, _, _, rfl, rfl, rfl, rfl⟩ rfl rfl ?_
         refine wlo 7 8 rfl rfl rfl (wo_run rfl rfl (run_pickF rfl rfl rfl) ?_)
         refine wlm 8 9 rfl rfl rfl rfl rfl rfl rfl ?_
         refine wl_no (k := 9) (k' := 10) (d := 59) rfl rfl ⟨_, _, _, rfl, rfl, rfl, rfl⟩ rfl rfl ?_
         refine wl_no (k := 10) (k' := 11) (d := 60) rfl rfl ⟨_, _, _, rfl, rfl, rfl, rfl⟩ rfl rfl ?_
         refine wl_no (k := 11) (k' := 12) (d := 61) rfl rfl ⟨_, _, _, rfl, rfl, rfl, rfl⟩ rfl rfl ?_
         refine wl_no (k := 12) (k' := 13) (d := 62) rfl rfl ⟨_, _, _, rfl, rfl, rfl, rfl⟩ rfl rfl ?_
         refine wlo 13 14 rfl rfl rfl (wo_run rfl rfl (run_pickF rfl rfl rfl) ?_)
         refine wlm 14 15 rfl rfl rfl rfl rfl rfl rfl ?_
         refine wl_no (k := 15) (k' := 16) (d := 65) rfl rfl ⟨_, _, _, rfl, rfl, rfl, rfl⟩ rfl rfl ?_
         refine wl_no (k := 16) (k' := 17) (d := 66) rfl rfl ⟨_, _, _, rfl, rfl, rfl, rfl⟩ rfl rfl ?_
         refine wl_no (k := 17) (k' := 18) (d := 67) rfl rfl ⟨_, _, _, rfl, rfl, rfl, rfl⟩ rfl rfl ?_
         refine wl_no (k := 18) (k' := 19) (d := 68) rfl rfl ⟨_, _, _, rfl, rfl, rfl, rfl⟩ rfl rfl ?_
         refine wlo 19 20 rfl rfl rfl (wo_run rfl rfl (run_pickF rfl rfl rfl) ?_)
         refine wla 20 21 rfl rfl rfl rfl rfl rfl rfl ?_
         refine wl_end rfl ?_
         refine nm_sub [(4, _)] ⟨rfl, trivial⟩ ?_
         refine nm_thn ?_
         refine ws_ret hC [_] rfl rfl ⟨rfl, trivial⟩ ?_
         refine ⟨_, rfl, _, (((hle1.trans hle2).trans hle3).trans hle4).trans hle5, (S10.pick [] [] (by decide) trivial), ?_⟩
         show Value.bool _ = _
         refine congrArg Value.bool ?_
         first | rfl | (rw [decide_eq_true_iff]; omega) | (simp_all; done) | (simp_all <;> omega)
       ·replace hb49 := of_decide_eq_false hb49
        exfalso; omega
      ·replace hb47 := of_decide_eq_false hb47
       refine ws_skip rfl ?_
       refine nm_sub [(1, _), (2, _), (5, _), (6, _), (7, _), (8, _), (9, _)] ⟨rfl, rfl, rfl, rfl, rfl, rfl, rfl, trivial⟩ ?_
       refine nm_thn ?_
       refine ws_seqN HomflyTurns_n21 HomflyTurns_n22 rfl rfl rfl ?_
       refine ws_seqN HomflyTurns_n23 HomflyTurns_n24 rfl rfl rfl ?_
       refine ws_region rfl ?_
       refine wlm 0 1 rfl rfl rfl rfl rfl rfl rfl ?_
       refine wlo 1 2 rfl rfl rfl (wo_run rfl rfl (run_neq rfl rfl rfl) ?_)
       refine wl_end rfl ?_
       refine nm_sub [(1, _), (2, _), (5, _), (6, _), (7, _), (8, _), (9, _), (49, _)] ⟨rfl, rfl, rfl, rfl, rfl, rfl, rfl, rfl, trivial⟩ ?_
       refine nm_thn ?_
       refine ws_condN HomflyTurns_n25 HomflyTurns_n26 rfl rfl rfl rfl (fun hb49 => ?_) (fun hb49 => ?_)
       ·replace hb49 := of_decide_eq_true hb49
        refine ws_seqN HomflyTurns_n27 HomflyTurns_n28 rfl rfl rfl ?_
        refine ws_region rfl ?_
        refine wlm 0 1 rfl rfl rfl rfl rfl rfl rfl ?_
        refine wlm 1 2 rfl rfl rfl rfl rfl rfl rfl ?_
        refine wlo 2 3 rfl rfl rfl (wo_run rfl rfl (run_eql rfl rfl rfl) ?_)
        refine wlm 3 4 rfl rfl rfl rfl rfl rfl rfl ?_
        refine wl_split (t := 53) rfl (fun hg53 => ?_) (fun hg53 => ?_)
        ·replace hg53 := of_decide_eq_true hg53
         refine wl_opG (k := 4) (k' := 5) rfl rfl ⟨_, _, _, rfl, rfl, rfl, rfl⟩ rfl (wo_run rfl rfl (run_move rfl rfl) ?_)
         refine wl_opG (k := 5) (k' := 6) rfl rfl ⟨_, _, _, rfl, rfl, rfl, rfl⟩ rfl (wo_run rfl rfl (run_move rfl rfl) ?_)
         refine wl_opG (k := 6) (k' := 7) rfl rfl ⟨_, _, _, rfl, rfl, rfl, rfl⟩ rfl (wo_run rfl rfl (run_eql rfl rfl rfl) ?_)
         refine wlo 7 8 rfl rfl rfl (wo_run rfl rfl (run_pickT rfl rfl rfl) ?_)
         refine wlm 8 9 rfl rfl rfl rfl rfl rfl rfl ?_
         refine wl_split (t := 58) rfl (fun hg58 => ?_) (fun hg58 => ?_)
         ·replace hg58 := of_decide_eq_true hg58
          refine wl_opG (k := 9) (k' := 10) rfl rfl ⟨_, _, _, rfl, rfl, rfl, rfl⟩ rfl (wo_run rfl rfl (run_fieldAddr rfl rfl Try.underlying51 rfl (ce49) (nf49)) ?_)
          refine wl_opG (k := 10) (k' := 11) rfl rfl ⟨_, _, _, rfl, rfl, rfl, rfl⟩ rfl (wo_run rfl rfl (run_load1 rfl rfl Try.underlying49 rfl (S10.boxc (i := 1) rfl rfl)) ?_)
          refine wl_opG (k := 11) (k' := 12) rfl rfl ⟨_, _, _, rfl, rfl, rfl, rfl⟩ rfl (wo_run rfl rfl (run_len rfl rfl rfl rfl rfl rfl Try.underlying49) ?_)
          refine wl_opG (k := 12) (k' := 13) rfl rfl ⟨_, _, _, rfl, rfl, rfl, rfl⟩ rfl (wo_run rfl rfl (run_eql rfl rfl rfl) ?_)
          refine wlo 13 14 rfl rfl rfl (wo_run rfl rfl (run_pickT rfl rfl rfl) ?_)
          refine wlm 14 15 rfl rfl rfl rfl rfl rfl rfl ?_
          refine wl_split (t := 64) rfl (fun hg64 => ?_) (fun hg64 => ?_)
          ·replace hg64 := of_decide_eq_true hg64
           refine wl_opG (k := 15) (k' := 16) rfl rfl ⟨_, _, _, rfl, rfl, rfl, rfl⟩ rfl (wo_run rfl rfl (run_fieldAddr rfl rfl Try.underlying51 rfl (ce49) (nf49)) ?_)
           refine wl_opG (k := 16) (k' := 17) rfl rfl ⟨_, _, _, rfl, rfl, rfl, rfl⟩ rfl (wo_run rfl rfl (run_load1 rfl rfl Try.underlying49 rfl (S10.boxc (i := 0) rfl rfl)) ?_)
           refine wl_opG (k := 17) (k' := 18) rfl rfl ⟨_, _, _, rfl, rfl, rfl, rfl⟩ rfl (wo_run rfl rfl (run_len rfl rfl rfl rfl rfl rfl Try.underlying49) ?_)
           refine wl_opG (k := 18) (k' := 19) rfl rfl ⟨_, _, _, rfl, rfl, rfl, rfl⟩ rfl (wo_run rfl rfl (run_eql rfl rfl rfl) ?_)
           refine wlo 19 20 rfl rfl rfl (wo_run rfl rfl (run_pickT rfl rfl rfl) ?_)
           refine wla 20 21 rfl rfl rfl rfl rfl rfl rfl ?_
           refine wl_end rfl ?_
           refine nm_sub [(4, _)] ⟨rfl, trivial⟩ ?_
           refine nm_thn ?_
           refine ws_ret hC [_] rfl rfl ⟨rfl, trivial⟩ ?_
           refine ⟨_, rfl, _, (((hle1.trans hle2).trans hle3).trans hle4).trans hle5, (S10.pick [] [] (by decide) trivial), ?_⟩
           show Value.bool _ = _
           refine congrArg Value.bool ?_
           first | rfl | (rw [decide_eq_true_iff]; omega) | (simp_all; done) | (simp_all <;> omega)
          ·replace hg64 := of_decide_eq_false hg64
           refine wl_no (k := 15) (k' := 16) (d := 65) rfl rfl ⟨_, _, _, rfl, rfl, rfl, rfl⟩ rfl rfl ?_
           refine wl_no (k := 16) (k' := 17) (d := 66) rfl rfl ⟨_, _, _, rfl, rfl, rfl, rfl⟩ rfl rfl ?_
           refine wl_no (k := 17) (k' := 18) (d := 67) rfl rfl ⟨_, _, _, rfl, rfl, rfl, rfl⟩ rfl rfl ?_
           refine wl_no (k := 18) (k' := 19) (d := 68) rfl rfl ⟨_, _, _, rfl, rfl, rfl, rfl⟩ rfl rfl ?_
           refine wlo 19 20 rfl rfl rfl (wo_run rfl rfl (run_pickF rfl rfl rfl) ?_)
           refine wla 20 21 rfl rfl rfl rfl rfl rfl rfl ?_
           refine wl_end rfl ?_
           refine nm_sub [(4, _)] ⟨rfl, trivial⟩ ?_
           refine nm_thn ?_
           refine ws_ret hC [_] rfl rfl ⟨rfl, trivial⟩ ?_
           refine ⟨_, rfl, _, (((hle1.trans hle2).trans hle3).trans hle4).trans hle5, (S10.pick [] [] (by decide) trivial), ?_⟩
           show Value.bool _ = _
           refine congrArg Value.bool ?_
           first | rfl | (rw [decide_eq_true_iff]; omega) | (simp_all; done) | (simp_all <;> omega)
         ·replace hg58 := of_decide_eq_false hg58
          refine wl_no (k := 9) (k' := 10) (d := 59) rfl rfl ⟨_, _, _, rfl, rfl, rfl, rfl⟩ rfl rfl ?_
          refine wl_no (k := 10) (k' := 11) (d := 60) rfl rfl ⟨_, _, _, rfl, rfl, rfl, rfl⟩ rfl rfl ?_
          refine wl_no (k := 11) (k' := 12) (d := 61) rfl rfl ⟨_, _, _, rfl, rfl, rfl, rfl⟩ rfl rfl ?_
          refine wl_no (k := 12) (k' := 13) (d := 62) rfl rfl ⟨_, _, _, rfl, rfl, rfl, rfl⟩ rfl rfl ?_
          refine wlo 13 14 rfl rfl rfl (wo_run rfl rfl (run_pickF rfl rfl rfl) ?_)
          refine wlm 14 15 rfl rfl rfl rfl rfl rfl rfl ?_
          refine wl_no (k := 15) (k' := 16) (d := 65) rfl rfl ⟨_, _, _, rfl, rfl, rfl, rfl⟩ rfl rfl ?_
          refine wl_no (k := 16) (k' := 17) (d := 66) rfl rfl ⟨_, _, _, rfl, rfl, rfl, rfl⟩ rfl rfl ?_
          refine wl_no (k := 17) (k' := 18) (d := 67) rfl rfl ⟨_, _, _, rfl, rfl, rfl, rfl⟩ rfl rfl ?_
          refine wl_no (k := 18) (k' := 19) (d := 68) rfl rfl ⟨_, _, _, rfl, rfl, rfl, rfl⟩ rfl rfl ?_
          refine wlo 19 20 rfl rfl rfl (wo_run rfl rfl (run_pickF rfl rfl rfl) ?_)
          refine wla 20 21 rfl rfl rfl rfl rfl rfl rfl ?_
          refine wl_end rfl ?_
          refine nm_sub [(4, _)] ⟨rfl, trivial⟩ ?_
          refine nm_thn ?_
          refine ws_ret hC [_] rfl rfl ⟨rfl, trivial⟩ ?_
          refine ⟨_, rfl, _, (((hle1.trans hle2).trans hle3).trans hle4).trans hle5, (S10.pick [] [] (by decide) trivial), ?_⟩
          show Value.bool _ = _
          refine congrArg Value.bool ?_
          first | rfl | (rw [decide_eq_true_iff]; omega) | (simp_all; done) | (simp_all <;> omega)
        ·replace hg53 := of_decide_eq_false hg53
         refine wl_no (k := 4) (k' := 5) (d := 54) rfl rfl ⟨_, _, _, rfl, rfl, rfl, rfl⟩ rfl rfl ?_
         refine wl_no (k := 5) (k' := 6) (d := 55) rfl rfl ⟨_, _, _, rfl, rfl, rfl, rfl⟩ rfl rfl ?_
         refine wl_no (k := 6) (k' := 7) (d := 56) rfl rfl ⟨_, _, _, rfl, rfl, rfl, rfl⟩ rfl rfl ?_
         refine wlo 7 8 rfl rfl rfl (wo_run rfl rfl (run_pickF rfl rfl rfl) ?_)
         refine wlm 8 9 rfl rfl rfl rfl rfl rfl rfl ?_
         refine wl_no (k := 9) (k' := 10) (d := 59) rfl rfl ⟨_, _, _, rfl, rfl, rfl, rfl⟩ rfl rfl ?_
         refine wl_no (k := 10) (k' := 11) (d := 60) rfl rfl ⟨_, _, _, rfl, rfl, rfl, rfl⟩ rfl rfl ?_
         refine wl_no (k := 11) (k' := 12) (d := 61) rfl rfl ⟨_, _, _, rfl, rfl, rfl, rfl⟩ rfl rfl ?_
         refine wl_no (k := 12) (k' := 13) (d := 62) rfl rfl ⟨_, _, _, rfl, rfl, rfl, rfl⟩ rfl rfl ?_
         refine wlo 13 14 rfl rfl rfl (wo_run rfl rfl (run_pickF rfl rfl rfl) ?_)
         refine wlm 14 15 rfl rfl rfl rfl rfl rfl rfl ?_
         refine wl_no (k := 15) (k' := 16) (d := 65) rfl rfl ⟨_, _, _, rfl, rfl, rfl, rfl⟩ rfl rfl ?_
         refine wl_no (k := 16) (k' := 17) (d := 66) rfl rfl ⟨_, _, _, rfl, rfl, rfl, rfl⟩ rfl rfl ?_
         refine wl_no (k := 17) (k' := 18) (d := 67) rfl rfl ⟨_, _, _, rfl, rfl, rfl, rfl⟩ rfl rfl ?_
         refine wl_no (k := 18) (k' := 19) (d := 68) rfl rfl ⟨_, _, _, rfl, rfl, rfl, rfl⟩ rfl rfl ?_
         refine wlo 19 20 rfl rfl rfl (wo_run rfl rfl (run_pickF rfl rfl rfl) ?_)
         refine wla 20 21 rfl rfl rfl rfl rfl rfl rfl ?_
         refine wl_end rfl ?_
         refine nm_sub [(4, _)] ⟨rfl, trivial⟩ ?_
         refine nm_thn ?_
         refine ws_ret hC [_] rfl rfl ⟨rfl, trivial⟩ ?_
         refine ⟨_, rfl, _, (((hle1.trans hle2).trans hle3).trans hle4).trans hle5, (S10.pick [] [] (by decide) trivial), ?_⟩
         show Value.bool _ = _
         refine congrArg Value.bool ?_
         first | rfl | (rw [decide_eq_true_iff]; omega) | (simp_all; done) | (simp_all <;> omega)
       ·replace hb49 := of_decide_eq_false hb49
        exfalso; omega
     ·replace hg42 := of_decide_eq_false hg42
      refine wl_no (k := 3) (k' := 4) (d := 43) rfl rfl ⟨_, _, _, rfl, rfl, rfl, rfl⟩ rfl rfl ?_
      refine wl_no (k := 4) (k' := 5) (d := 44) rfl rfl ⟨_, _, _, rfl, rfl, rfl, rfl⟩ rfl rfl ?_
      refine wl_no (k := 5) (k' := 6) (d := 45) rfl rfl ⟨_, _, _, rfl, rfl, rfl, rfl⟩ rfl rfl ?_
      refine wl_no (k := 6) (k' := 7) (d := 46) rfl rfl ⟨_, _, _, rfl, rfl, rfl, rfl⟩ rfl rfl ?_
      refine wlo 7 8 rfl rfl rfl (wo_run rfl rfl (run_pickF rfl rfl rfl) ?_)
      refine wl_end rfl ?_
      refine nm_sub [(1, _), (2, _), (5, _), (6, _), (7, _), (8, _), (9, _), (47, _)] ⟨rfl, rfl, rfl, rfl, rfl, rfl, rfl, rfl, trivial⟩ ?_
      refine nm_thn ?_
      refine ws_condFN HomflyTurns_n20 rfl rfl rfl ?_
      refine ws_skip rfl ?_
      refine nm_sub [(1, _), (2, _), (5, _), (6, _), (7, _), (8, _), (9, _)] ⟨rfl, rfl, rfl, rfl, rfl, rfl, rfl, trivial⟩ ?_
      refine nm_thn ?_
      refine ws_seqN HomflyTurns_n21 HomflyTurns_n22 rfl rfl rfl ?_
      refine ws_seqN HomflyTurns_n23 HomflyTurns_n24 rfl rfl rfl ?_
      refine ws_region rfl ?_
      refine wlm 0 1 rfl rfl rfl rfl rfl rfl rfl ?_
      refine wlo 1 2 rfl rfl rfl (wo_run rfl rfl (run_neq rfl rfl rfl) ?_)
      refine wl_end rfl ?_
      refine nm_sub [(1, _), (2, _), (5, _), (6, _), (7, _), (8, _), (9, _), (49, _)] ⟨rfl, rfl, rfl, rfl, rfl, rfl, rfl, rfl, trivial⟩ ?_
      refine nm_thn ?_
      refine ws_condN HomflyTurns_n25 HomflyTurns_n26 rfl rfl rfl rfl (fun hb49 => ?_) (fun hb49 => ?_)
      ·replace hb49 := of_decide_eq_true hb49
       refine ws_seqN HomflyTurns_n27 HomflyTurns_n28 rfl rfl rfl ?_
       refine ws_region rfl ?_
       refine wlm 0 1 rfl rfl rfl rfl rfl rfl rfl ?_
       refine wlm 1 2 rfl rfl rfl rfl rfl rfl rfl ?_
       refine wlo 2 3 rfl rfl rfl (wo_run rfl rfl (run_eql rfl rfl rfl) ?_)
       refine wlm 3 4 rfl rfl rfl rfl rfl rfl rfl ?_
       refine wl_split (t := 53) rfl (fun hg53 => ?_) (fun hg53 => ?_)
       ·replace hg53 := of_decide_eq_true hg53
        refine wl_opG (k := 4) (k' := 5) rfl rfl ⟨_, _, _, rfl, rfl, rfl, rfl⟩ rfl (wo_run rfl rfl (run_move rfl rfl) ?_)
        refine wl_opG (k := 5) (k' := 6) rfl rfl ⟨_, _, _, rfl, rfl, rfl, rfl⟩ rfl (wo_run rfl rfl (run_move rfl rfl) ?_)
        refine wl_opG (k := 6) (k' := 7) rfl rfl ⟨_, _, _, rfl, rfl, rfl, rfl⟩ rfl (wo_run rfl rfl (run_eql rfl rfl rfl) ?_)
        refine wlo 7 8 rfl rfl rfl (wo_run rfl rfl (run_pickT rfl rfl rfl) ?_)
        refine wlm 8 9 rfl rfl rfl rfl rfl rfl rfl ?_
        refine wl_split (t := 58) rfl (fun hg58 => ?_) (fun hg58 => ?_)
        ·replace hg58 := of_decide_eq_true hg58
         refine wl_opG (k := 9) (k' := 10) rfl rfl ⟨_, _, _, rfl, rfl, rfl, rfl⟩ rfl (wo_run rfl rfl (run_fieldAddr rfl rfl Try.underlying51 rfl (ce49) (nf49)) ?_)
         refine wl_opG (k := 10) (k' := 11) rfl rfl ⟨_, _, _, rfl, rfl, rfl, rfl⟩ rfl (wo_run rfl rfl (run_load1 rfl rfl Try.underlying49 rfl (S10.boxc (i := 1) rfl rfl)) ?_)
         refine wl_opG (k := 11) (k' := 12) rfl rfl ⟨_, _, _, rfl, rfl, rfl, rfl⟩ rfl (wo_run rfl rfl (run_len rfl rfl rfl rfl rfl rfl Try.underlying49) ?_)
         refine wl_opG (k := 12) (k' := 13) rfl rfl ⟨_, _, _, rfl, rfl, rfl, rfl⟩ rfl (wo_run rfl rfl (run_eql rfl rfl rfl) ?_)
         refine wlo 13 14 rfl rfl rfl (wo_run rfl rfl (run_pickT rfl rfl rfl) ?_)
         refine wlm 14 15 rfl rfl rfl rfl rfl rfl rfl ?_
         refine wl_split (t := 64) rfl (fun hg64 => ?_) (fun hg64 => ?_)
         ·replace hg64 := of_decide_eq_true hg64
          refine wl_opG (k := 15) (k' := 16) rfl rfl ⟨_, _, _, rfl, rfl, rfl, rfl⟩ rfl (wo_run rfl rfl (run_fieldAddr rfl rfl Try.underlying51 rfl (ce49) (nf49)) ?_)
          refine wl_opG (k := 16) (k' := 17) rfl rfl ⟨_, _, _, rfl, rfl, rfl, rfl⟩ rfl (wo_run rfl rfl (run_load1 rfl rfl Try.underlying49 rfl (S10.boxc (i := 0) rfl rfl)) ?_)
          refine wl_opG (k := 17) (k' := 18) rfl rfl ⟨_, _, _, rfl, rfl, rfl, rfl⟩ rfl (wo_run rfl rfl (run_len rfl rfl rfl rfl rfl rfl Try.underlying49) ?_)
          refine wl_opG (k := 18) (k' := 19) rfl rfl ⟨_, _, _, rfl, rfl, rfl, rfl⟩ rfl (wo_run rfl rfl (run_eql rfl rfl rfl) ?_)
          refine wlo 19 20 rfl rfl rfl (wo_run rfl rfl (run_pickT rfl rfl rfl) ?_)
          refine wla 20 21 rfl rfl rfl rfl rfl rfl rfl ?_
          refine wl_end rfl ?_
          refine nm_sub [(4, _)] ⟨rfl, trivial⟩ ?_
          refine nm_thn ?_
          refine ws_ret hC [_] rfl rfl ⟨rfl, trivial⟩ ?_
          refine ⟨_, rfl, _, (((hle1.trans hle2).trans hle3).trans hle4).trans hle5, (S10.pick [] [] (by decide) trivial), ?_⟩
          show Value.bool _ = _
          refine congrArg Value.bool ?_
          first | rfl | (rw [decide_eq_true_iff]; omega) | (simp_all; done) | (simp_all <;> omega)
         ·replace hg64 := of_decide_eq_false hg64
          refine wl_no (k := 15) (k' := 16) (d := 65) rfl rfl ⟨_, _, _, rfl, rfl, rfl, rfl⟩ rfl rfl ?_
          refine wl_no (k := 16) (k' := 17) (d := 66) rfl rfl ⟨_, _, _, rfl, rfl, rfl, rfl⟩ rfl rfl ?_
          refine wl_no (k := 17) (k' := 18) (d := 67) rfl rfl ⟨_, _, _, rfl, rfl, rfl, rfl⟩ rfl rfl ?_
          refine wl_no (k := 18) (k' := 19) (d := 68) rfl rfl ⟨_, _, _, rfl, rfl, rfl, rfl⟩ rfl rfl ?_
          refine wlo 19 20 rfl rfl rfl (wo_run rfl rfl (run_pickF rfl rfl rfl) ?_)
          refine wla 20 21 rfl rfl rfl rfl rfl rfl rfl ?_
          refine wl_end rfl ?_
          refine nm_sub [(4, _)] ⟨rfl, trivial⟩ ?_
          refine nm_thn ?_
          refine ws_ret hC [_] rfl rfl ⟨rfl, trivial⟩ ?_
          refine ⟨_, rfl, _, (((hle1.trans hle2).trans hle3).trans hle4).trans hle5, (S10.pick [] [] (by decide) trivial), ?_⟩
          show Value.bool _ = _
          refine congrArg Value.bool ?_
          first | rfl | (rw [decide_eq_true_iff]; omega) | (simp_all; done) | (simp_all <;> omega)
        ·replace hg58 := of_decide_eq_false hg58
         refine wl_no (k := 9) (k' := 10) (d := 59) rfl rfl ⟨_, _, _, rfl, rfl, rfl, rfl⟩ rfl rfl ?_
         refine wl_no (k := 10) (k' := 11) (d := 60) rfl rfl ⟨_, _, _, rfl, rfl, rfl, rfl⟩ rfl rfl ?_
         refine wl_no (k := 11) (k' := 12) (d := 61) rfl rfl ⟨_, _, _, rfl, rfl, rfl, rfl⟩ rfl rfl ?_
         refine wl_no (k := 12) (k' := 13) (d := 62) rfl rfl ⟨_, _, _, rfl, rfl, rfl, rfl⟩ rfl rfl ?_
         refine wlo 13 14 rfl rfl rfl (wo_run rfl rfl (run_pickF rfl rfl rfl) ?_)
         refine wlm 14 15 rfl rfl rfl rfl rfl rfl rfl ?_
         refine wl_no (k := 15) (k' := 16) (d := 65) rfl rfl ⟨_, _, _, rfl, rfl, rfl, rfl⟩ rfl rfl ?_
         refine wl_no (k := 16) (k' := 17) (d := 66) rfl rfl ⟨_, _, _, rfl, rfl, rfl, rfl⟩ rfl rfl ?_
         refine wl_no (k := 17) (k' := 18) (d := 67) rfl rfl ⟨_, _, _, rfl, rfl, rfl, rfl⟩ rfl rfl ?_
         refine wl_no (k := 18) (k' := 19) (d := 68) rfl rfl ⟨_, _, _, rfl, rfl, rfl, rfl⟩ rfl rfl ?_
         refine wlo 19 20 rfl rfl rfl (wo_run rfl rfl (run_pickF rfl rfl rfl) ?_)
         refine wla 20 21 rfl rfl rfl rfl rfl rfl rfl ?_
         refine wl_end rfl ?_
         refine nm_sub [(4, _)] ⟨rfl, trivial⟩ ?_
         refine nm_thn ?_
         refine ws_ret hC [_] rfl rfl ⟨rfl, trivial⟩ ?_
         refine ⟨_, rfl, _, (((hle1.trans hle2).trans hle3).trans hle4).trans hle5, (S10.pick [] [] (by decide) trivial), ?_⟩
         show Value.bool _ = _
         refine congrArg Value.bool ?_
         first | rfl | (rw [decide_eq_true_iff]; omega) | (simp_all; done) | (simp_all <;> omega)
       ·replace hg53 := of_decide_eq_false hg53
        refine wl_no (k := 4) (k' := 5) (d := 54) rfl rfl ⟨_, _, _, rfl, rfl, rfl, rfl⟩ rfl rfl ?_
        refine wl_no (k := 5) (k' := 6) (d := 55) rfl rfl ⟨_, _, _, rfl, rfl, rfl, rfl⟩ rfl rfl ?_
        refine wl_no (k := 6) (k' := 7) (d := 56) rfl rfl ⟨_, _, _, rfl, rfl, rfl, rfl⟩ rfl rfl ?_
        refine wlo 7 8 rfl rfl rfl (wo_run rfl rfl (run_pickF rfl rfl rfl) ?_)
        refine wlm 8 9 rfl rfl rfl rfl rfl rfl rfl ?_
        refine wl_no (k := 9) (k' := 10) (d := 59) rfl rfl ⟨_, _, _, rfl, rfl, rfl, rfl⟩ rfl rfl ?_
        refine wl_no (k := 10) (k' := 11) (d := 60) rfl rfl ⟨_, _, _, rfl, rfl, rfl, rfl⟩ rfl rfl ?_
        refine wl_no (k := 11) (k' := 12) (d := 61) rfl rfl ⟨_, _, _, rfl, rfl, rfl, rfl⟩ rfl rfl ?_
        refine wl_no (k := 12) (k' := 13) (d := 62) rfl rfl ⟨_, _, _, rfl, rfl, rfl, rfl⟩ rfl rfl ?_
        refine wlo 13 14 rfl rfl rfl (wo_run rfl rfl (run_pickF rfl rfl rfl) ?_)
        refine wlm 14 15 rfl rfl rfl rfl rfl rfl rfl ?_
        refine wl_no (k := 15) (k' := 16) (d := 65) rfl rfl ⟨_, _, _, rfl, rfl, rfl, rfl⟩ rfl rfl ?_
        refine wl_no (k := 16) (k' := 17) (d := 66) rfl rfl ⟨_, _, _, rfl, rfl, rfl, rfl⟩ rfl rfl ?_
        refine wl_no (k := 17) (k' := 18) (d := 67) rfl rfl ⟨_, _, _, rfl, rfl, rfl, rfl⟩ rfl rfl ?_
        refine wl_no (k := 18) (k' := 19) (d := 68) rfl rfl ⟨_, _, _, rfl, rfl, rfl, rfl⟩ rfl rfl ?_
        refine wlo 19 20 rfl rfl rfl (wo_run rfl rfl (run_pickF rfl rfl rfl) ?_)
        refine wla 20 21 rfl rfl rfl rfl rfl rfl rfl ?_
        refine wl_end rfl ?_
        refine nm_sub [(4, _)] ⟨rfl, trivial⟩ ?_
        refine nm_thn ?_
        refine ws_ret hC [_] rfl rfl ⟨rfl, trivial⟩ ?_
        refine ⟨_, rfl, _, (((hle1.trans hle2).trans hle3).trans hle4).trans hle5, (S10.pick [] [] (by decide) trivial), ?_⟩
        show Value.bool _ = _
        refine congrArg Value.bool ?_
        first | rfl | (rw [decide_eq_true_iff]; omega) | (simp_all; done) | (simp_all <;> omega)
      ·replace hb49 := of_decide_eq_false hb49
       exfalso; omega
    ·replace hg32 := of_decide_eq_false hg32
     refine wl_opG (k := 6) (k' := 7) rfl rfl ⟨_, _, _, rfl, rfl, rfl, rfl⟩ rfl (wo_run rfl rfl (run_move rfl rfl) ?_)
     refine wl_opG (k := 7) (k' := 8) rfl rfl ⟨_, _, _, rfl, rfl, rfl, rfl⟩ rfl (wo_run rfl rfl (run_fieldAddr rfl rfl Try.underlying51 rfl (ce49) (nf49)) ?_)
     refine wl_opG (k := 8) (k' := 9) rfl rfl ⟨_, _, _, rfl, rfl, rfl, rfl⟩ rfl (wo_run rfl rfl (run_load1 rfl rfl Try.underlying49 rfl (S10.boxc (i := 2) rfl rfl)) ?_)
     refine wl_opG (k := 9) (k' := 10) rfl rfl ⟨_, _, _, rfl, rfl, rfl, rfl⟩ rfl (wo_run rfl rfl (run_len rfl rfl rfl rfl rfl rfl Try.underlying49) ?_)
     refine wl_opG (k := 10) (k' := 11) rfl rfl ⟨_, _, _, rfl, rfl, rfl, rfl⟩ rfl (wo_run rfl rfl (run_geq rfl rfl rfl) ?_)
     refine wl_opG (k := 11) (k' := 12) rfl rfl ⟨_, _, _, rfl, rfl, rfl, rfl⟩ rfl (wo_run rfl rfl (run_pickF rfl rfl rfl) ?_)
     refine wlo 12 13 rfl rfl rfl (wo_run rfl rfl (run_pickT rfl rfl rfl) ?_)
     refine wl_end rfl ?_
     refine nm_sub [(1, _), (2, _), (5, _), (6, _), (7, _), (8, _), (9, _), (39, _)] ⟨rfl, rfl, rfl, rfl, rfl, rfl, rfl, rfl, trivial⟩ ?_
     refine nm_thn ?_
     refine ws_condN HomflyTurns_n13 HomflyTurns_n14 rfl rfl rfl rfl (fun hb39 => ?_) (fun hb39 => ?_)
     ·replace hb39 := of_decide_eq_true hb39
      refine ws_region rfl ?_
      refine wla 0 1 rfl rfl rfl rfl rfl rfl rfl ?_
      refine wl_end rfl ?_
      refine nm_sub [(1, _), (2, _), (5, _), (6, _), (7, _), (8, _), (9, _)] ⟨rfl, rfl, rfl, rfl, rfl, rfl, rfl, trivial⟩ ?_
      refine nm_thn ?_
      refine ws_seqN HomflyTurns_n15 HomflyTurns_n16 rfl rfl rfl ?_
      refine ws_seqN HomflyTurns_n17 HomflyTurns_n18 rfl rfl rfl ?_
      refine ws_region rfl ?_
      refine wlm 0 1 rfl rfl rfl rfl rfl rfl rfl ?_
      refine wlo 1 2 rfl rfl rfl (wo_run rfl rfl (run_eql rfl rfl rfl) ?_)
      refine wlm 2 3 rfl rfl rfl rfl rfl rfl rfl ?_
      refine wl_split (t := 42) rfl (fun hg42 => ?_) (fun hg42 => ?_)
      ·replace hg42 := of_decide_eq_true hg42
       refine wl_opG (k := 3) (k' := 4) rfl rfl ⟨_, _, _, rfl, rfl, rfl, rfl⟩ rfl (wo_run rfl rfl (run_fieldAddr rfl rfl Try.underlying51 rfl (ce49) (nf49)) ?_)
       refine wl_opG (k := 4) (k' := 5) rfl rfl ⟨_, _, _, rfl, rfl, rfl, rfl⟩ rfl (wo_run rfl rfl (run_load1 rfl rfl Try.underlying49 rfl (S10.boxc (i := 2) rfl rfl)) ?_)
       refine wl_opG (k := 5) (k' := 6) rfl rfl ⟨_, _, _, rfl, rfl, rfl, rfl⟩ rfl (wo_run rfl rfl (run_len rfl rfl rfl rfl rfl rfl Try.underlying49) ?_)
       refine wl_opG (k := 6) (k' := 7) rfl rfl ⟨_, _, _, rfl, rfl, rfl, rfl⟩ rfl (wo_run rfl rfl (run_gtr rfl rfl rfl) ?_)
       refine wlo 7 8 rfl rfl rfl (wo_run rfl rfl (run_pickT rfl rfl rfl) ?_)
       refine wl_end rfl ?_
       refine nm_sub [(1, _), (2, _), (5, _), (6, _), (7, _), (8, _), (9, _), (47, _)] ⟨rfl, rfl, rfl, rfl, rfl, rfl, rfl, rfl, trivial⟩ ?_
       refine nm_thn ?_
       refine ws_condN HomflyTurns_n19 HomflyTurns_n20 rfl rfl rfl rfl (fun hb47 => ?_) (fun hb47 => ?_)
       ·replace hb47 := of_decide_eq_true hb47
        refine ws_region rfl ?_
        refine wla 0 1 rfl rfl rfl rfl rfl rfl rfl ?_
        refine wl_end rfl ?_
        refine nm_sub [(1, _), (2, _), (5, _), (6, _), (7, _), (8, _), (9, _)] ⟨rfl, rfl, rfl, rfl, rfl, rfl, rfl, trivial⟩ ?_
        refine nm_thn ?_
        refine ws_seqN HomflyTurns_n21 HomflyTurns_n22 rfl rfl rfl ?_
        refine ws_seqN HomflyTurns_n23 HomflyTurns_n24 rfl rfl rfl ?_
        refine ws_region rfl ?_
        refine wlm 0 1 rfl rfl rfl rfl rfl rfl rfl ?_
        refine wlo 1 2 rfl rfl rfl (wo_run rfl rfl (run_neq rfl rfl rfl) ?_)
        refine wl_end rfl ?_
        refine nm_sub [(1, _), (2, _), (5, _), (6, _), (7, _), (8, _), (9, _), (49, _)] ⟨rfl, rfl, rfl, rfl, rfl, rfl, rfl, rfl, trivial⟩ ?_
        refine nm_thn ?_
        refine ws_condN HomflyTurns_n25 HomflyTurns_n26 rfl rfl rfl rfl (fun hb49 => ?_) (fun hb49 => ?_)
        ·replace hb49 := of_decide_eq_true hb49
         refine ws_seqN HomflyTurns_n27 HomflyTurns_n28 rfl rfl rfl ?_
         refine ws_region rfl ?_
         refine wlm 0 1 rfl rfl rfl rfl rfl rfl rfl ?_
         refine wlm 1 2 rfl rfl rfl rfl rfl rfl rfl ?_
         refine wlo 2 3 rfl rfl rfl (wo_run rfl rfl (run_eql rfl rfl rfl) ?_)
         refine wlm 3 4 rfl rfl rfl rfl rfl rfl rfl ?_
         refine wl_split (t := 53) rfl (fun hg53 => ?_) (fun hg53 => ?_)
         ·replace hg53 := of_decide_eq_true hg53
          refine wl_opG (k := 4) (k' := 5) rfl rfl ⟨_, _, _, rfl, rfl, rfl, rfl⟩ rfl (wo_run rfl rfl (run_move rfl rfl) ?_)
          refine wl_opG (k := 5) (k' := 6) rfl rfl ⟨_, _, _, rfl, rfl, rfl, rfl⟩ rfl (wo_run rfl rfl (run_move rfl rfl) ?_)
          refine wl_opG (k := 6) (k' := 7) rfl rfl ⟨_, _, _, rfl, rfl, rfl, rfl⟩ rfl (wo_run rfl rfl (run_eql rfl rfl rfl) ?_)
          refine wlo 7 8 rfl rfl rfl (wo_run rfl rfl (run_pickT rfl rfl rfl) ?_)
          refine wlm 8 9 rfl rfl rfl rfl rfl rfl rfl ?_
          refine wl_split (t := 58) rfl (fun hg58 => ?_) (fun hg58 => ?_)
          ·replace hg58 := of_decide_eq_true hg58
           refine wl_opG (k := 9) (k' := 10) rfl rfl ⟨_, _, _, rfl, rfl, rfl, rfl⟩ rfl (wo_run rfl rfl (run_fieldAddr rfl rfl Try.underlying51 rfl (ce49) (nf49)) ?_)
           refine wl_opG (k := 10) (k' := 11) rfl rfl ⟨_, _, _, rfl, rfl, rfl, rfl⟩ rfl (wo_run rfl rfl (run_load1 rfl rfl Try.underlying49 rfl (S10.boxc (i := 1) rfl rfl)) ?_)
           refine wl_opG (k := 11) (k' := 12) rfl rfl ⟨_, _, _, rfl, rfl, rfl, rfl⟩ rfl (wo_run rfl rfl (run_len rfl rfl rfl rfl rfl rfl Try.underlying49) ?_)
           refine wl_opG (k := 12) (k' := 13) rfl rfl ⟨_, _, _, rfl, rfl, rfl, rfl⟩ rfl (wo_run rfl rfl (run_eql rfl rfl rfl) ?_)
           refine wlo 13 14 rfl rfl rfl (wo_run rfl rfl (run_pickT rfl rfl rfl) ?_)
           refine wlm 14 15 rfl rfl rfl rfl rfl rfl rfl ?_
           refine wl_split (t := 64) rfl (fun hg64 => ?_) (fun hg64 => ?_)
           ·replace hg64 := of_decide_eq_true hg64
            refine wl_opG (k := 15) (k' := 16) rfl rfl ⟨_, _, _, rfl, rfl, rfl, rfl⟩ rfl (wo_run rfl rfl (run_fieldAddr rfl rfl Try.underlying51 rfl (ce49) (nf49)) ?_)
            refine wl_opG (k := 16) (k' := 17) rfl rfl ⟨_, _, _, rfl, rfl, rfl, rfl⟩ rfl (wo_run rfl rfl (run_load1 rfl rfl Try.underlying49 rfl (S10.boxc (i := 0) rfl rfl)) ?_)
            refine wl_opG (k := 17) (k' := 18) rfl rfl ⟨_, _, _, rfl, rfl, rfl, rfl⟩ rfl (wo_run rfl rfl (run_len rfl rfl rfl rfl rfl rfl Try.underlying49) ?_)
            refine wl_opG (k := 18) (k' := 19) rfl rfl ⟨_, _, _, rfl, rfl, rfl, rfl⟩ rfl (wo_run rfl rfl (run_eql rfl rfl rfl) ?_)
            refine wlo 19 20 rfl rfl rfl (wo_run rfl rfl (run_pickT rfl rfl rfl) ?_)
            refine wla 20 21 rfl rfl rfl rfl rfl rfl rfl ?_
            refine wl_end rfl ?_
            refine nm_sub [(4, _)] ⟨rfl, trivial⟩ ?_
            refine nm_thn ?_
            refine ws_ret hC [_] rfl rfl ⟨rfl, trivial⟩ ?_
            refine ⟨_, rfl, _, (((hle1.trans hle2).trans hle3).trans hle4).trans hle5, (S10.pick [] [] (by decide) trivial), ?_⟩
            show Value.bool _ = _
            refine congrArg Value.bool ?_
            first | rfl | (rw [decide_eq_true_iff]; omega) | (simp_all; done) | (simp_all <;> omega)
           ·replace hg64 := of_decide_eq_false hg64
            refine wl_no (k := 15) (k' := 16) (d := 65) rfl rfl ⟨_, _, _, rfl, rfl, rfl, rfl⟩ rfl rfl ?_
            refine wl_no (k := 16) (k' := 17) (d := 66) rfl rfl ⟨_, _, _, rfl, rfl, rfl, rfl⟩ rfl rfl ?_
            refine wl_no (k := 17) (k' := 18) (d := 67) rfl rfl ⟨_, _, _, rfl, rfl, rfl, rfl⟩ rfl rfl ?_
            refine wl_no (k := 18) (k' := 19) (d := 68) rfl rfl ⟨_, _, _, rfl, rfl, rfl, rfl⟩ rfl rfl ?_
            refine wlo 19 20 rfl rfl rfl (wo_run rfl rfl (run_pickF rfl rfl rfl) ?_)
            refine wla 20 21 rfl rfl rfl rfl rfl rfl rfl ?_
            refine wl_end rfl ?_
            refine nm_sub [(4, _)] ⟨rfl, trivial⟩ ?_
            refine nm_thn ?_
            refine ws_ret hC [_] rfl rfl ⟨rfl, trivial⟩ ?_
            refine ⟨_, rfl, _, (((hle1.trans hle2).trans hle3).trans hle4).trans hle5, (S10.pick [] [] (by decide) trivial), ?_⟩
            show Value.bool _ = _
            refine congrArg Value.bool ?_
            first | rfl | (rw [decide_eq_true_iff]; omega) | (simp_all; done) | (simp_all <;> omega)
          ·replace hg58 := of_decide_eq_false hg58
           refine wl_no (k := 9) (k' := 10) (d := 59) rfl rfl ⟨_, _, _, rfl, rfl, rfl, rfl⟩ rfl rfl ?_
           refine wl_no (k := 10) (k' := 11) (d := 60) rfl rfl ⟨_, _, _, rfl, rfl, rfl, rfl⟩ rfl rfl ?_
           refine wl_no (k := 11) (k' := 12) (d := 61) rfl rfl ⟨_, _, _, rfl, rfl, rfl, rfl⟩ rfl rfl ?_
           refine wl_no (k := 12) (k' := 13) (d := 62) rfl rfl ⟨_, _, _, rfl, rfl, rfl, rfl⟩ rfl rfl ?_
           refine wlo 13 14 rfl rfl rfl (wo_run rfl rfl (run_pickF rfl rfl rfl) ?_)
           refine wlm 14 15 rfl rfl rfl rfl rfl rfl rfl ?_
           refine wl_no (k := 15) (k' := 16) (d := 65) rfl rfl ⟨_, _, _, rfl, rfl, rfl, rfl⟩ rfl rfl ?_
           refine wl_no (k := 16) (k' := 17) (d := 66) rfl rfl ⟨_, _, _, rfl, rfl, rfl, rfl⟩ rfl rfl ?_
           refine wl_no (k := 17) (k' := 18) (d := 67) rfl rfl ⟨_, _, _, rfl, rfl, rfl, rfl⟩ rfl rfl ?_
           refine wl_no (k := 18) (k' := 19) (d := 68) rfl rfl ⟨_, _, _, rfl, rfl, rfl, rfl⟩ rfl rfl ?_
           refine wlo 19 20 rfl rfl rfl (wo_run rfl rfl (run_pickF rfl rfl rfl) ?_)
           refine wla 20 21 rfl rfl rfl rfl rfl rfl rfl ?_
           refine wl_end rfl ?_
           refine nm_sub [(4, _)] ⟨rfl, trivial⟩ ?_
           refine nm_thn ?_
           refine ws_ret hC [_] rfl rfl ⟨rfl, trivial⟩ ?_
           refine ⟨_, rfl, _, (((hle1.trans hle2).trans hle3).trans hle4).trans hle5, (S10.pick [] [] (by decide) trivial), ?_⟩
           show Value.bool _ = _
           refine congrArg Value.bool ?_
           first | rfl | (rw [decide_eq_true_iff]; omega) | (simp_all; done) | (simp_all <;> omega)
         ·replace hg53 := of_decide_eq_false hg53
          refine wl_no (k := 4) (k' := 5) (d := 54) rfl rfl ⟨_, _, _, rfl, rfl, rfl, rfl⟩ rfl rfl ?_
          refine wl_no (k := 5) (k' := 6) (d := 55) rfl rfl ⟨_, _, _, rfl, rfl, rfl, rfl⟩ rfl rfl ?_
          refine wl_no (k := 6) (k' := 7) (d := 56) rfl rfl ⟨_, _, _, rfl, rfl, rfl, rfl⟩ rfl rfl ?_
          refine wlo 7 8 rfl rfl rfl (wo_run rfl rfl (run_pickF rfl rfl rfl) ?_)
          refine wlm 8 9 rfl rfl rfl rfl rfl rfl rfl ?_
          refine wl_no (k := 9) (k' := 10) (d := 59) rfl rfl ⟨_, _, _, rfl, rfl, rfl, rfl⟩ rfl rfl ?_
          refine wl_no (k := 10) (k' := 11) (d := 60) rfl rfl ⟨_, _, _, rfl, rfl, rfl, rfl⟩ rfl rfl ?_
          refine wl_no (k := 11) (k' := 12) (d := 61) rfl rfl ⟨_, _, _, rfl, rfl, rfl, rfl⟩ rfl rfl ?_
          refine wl_no (k := 12) (k' := 13) (d := 62) rfl rfl ⟨_, _, _, rfl, rfl, rfl, rfl⟩ rfl rfl ?_
          refine wlo 13 14 rfl rfl rfl (wo_run rfl rfl (run_pickF rfl rfl rfl) ?_)
          refine wlm 14 15 rfl rfl rfl rfl rfl rfl rfl ?_
          refine wl_no (k := 15) (k' := 16) (d := 65) rfl rfl ⟨_, _, _, rfl, rfl, rfl, rfl⟩ rfl rfl ?_
          refine wl_no (k := 16) (k' := 17) (d := 66) rfl rfl ⟨_, _, _, rfl, rfl, rfl, rfl⟩ rfl rfl ?_
          refine wl_no (k := 17) (k' := 18) (d := 67) rfl rfl ⟨_, _, _, rfl, rfl, rfl, rfl⟩ rfl rfl ?_
          refine wl_no (k := 18) (k' := 19) (d := 68) rfl rfl ⟨_, _, _, rfl, rfl, rfl, rfl⟩ rfl rfl ?_
          refine wlo 19 20 rfl rfl rfl (wo_run rfl rfl (run_pickF rfl rfl rfl) ?_)
          refine wla 20 21 rfl rfl rfl rfl rfl rfl rfl ?_
          refine wl_end rfl ?_
          refine nm_sub [(4, _)] ⟨rfl, trivial⟩ ?_
          refine nm_thn ?_
          refine ws_ret hC [_] rfl rfl ⟨rfl, trivial⟩ ?_
          refine ⟨_, rfl, _, (((hle1.trans hle2).trans hle3).trans hle4).trans hle5, (S10.pick [] [] (by decide) trivial), ?_⟩
          show Value.bool _ = _
          refine congrArg Value.bool ?_
          first | rfl | (rw [decide_eq_true_iff]; omega) | (simp_all; done) | (simp_all <;> omega)
        ·replace hb49 := of_decide_eq_false hb49
         exfalso; omega
       ·replace hb47 := of_decide_eq_false hb47
        refine ws_skip rfl ?_
        refine nm_sub [(1, _), (2, _), (5, _), (6, _), (7, _), (8, _), (9, _)] ⟨rfl, rfl, rfl, rfl, rfl, rfl, rfl, trivial⟩ ?_
        refine nm_thn ?_
        refine ws_seqN HomflyTurns_n21 HomflyTurns_n22 rfl rfl rfl ?_
        refine ws_seqN HomflyTurns_n23 HomflyTurns_n24 rfl rfl rfl ?_
        refine ws_region rfl ?_
        refine wlm 0 1 rfl rfl rfl rfl rfl rfl rfl ?_
        refine wlo 1 2 rfl rfl rfl (wo_run rfl rfl (run_neq rfl rfl rfl) ?_)
        refine wl_end rfl ?_
        refine nm_sub [(1, _), (2, _), (5, _), (6, _), (7, _), (8, _), (9, _), (49, _)] ⟨rfl, rfl, rfl, rfl, rfl, rfl, rfl, rfl, trivial⟩ ?_
        refine nm_thn ?_
        refine ws_condN HomflyTurns_n25 HomflyTurns_n26 rfl rfl rfl rfl (fun hb49 => ?_) (fun hb49 => ?_)
        ·replace hb49 := of_decide_eq_true hb49
         refine ws_seqN HomflyTurns_n27 HomflyTurns_n28 rfl rfl rfl ?_
         refine ws_region rfl ?_
         refine wlm 0 1 rfl rfl rfl rfl rfl rfl rfl ?_
         refine wlm 1 2 rfl rfl rfl rfl rfl rfl rfl ?_
         refine wlo 2 3 rfl rfl rfl (wo_run rfl rfl (run_eql rfl rfl rfl) ?_)
         refine wlm 3 4 rfl rfl rfl rfl rfl rfl rfl ?_
         refine wl_split (t := 53) rfl (fun hg53 => ?_) (fun hg53 => ?_)
         ·replace hg53 := of_decide_eq_true hg53
          refine wl_opG (k := 4) (k' := 5) rfl rfl ⟨_, _, _, rfl, rfl, rfl, rfl⟩ rfl (wo_run rfl rfl (run_move rfl rfl) ?_)
          refine wl_opG (k := 5) (k' := 6) rfl rfl ⟨_, _, _, rfl, rfl, rfl, rfl⟩ rfl (wo_run rfl rfl (run_move rfl rfl) ?_)
          refine wl_opG (k := 6) (k' := 7) rfl rfl ⟨_, _, _, rfl, rfl, rfl, rfl⟩ rfl (wo_run rfl rfl (run_eql rfl rfl rfl) ?_)
          refine wlo 7 8 rfl rfl rfl (wo_run rfl rfl (run_pickT rfl rfl rfl) ?_)
          refine wlm 8 9 rfl rfl rfl rfl rfl rfl rfl ?_
          refine wl_split (t := 58) rfl (fun hg58 => ?_) (fun hg58 => ?_)
          ·replace hg58 := of_decide_eq_true hg58
           refine wl_opG (k := 9) (k' := 10) rfl rfl ⟨_, _, _, rfl, rfl, rfl, rfl⟩ rfl (wo_run rfl rfl (run_fieldAddr rfl rfl Try.underlying51 rfl (ce49) (nf49)) ?_)
           refine wl_opG (k := 10) (k' := 11) rfl rfl ⟨_, _, _, rfl, rfl, rfl, rfl⟩ rfl (wo_run rfl rfl (run_load1 rfl rfl Try.underlying49 rfl (S10.boxc (i := 1) rfl rfl)) ?_)
           refine wl_opG (k := 11) (k' := 12) rfl rfl ⟨_, _, _, rfl, rfl, rfl, rfl⟩ rfl (wo_run rfl rfl (run_len rfl rfl rfl rfl rfl rfl Try.underlying49) ?_)
           refine wl_opG (k := 12) (k' := 13) rfl rfl ⟨_, _, _, rfl, rfl, rfl, rfl⟩ rfl (wo_run rfl rfl (run_eql rfl rfl rfl) ?_)
           refine wlo 13 14 rfl rfl rfl (wo_run rfl rfl (run_pickT rfl rfl rfl) ?_)
           refine wlm 14 15 rfl rfl rfl rfl rfl rfl rfl ?_
           refine wl_split (t := 64) rfl (fun hg64 => ?_) (fun hg64 => ?_)
           ·replace hg64 := of_decide_eq_true hg64
            refine wl_opG (k := 15) (k' := 16) rfl rfl ⟨_, _, _, rfl, rfl, rfl, rfl⟩ rfl (wo_run rfl rfl (run_fieldAddr rfl rfl Try.underlying51 rfl (ce49) (nf49)) ?_)
            refine wl_opG (k := 16) (k' := 17) rfl rfl ⟨_, _, _, rfl, rfl, rfl, rfl⟩ rfl (wo_run rfl rfl (run_load1 rfl rfl Try.underlying49 rfl (S10.boxc (i := 0) rfl rfl)) ?_)
            refine wl_opG (k := 17) (k' := 18) rfl rfl ⟨_, _, _, rfl, rfl, rfl, rfl⟩ rfl (wo_run rfl rfl (run_len rfl rfl rfl rfl rfl rfl Try.underlying49) ?_)
            refine wl_opG (k := 18) (k' := 19) rfl rfl ⟨_, _, _, rfl, rfl, rfl, rfl⟩ rfl (wo_run rfl rfl (run_eql rfl rfl rfl) ?_)
            refine wlo 19 20 rfl rfl rfl (wo_run rfl rfl (run_pickT rfl rfl rfl) ?_)
            refine wla 20 21 rfl rfl rfl rfl rfl rfl rfl ?_
            refine wl_end rfl ?_
            refine nm_sub [(4, _)] ⟨rfl, trivial⟩ ?_
            refine nm_thn ?_
            refine ws_ret hC [_] rfl rfl ⟨rfl, trivial⟩ ?_
            refine ⟨_, rfl, _, (((hle1.trans hle2).trans hle3).trans hle4).trans hle5, (S10.pick [] [] (by decide) trivial), ?_⟩
            show Value.bool _ = _
            refine congrArg Value.bool ?_
            first | rfl | (rw [decide_eq_true_iff]; omega) | (simp_all; done) | (simp_all <;> omega)
           ·replace hg64 := of_decide_eq_false hg64
            refine wl_no (k := 15) (k' := 16) (d := 65) rfl rfl ⟨_, _, _, rfl, rfl, rfl, rfl⟩ rfl rfl ?_
            refine wl_no (k := 16) (k' := 17) (d := 66) rfl rfl ⟨_, _, _, rfl, rfl, rfl, rfl⟩ rfl rfl ?_
            refine wl_no (k := 17) (k' := 18) (d := 67) rfl rfl ⟨_, _, _, rfl, rfl, rfl, rfl⟩ rfl rfl ?_
            refine wl_no (k := 18) (k' := 19) (d := 68) rfl rfl ⟨_, _, _, rfl, rfl, rfl, rfl⟩ rfl rfl ?_
            refine wlo 19 20 rfl rfl rfl (wo_run rfl rfl (run_pickF rfl rfl rfl) ?_)
            refine wla 20 21 rfl rfl rfl rfl rfl rfl rfl ?_
            refine wl_end rfl ?_
            refine nm_sub [(4, _)] ⟨rfl, trivial⟩ ?_
            refine nm_thn ?_
            refine ws_ret hC [_] rfl rfl ⟨rfl, trivial⟩ ?_
            refine ⟨_, rfl, _, (((hle1.trans hle2).trans hle3).trans hle4).trans hle5, (S10.pick [] [] (by decide) trivial), ?_⟩
            show Value.bool _ = _
            refine congrArg Value.bool ?_
            first | rfl | (rw [decide_eq_true_iff]; omega) | (simp_all; done) | (simp_all <;> omega)
          ·replace hg58 := of_decide_eq_false hg58
           refine wl_no (k := 9) (k' := 10) (d := 59) rfl rfl ⟨_, _, _, rfl, rfl, rfl, rfl⟩ rfl rfl ?_
           refine wl_no (k := 10) (k' := 11) (d := 60) rfl rfl ⟨_, _, _, rfl, rfl, rfl, rfl⟩ rfl rfl ?_
           refine wl_no (k := 11) (k' := 12) (d := 61) rfl rfl ⟨_, _, _, rfl, rfl, rfl, rfl⟩ rfl rfl ?_
           refine wl_no (k := 12) (k' := 13) (d := 62) rfl rfl ⟨_, _, _, rfl, rfl, rfl, rfl⟩ rfl rfl ?_
           refine wlo 13 14 rfl rfl rfl (wo_run rfl rfl (run_pickF rfl rfl rfl) ?_)
           refine wlm 14 15 rfl rfl rfl rfl rfl rfl rfl ?_
           refine wl_no (k := 15) (k' := 16) (d := 65) rfl rfl ⟨_, _, _, rfl, rfl, rfl, rfl⟩ rfl rfl ?_
           refine wl_no (k := 16) (k' := 17) (d := 66) rfl rfl ⟨_, _, _, rfl, rfl, rfl, rfl⟩ rfl rfl ?_
           refine wl_no (k := 17) (k' := 18) (d := 67) rfl rfl ⟨_, _, _, rfl, rfl, rfl, rfl⟩ rfl rfl ?_
           refine wl_no (k := 18) (k' := 19) (d := 68) rfl rfl ⟨_, _, _, rfl, rfl, rfl, rfl⟩ rfl rfl ?_
           refine wlo 19 20 rfl rfl rfl (wo_run rfl rfl (run_pickF rfl rfl rfl) ?_)
           refine wla 20 21 rfl rfl rfl rfl rfl rfl rfl ?_
           refine wl_end rfl ?_
           refine nm_sub [(4, _)] ⟨rfl, trivial⟩ ?_
           refine nm_thn ?_
           refine ws_ret hC [_] rfl rfl ⟨rfl, trivial⟩ ?_
           refine ⟨_, rfl, _, (((hle1.trans hle2).trans hle3).trans hle4).trans hle5, (S10.pick [] [] (by decide) trivial), ?_⟩
           show Value.bool _ = _
           refine congrArg Value.bool ?_
           first | rfl | (rw [decide_eq_true_iff]; omega) | (simp_all; done) | (simp_all <;> omega)
         ·replace hg53 := of_decide_eq_false hg53
          refine wl_no (k := 4) (k' := 5) (d := 54) rfl rfl ⟨_, _, _, rfl, rfl, rfl, rfl⟩ rfl rfl ?_
          refine wl_no (k := 5) (k' := 6) (d := 55) rfl rfl ⟨_, _, _, rfl, rfl, rfl, rfl⟩ rfl rfl ?_
          refine wl_no (k := 6) (k' := 7) (d := 56) rfl rfl ⟨_, _, _, rfl, rfl, rfl, rfl⟩ rfl rfl ?_
          refine wlo 7 8 rfl rfl rfl (wo_run rfl rfl (run_pickF rfl rfl rfl) ?_)
          refine wlm 8 9 rfl rfl rfl rfl rfl rfl rfl ?_
          refine wl_no (k := 9) (k' := 10) (d := 59) rfl rfl ⟨_, _, _, rfl, rfl, rfl, rfl⟩ rfl rfl ?_
          refine wl_no (k := 10) (k' := 11) (d := 60) rfl rfl ⟨_, _, _, rfl, rfl, rfl, rfl⟩ rfl rfl ?_
          refine wl_no (k := 11) (k' := 12) (d := 61) rfl rfl ⟨_, _, _, rfl, rfl, rfl, rfl⟩ rfl rfl ?_
          refine wl_no (k := 12) (k' := 13) (d := 62) rfl rfl ⟨_, _, _, rfl, rfl, rfl, rfl⟩ rfl rfl ?_
          refine wlo 13 14 rfl rfl rfl (wo_run rfl rfl (run_pickF rfl rfl rfl) ?_)
          refine wlm 14 15 rfl rfl rfl rfl rfl rfl rfl ?_
          refine wl_no (k := 15) (k' := 16) (d := 65) rfl rfl ⟨_, _, _, rfl, rfl, rfl, rfl⟩ rfl rfl ?_
          refine wl_no (k := 16) (k' := 17) (d := 66) rfl rfl ⟨_, _, _, rfl, rfl, rfl, rfl⟩ rfl rfl ?_
          refine wl_no (k := 17) (k' := 18) (d := 67) rfl rfl ⟨_, _, _, rfl, rfl, rfl, rfl⟩ rfl rfl ?_
          refine wl_no (k := 18) (k' := 19) (d := 68) rfl rfl ⟨_, _, _, rfl, rfl, rfl, rfl⟩ rfl rfl ?_
          refine wlo 19 20 rfl rfl rfl (wo_run rfl rfl (run_pickF rfl rfl rfl) ?_)
          refine wla 20 21 rfl rfl rfl rfl rfl rfl rfl ?_
          refine wl_end rfl ?_
          refine nm_sub [(4, _)] ⟨rfl, trivial⟩ ?_
          refine nm_thn ?_
          refine ws_ret hC [_] rfl rfl ⟨rfl, trivial⟩ ?_
          refine ⟨_, rfl, _, (((hle1.trans hle2).trans hle3).trans hle4).trans hle5, (S10.pick [] [] (by decide) trivial), ?_⟩
          show Value.bool _ = _
          refine congrArg Value.bool ?_
          first | rfl | (rw [decide_eq_true_iff]; omega) | (simp_all; done) | (simp_all <;> omega)
        ·replace hb49 := of_decide_eq_false hb49
         exfalso; omega
      ·replace hg42 := of_decide_eq_false hg42
       refine wl_no (k := 3) (k' := 4) (d := 43) rfl rfl ⟨_, _, _, rfl, rfl, rfl, rfl⟩ rfl rfl ?_
       refine wl_no (k := 4) (k' := 5) (d := 44) rfl rfl ⟨_, _, _, rfl, rfl, rfl, rfl⟩ rfl rfl ?_
       refine wl_no (k := 5) (k' := 6) (d := 45) rfl rfl ⟨_, _, _, rfl, rfl, rfl, rfl⟩ rfl rfl ?_
       refine wl_no (k := 6) (k' := 7) (d := 46) rfl rfl ⟨_, _, _, rfl, rfl, rfl, rfl⟩ rfl rfl ?_
       refine wlo 7 8 rfl rfl rfl (wo_run rfl rfl (run_pickF rfl rfl rfl) ?_)
       refine wl_end rfl ?_
       refine nm_sub [(1, _), (2, _), (5, _), (6, _), (7, _), (8, _), (9, _), (47, _)] ⟨rfl, rfl, rfl, rfl, rfl, rfl, rfl, rfl, trivial⟩ ?_
       refine nm_thn ?_
       refine ws_condFN HomflyTurns_n20 rfl rfl rfl ?_
       refine ws_skip rfl ?_
       refine nm_sub [(1, _), (2, _), (5, _), (6, _), (7, _), (8, _), (9, _)] ⟨rfl, rfl, rfl, rfl, rfl, rfl, rfl, trivial⟩ ?_
       refine nm_thn ?_
       refine ws_seqN HomflyTurns_n21 HomflyTurns_n22 rfl rfl rfl ?_
       refine ws_seqN HomflyTurns_n23 HomflyTurns_n24 rfl rfl rfl ?_
       refine ws_region rfl ?_
       refine wlm 0 1 rfl rfl rfl rfl rfl rfl rfl ?_
       refine wlo 1 2 rfl rfl rfl (wo_run rfl rfl (run_neq rfl rfl rfl) ?_)
       refine wl_end rfl ?_
       refine nm_sub [(1, _), (2, _), (5, _), (6, _), (7, _), (8, _), (9, _), (49, _)] ⟨rfl, rfl, rfl, rfl, rfl, rfl, rfl, rfl, trivial⟩ ?_
       refine nm_thn ?_
       refine ws_condN HomflyTurns_n25 HomflyTurns_n26 rfl rfl rfl rfl (fun hb49 => ?_) (fun hb49 => ?_)
       ·replace hb49 := of_decide_eq_true hb49
        refine ws_seqN HomflyTurns_n27 HomflyTurns_n28 rfl rfl rfl ?_
        refine ws_region rfl ?_
        refine wlm 0 1 rfl rfl rfl rfl rfl rfl rfl ?_
        refine wlm 1 2 rfl rfl rfl rfl rfl rfl rfl ?_
        refine wlo 2 3 rfl rfl rfl (wo_run rfl rfl (run_eql rfl rfl rfl) ?_)
        refine wlm 3 4 rfl rfl rfl rfl rfl rfl rfl ?_
        refine wl_split (t := 53) rfl (fun hg53 => ?_) (fun hg53 => ?_)
        ·replace hg53 := of_decide_eq_true hg53
         refine wl_opG (k := 4) (k' := 5) rfl rfl ⟨_, _, _, rfl, rfl, rfl, rfl⟩ rfl (wo_run rfl rfl (run_move rfl rfl) ?_)
         refine wl_opG (k := 5) (k' := 6) rfl rfl ⟨_, _, _, rfl, rfl, rfl, rfl⟩ rfl (wo_run rfl rfl (run_move rfl rfl) ?_)
         refine wl_opG (k := 6) (k' := 7) rfl rfl ⟨_, _, _, rfl, rfl, rfl, rfl⟩ rfl (wo_run rfl rfl (run_eql rfl rfl rfl) ?_)
         refine wlo 7 8 rfl rfl rfl (wo_run rfl rfl (run_pickT rfl rfl rfl) ?_)
         refine wlm 8 9 rfl rfl rfl rfl rfl rfl rfl ?_
         refine wl_split (t := 58) rfl (fun hg58 => ?_) (fun hg58 => ?_)
         ·replace hg58 := of_decide_eq_true hg58
          refine wl_opG (k := 9) (k' := 10) rfl rfl ⟨_, _, _, rfl, rfl, rfl, rfl⟩ rfl (wo_run rfl rfl (run_fieldAddr rfl rfl Try.underlying51 rfl (ce49) (nf49)) ?_)
          refine wl_opG (k := 10) (k' := 11) rfl rfl ⟨_, _, _, rfl, rfl, rfl, rfl⟩ rfl (wo_run rfl rfl (run_load1 rfl rfl Try.underlying49 rfl (S10.boxc (i := 1) rfl rfl)) ?_)
          refine wl_opG (k := 11) (k' := 12) rfl rfl ⟨_, _, _, rfl, rfl, rfl, rfl⟩ rfl (wo_run rfl rfl (run_len rfl rfl rfl rfl rfl rfl Try.underlying49) ?_)
          refine wl_opG (k := 12) (k' := 13) rfl rfl ⟨_, _, _, rfl, rfl, rfl, rfl⟩ rfl (wo_run rfl rfl (run_eql rfl rfl rfl) ?_)
          refine wlo 13 14 rfl rfl rfl (wo_run rfl rfl (run_pickT rfl rfl rfl) ?_)
          refine wlm 14 15 rfl rfl rfl rfl rfl rfl rfl ?_
          refine wl_split (t := 64) rfl (fun hg64 => ?_) (fun hg64 => ?_)
          ·replace hg64 := of_decide_eq_true hg64
           refine wl_opG (k := 15) (k' := 16) rfl rfl ⟨_, _, _, rfl, rfl, rfl, rfl⟩ rfl (wo_run rfl rfl (run_fieldAddr rfl rfl Try.underlying51 rfl (ce49) (nf49)) ?_)
           refine wl_opG (k := 16) (k' := 17) rfl rfl ⟨_, _, _, rfl, rfl, rfl, rfl⟩ rfl (wo_run rfl rfl (run_load1 rfl rfl Try.underlying49 rfl (S10.boxc (i := 0) rfl rfl)) ?_)
           refine wl_opG (k := 17) (k' := 18) rfl rfl ⟨_, _, _, rfl, rfl, rfl, rfl⟩ rfl (wo_run rfl rfl (run_len rfl rfl rfl rfl rfl rfl Try.underlying49) ?_)
           refine wl_opG (k := 18) (k' := 19) rfl rfl ⟨_, _, _, rfl, rfl, rfl, rfl⟩ rfl (wo_run rfl rfl (run_eql rfl rfl rfl) ?_)
           refine wlo 19 20 rfl rfl rfl (wo_run rfl rfl (run_pickT rfl rfl rfl) ?_)
           refine wla 20 21 rfl rfl rfl rfl rfl rfl rfl ?_
           refine wl_end rfl ?_
           refine nm_sub [(4, _)] ⟨rfl, trivial⟩ ?_
           refine nm_thn ?_
           refine ws_ret hC [_] rfl rfl ⟨rfl, trivial⟩ ?_
           refine ⟨_, rfl, _, (((hle1.trans hle2).trans hle3).trans hle4).trans hle5, (S10.pick [] [] (by decide) trivial), ?_⟩
           show Value.bool _ = _
           refine congrArg Value.bool ?_
           first | rfl | (rw [decide_eq_true_iff]; omega) | (simp_all; done) | (simp_all <;> omega)
          ·replace hg64 := of_decide_eq_false hg64
           refine wl_no (k := 15) (k' := 16) (d := 65) rfl rfl ⟨_, _, _, rfl, rfl, rfl, rfl⟩ rfl rfl ?_
           refine wl_no (k := 16) (k' := 17) (d := 66) rfl rfl ⟨_, _, _, rfl, rfl, rfl, rfl⟩ rfl rfl ?_
           refine wl_no (k := 17) (k' := 18) (d := 67) rfl rfl ⟨_, _, _, rfl, rfl, rfl, rfl⟩ rfl rfl ?_
           refine wl_no (k := 18) (k' := 19) (d := 68) rfl rfl ⟨_, _, _, rfl, rfl, rfl, rfl⟩ rfl rfl ?_
           refine wlo 19 20 rfl rfl rfl (wo_run rfl rfl (run_pickF rfl rfl rfl) ?_)
           refine wla 20 21 rfl rfl rfl rfl rfl rfl rfl ?_
           refine wl_end rfl ?_
           refine nm_sub [(4, _)] ⟨rfl, trivial⟩ ?_
           refine nm_thn ?_
           refine ws_ret hC [_] rfl rfl ⟨rfl, trivial⟩ ?_
           refine ⟨_, rfl, _, (((hle1.trans hle2).trans hle3).trans hle4).trans hle5, (S10.pick [] [] (by decide) trivial), ?_⟩
           show Value.bool _ = _
           refine congrArg Value.bool ?_
           first | rfl | (rw [decide_eq_true_iff]; omega) | (simp_all; done) | (simp_all <;> omega)
         ·replace hg58 := of_decide_eq_false hg58
          refine wl_no (k := 9) (k' := 10) (d := 59) rfl rfl ⟨_, _, _, rfl, rfl, rfl, rfl⟩ rfl rfl ?_
          refine wl_no (k := 10) (k' := 11) (d := 60) rfl rfl ⟨_, _, _, rfl, rfl, rfl, rfl⟩ rfl rfl ?_
          refine wl_no (k := 11) (k' := 12) (d := 61) rfl rfl ⟨_, _, _, rfl, rfl, rfl, rfl⟩ rfl rfl ?_
          refine wl_no (k := 12) (k' := 13) (d := 62) rfl rfl ⟨_, _, _, rfl, rfl, rfl, rfl⟩ rfl rfl ?_
          refine wlo 13 14 rfl rfl rfl (wo_run rfl rfl (run_pickF rfl rfl rfl) ?_)
          refine wlm 14 15 rfl rfl rfl rfl rfl rfl rfl ?_
          refine wl_no (k := 15) (k' := 16) (d := 65) rfl rfl ⟨_, _, _, rfl, rfl, rfl, rfl⟩ rfl rfl ?_
          refine wl_no (k := 16) (k' := 17) (d := 66) rfl rfl ⟨_, _, _, rfl, rfl, rfl, rfl⟩ rfl rfl ?_
          refine wl_no (k := 17) (k' := 18) (d := 67) rfl rfl ⟨_, _, _, rfl, rfl, rfl, rfl⟩ rfl rfl ?_
          refine wl_no (k := 18) (k' := 19) (d := 68) rfl rfl ⟨_, _, _, rfl, rfl, rfl, rfl⟩ rfl rfl ?_
          refine wlo 19 20 rfl rfl rfl (wo_run rfl rfl (run_pickF rfl rfl rfl) ?_)
          refine wla 20 21 rfl rfl rfl rfl rfl rfl rfl ?_
          refine wl_end rfl ?_
          refine nm_sub [(4, _)] ⟨rfl, trivial⟩ ?_
          refine nm_thn ?_
          refine ws_ret hC [_] rfl rfl ⟨rfl, trivial⟩ ?_
          refine ⟨_, rfl, _, (((hle1.trans hle2).trans hle3).trans hle4).trans hle5, (S10.pick [] [] (by decide) trivial), ?_⟩
          show Value.bool _ = _
          refine congrArg Value.bool ?_
          first | rfl | (rw [decide_eq_true_iff]; omega) | (simp_all; done) | (simp_all <;> omega)
        ·replace hg53 := of_decide_eq_false hg53
         refine wl_no (k := 4) (k' := 5) (d := 54) rfl rfl ⟨_, _, _, rfl, rfl, rfl, rfl⟩ rfl rfl ?_
         refine wl_no (k := 5) (k' := 6) (d := 55) rfl rfl ⟨_, _, _, rfl, rfl, rfl, rfl⟩ rfl rfl ?_
         refine wl_no (k := 6) (k' := 7) (d := 56) rfl rfl ⟨_, _, _, rfl, rfl, rfl, rfl⟩ rfl rfl ?_
         refine wlo 7 8 rfl rfl rfl (wo_run rfl rfl (run_pickF rfl rfl rfl) ?_)
         refine wlm 8 9 rfl rfl rfl rfl rfl rfl rfl ?_
         refine wl_no (k := 9) (k' := 10) (d := 59) rfl rfl ⟨_, _, _, rfl, rfl, rfl, rfl⟩ rfl rfl ?_
         refine wl_no (k := 10) (k' := 11) (d := 60) rfl rfl ⟨_, _, _, rfl, rfl, rfl, rfl⟩ rfl rfl ?_
         refine wl_no (k := 11) (k' := 12) (d := 61) rfl rfl ⟨_, _, _, rfl, rfl, rfl, rfl⟩ rfl rfl ?_
         refine wl_no (k := 12) (k' := 13) (d := 62) rfl rfl ⟨_, _, _, rfl, rfl, rfl, rfl⟩ rfl rfl ?_
         refine wlo 13 14 rfl rfl rfl (wo_run rfl rfl (run_pickF rfl rfl rfl) ?_)
         refine wlm 14 15 rfl rfl rfl rfl rfl rfl rfl ?_
         refine wl_no (k := 15) (k' := 16) (d := 65) rfl rfl ⟨_, _, _, rfl, rfl, rfl, rfl⟩ rfl rfl ?_
         refine wl_no (k := 16) (k' := 17) (d := 66) rfl rfl ⟨_, _, _, rfl, rfl, rfl, rfl⟩ rfl rfl ?_
         refine wl_no (k := 17) (k' := 18) (d := 67) rfl rfl ⟨_, _, _, rfl, rfl, rfl, rfl⟩ rfl rfl ?_
         refine wl_no (k := 18) (k' := 19) (d := 68) rfl rfl ⟨_, _, _, rfl, rfl, rfl, rfl⟩ rfl rfl ?_
         refine wlo 19 20 rfl rfl rfl (wo_run rfl rfl (run_pickF rfl rfl rfl) ?_)
         refine wla 20 21 rfl rfl rfl rfl rfl rfl rfl ?_
         refine wl_end rfl ?_
         refine nm_sub [(4, _)] ⟨rfl, trivial⟩ ?_
         refine nm_thn ?_
         refine ws_ret hC [_] rfl rfl ⟨rfl, trivial⟩ ?_
         refine ⟨_, rfl, _, (((hle1.trans hle2).trans hle3).trans hle4).trans hle5, (S10.pick [] [] (by decide) trivial), ?_⟩
         show Value.bool _ = _
         refine congrArg Value.bool ?_
         first | rfl | (rw [decide_eq_true_iff]; omega) | (simp_all; done) | (simp_all <;> omega)
       ·replace hb49 := of_decide_eq_false hb49
        exfalso; omega
     ·replace hb39 := of_decide_eq_false hb39
      refine ws_skip rfl ?_
      refine nm_sub [(1, _), (2, _), (5, _), (6, _), (7, _), (8, _), (9, _)] ⟨rfl, rfl, rfl, rfl, rfl, rfl, rfl, trivial⟩ ?_
      refine nm_thn ?_
      refine ws_seqN HomflyTurns_n15 HomflyTurns_n16 rfl rfl rfl ?_
      refine ws_seqN HomflyTurns_n17 HomflyTurns_n18 rfl rfl rfl ?_
      refine ws_region rfl ?_
      refine wlm 0 1 rfl rfl rfl rfl rfl rfl rfl ?_
      refine wlo 1 2 rfl rfl rfl (wo_run rfl rfl (run_eql rfl rfl rfl) ?_)
      refine wlm 2 3 rfl rfl rfl rfl rfl rfl rfl ?_
      refine wl_split (t := 42) rfl (fun hg42 => ?_) (fun hg42 => ?_)
      ·replace hg42 := of_decide_eq_true hg42
       refine wl_opG (k := 3) (k' := 4) rfl rfl ⟨_, _, _, rfl, rfl, rfl, rfl⟩ rfl (wo_run rfl rfl (run_fieldAddr rfl rfl Try.underlying51 rfl (ce49) (nf49)) ?_)
       refine wl_opG (k := 4) (k' := 5) rfl rfl ⟨_, _, _, rfl, rfl, rfl, rfl⟩ rfl (wo_run rfl rfl (run_load1 rfl rfl Try.underlying49 rfl (S10.boxc (i := 2) rfl rfl)) ?_)
       refine wl_opG (k := 5) (k' := 6) rfl rfl ⟨_, _, _, rfl, rfl, rfl, rfl⟩ rfl (wo_run rfl rfl (run_len rfl rfl rfl rfl rfl rfl Try.underlying49) ?_)
       refine wl_opG (k := 6) (k' := 7) rfl rfl ⟨_, _, _, rfl, rfl, rfl, rfl⟩ rfl (wo_run rfl rfl (run_gtr rfl rfl rfl) ?_)
       refine wlo 7 8 rfl rfl rfl (wo_run rfl rfl (run_pickT rfl rfl rfl) ?_)
       refine wl_end rfl ?_
       refine nm_sub [(1, _), (2, _), (5, _), (6, _), (7, _), (8, _), (9, _), (47, _)] ⟨rfl, rfl, rfl, rfl, rfl, rfl, rfl, rfl, trivial⟩ ?_
       refine nm_thn ?_
       refine ws_condN HomflyTurns_n19 HomflyTurns_n20 rfl rfl rfl rfl (fun hb47 => ?_) (fun hb47 => ?_)
       ·replace hb47 := of_decide_eq_true hb47
        refine ws_region rfl ?_
        refine wla 0 1 rfl rfl rfl rfl rfl rfl rfl ?_
        refine wl_end rfl ?_
        refine nm_sub [(1, _), (2, _), (5, _), (6, _), (7, _), (8, _), (9, _)] ⟨rfl, rfl, rfl, rfl, rfl, rfl, rfl, trivial⟩ ?_
        refine nm_thn ?_
        refine ws_seqN HomflyTurns_n21 HomflyTurns_n22 rfl rfl rfl ?_
        refine ws_seqN HomflyTurns_n23 HomflyTurns_n24 rfl rfl rfl ?_
        refine ws_region rfl ?_
        refine wlm 0 1 rfl rfl rfl rfl rfl rfl rfl ?_
        refine wlo 1 2 rfl rfl rfl (wo_run rfl rfl (run_neq rfl rfl rfl) ?_)
        refine wl_end rfl ?_
        refine nm_sub [(1, _), (2, _), (5, _), (6, _), (7, _), (8, _), (9, _), (49, _)] ⟨rfl, rfl, rfl, rfl, rfl, rfl, rfl, rfl, trivial⟩ ?_
        refine nm_thn ?_
        refine ws_condN HomflyTurns_n25 HomflyTurns_n26 rfl rfl rfl rfl (fun hb49 => ?_) (fun hb49 => ?_)
        ·replace hb49 := of_decide_eq_true hb49
         refine ws_seqN HomflyTurns_n27 HomflyTurns_n28 rfl rfl rfl ?_
         refine ws_region rfl ?_
         refine wlm 0 1 rfl rfl rfl rfl rfl rfl rfl ?_
         refine wlm 1 2 rfl rfl rfl rfl rfl rfl rfl ?_
         refine wlo 2 3 rfl rfl rfl (wo_run rfl rfl (run_eql rfl rfl rfl) ?_)
         refine wlm 3 4 rfl rfl rfl rfl rfl rfl rfl ?_
         refine wl_split (t := 53) rfl (fun hg53 => ?_) (fun hg53 => ?_)
         ·replace hg53 := of_decide_eq_true hg53
          refine wl_opG (k := 4) (k' := 5) rfl rfl ⟨_, _, _, rfl, rfl, rfl, rfl⟩ rfl (wo_run rfl rfl (run_move rfl rfl) ?_)
          refine wl_opG (k := 5) (k' := 6) rfl rfl ⟨_, _, _, rfl, rfl, rfl, rfl⟩ rfl (wo_run rfl rfl (run_move rfl rfl) ?_)
          refine wl_opG (k := 6) (k' := 7) rfl rfl ⟨_, _, _, rfl, rfl, rfl, rfl⟩ rfl (wo_run rfl rfl (run_eql rfl rfl rfl) ?_)
          refine wlo 7 8 rfl rfl rfl (wo_run rfl rfl (run_pickT rfl rfl rfl) ?_)
          refine wlm 8 9 rfl rfl rfl rfl rfl rfl rfl ?_
          refine wl_split (t := 58) rfl (fun hg58 => ?_) (fun hg58 => ?_)
          ·replace hg58 := of_decide_eq_true hg58
           refine wl_opG (k := 9) (k' := 10) rfl rfl ⟨_, _, _, rfl, rfl, rfl, rfl⟩ rfl (wo_run rfl rfl (run_fieldAddr rfl rfl Try.underlying51 rfl (ce49) (nf49)) ?_)
           refine wl_opG (k := 10) (k' := 11) rfl rfl ⟨_, _, _, rfl, rfl, rfl, rfl⟩ rfl (wo_run rfl rfl (run_load1 rfl rfl Try.underlying49 rfl (S10.boxc (i := 1) rfl rfl)) ?_)
           refine wl_opG (k := 11) (k' := 12) rfl rfl ⟨_, _, _, rfl, rfl, rfl, rfl⟩ rfl (wo_run rfl rfl (run_len rfl rfl rfl rfl rfl rfl Try.underlying49) ?_)
           refine wl_opG (k := 12) (k' := 13) rfl rfl ⟨_, _, _, rfl, rfl, rfl, rfl⟩ rfl (wo_run rfl rfl (run_eql rfl rfl rfl) ?_)
           refine wlo 13 14 rfl rfl rfl (wo_run rfl rfl (run_pickT rfl rfl rfl) ?_)
           refine wlm 14 15 rfl rfl rfl rfl rfl rfl rfl ?_
           refine wl_split (t := 64) rfl (fun hg64 => ?_) (fun hg64 => ?_)
           ·replace hg64 := of_decide_eq_true hg64
            refine wl_opG (k := 15) (k' := 16) rfl rfl ⟨_, _, _, rfl, rfl, rfl, rfl⟩ rfl (wo_run rfl rfl (run_fieldAddr rfl rfl Try.underlying51 rfl (ce49) (nf49)) ?_)
            refine wl_opG (k := 16) (k' := 17) rfl rfl ⟨_, _, _, rfl, rfl, rfl, rfl⟩ rfl (wo_run rfl rfl (run_load1 rfl rfl Try.underlying49 rfl (S10.boxc (i := 0) rfl rfl)) ?_)
            refine wl_opG (k := 17) (k' := 18) rfl rfl ⟨_, _, _, rfl, rfl, rfl, rfl⟩ rfl (wo_run rfl rfl (run_len rfl rfl rfl rfl rfl rfl Try.underlying49) ?_)
            refine wl_opG (k := 18) (k' := 19) rfl rfl ⟨_, _, _, rfl, rfl, rfl, rfl⟩ rfl (wo_run rfl rfl (run_eql rfl rfl rfl) ?_)
            refine wlo 19 20 rfl rfl rfl (wo_run rfl rfl (run_pickT rfl rfl rfl) ?_)
            refine wla 20 21 rfl rfl rfl rfl rfl rfl rfl ?_
            refine wl_end rfl ?_
            refine nm_sub [(4, _)] ⟨rfl, trivial⟩ ?_
            refine nm_thn ?_
            refine ws_ret hC [_] rfl rfl ⟨rfl, trivial⟩ ?_
            refine ⟨_, rfl, _, (((hle1.trans hle2).trans hle3).trans hle4).trans hle5, (S10.pick [] [] (by decide) trivial), ?_⟩
            show Value.bool _ = _
            refine congrArg Value.bool ?_
            first | rfl | (rw [decide_eq_true_iff]; omega) | (simp_all; done) | (simp_all <;> omega)
           ·replace hg64 := of_decide_eq_false hg64
            refine wl_no (k := 15) (k' := 16) (d := 65) rfl rfl ⟨_, _, _, rfl, rfl, rfl, rfl⟩ rfl rfl ?_
            refine wl_no (k := 16) (k' := 17) (d := 66) rfl rfl ⟨_, _, _, rfl, rfl, rfl, rfl⟩ rfl rfl ?_
            refine wl_no (k := 17) (k' := 18) (d := 67) rfl rfl ⟨_, _, _, rfl, rfl, rfl, rfl⟩ rfl rfl ?_
            refine wl_no (k := 18) (k' := 19) (d := 68) rfl rfl ⟨_, _, _, rfl, rfl, rfl, rfl⟩ rfl rfl ?_
            refine wlo 19 20 rfl rfl rfl (wo_run rfl rfl (run_pickF rfl rfl rfl) ?_)
            refine wla 20 21 rfl rfl rfl rfl rfl rfl rfl ?_
            refine wl_end rfl ?_
            refine nm_sub [(4, _)] ⟨rfl, trivial⟩ ?_
            refine nm_thn ?_
            refine ws_ret hC [_] rfl rfl ⟨rfl, trivial⟩ ?_
            refine ⟨_, rfl, _, (((hle1.trans hle2).trans hle3).trans hle4).trans hle5, (S10.pick [] [] (by decide) trivial), ?_⟩
            show Value.bool _ = _
            refine congrArg Value.bool ?_
            first | rfl | (rw [decide_eq_true_iff]; omega) | (simp_all; done) | (simp_all <;> omega)
          ·replace hg58 := of_decide_eq_false hg58
           refine wl_no (k := 9) (k' := 10) (d := 59) rfl rfl ⟨_, _, _, rfl, rfl, rfl, rfl⟩ rfl rfl ?_
           refine wl_no (k := 10) (k' := 11) (d := 60) rfl rfl ⟨_, _, _, rfl, rfl, rfl, rfl⟩ rfl rfl ?_
           refine wl_no (k := 11) (k' := 12) (d := 61) rfl rfl ⟨_, _, _, rfl, rfl, rfl, rfl⟩ rfl rfl ?_
           refine wl_no (k := 12) (k' := 13) (d := 62) rfl rfl ⟨_, _, _, rfl, rfl, rfl, rfl⟩ rfl rfl ?_
           refine wlo 13 14 rfl rfl rfl (wo_run rfl rfl (run_pickF rfl rfl rfl) ?_)
           refine wlm 14 15 rfl rfl rfl rfl rfl rfl rfl ?_
           refine wl_no (k := 15) (k' := 16) (d := 65) rfl rfl ⟨_, _, _, rfl, rfl, rfl, rfl⟩ rfl rfl ?_
           refine wl_no (k := 16) (k' := 17) (d := 66) rfl rfl ⟨_, _, _, rfl, rfl, rfl, rfl⟩ rfl rfl ?_
           refine wl_no (k := 17) (k' := 18) (d := 67) rfl rfl ⟨_, _, _, rfl, rfl, rfl, rfl⟩ rfl rfl ?_
           refine wl_no (k := 18) (k' := 19) (d := 68) rfl rfl ⟨_, _, _, rfl, rfl, rfl, rfl⟩ rfl rfl ?_
           refine wlo 19 20 rfl rfl rfl (wo_run rfl rfl (run_pickF rfl rfl rfl) ?_)
           refine wla 20 21 rfl rfl rfl rfl rfl rfl rfl ?_
           refine wl_end rfl ?_
           refine nm_sub [(4, _)] ⟨rfl, trivial⟩ ?_
           refine nm_thn ?_
           refine ws_ret hC [_] rfl rfl ⟨rfl, trivial⟩ ?_
           refine ⟨_, rfl, _, (((hle1.trans hle2).trans hle3).trans hle4).trans hle5, (S10.pick [] [] (by decide) trivial), ?_⟩
           show Value.bool _ = _
           refine congrArg Value.bool ?_
           first | rfl | (rw [decide_eq_true_iff]; omega) | (simp_all; done) | (simp_all <;> omega)
         ·replace hg53 := of_decide_eq_false hg53
          refine wl_no (k := 4) (k' := 5) (d := 54) rfl rfl ⟨_, _, _, rfl, rfl, rfl, rfl⟩ rfl rfl ?_
          refine wl_no (k := 5) (k' := 6) (d := 55) rfl rfl ⟨_, _, _, rfl, rfl, rfl, rfl⟩ rfl rfl ?_
          refine wl_no (k := 6) (k' := 7) (d := 56) rfl rfl ⟨_, _, _, rfl, rfl, rfl, rfl⟩ rfl rfl ?_
          refine wlo 7 8 rfl rfl rfl (wo_run rfl rfl (run_pickF rfl rfl rfl) ?_)
          refine wlm 8 9 rfl rfl rfl rfl rfl rfl rfl ?_
          refine wl_no (k := 9) (k' := 10) (d := 59) rfl rfl ⟨_, _, _, rfl, rfl, rfl, rfl⟩ rfl rfl ?_
          refine wl_no (k := 10) (k' := 11) (d := 60) rfl rfl ⟨_, _, _, rfl, rfl, rfl, rfl⟩ rfl rfl ?_
          refine wl_no (k := 11) (k' := 12) (d := 61) rfl rfl ⟨_, _, _, rfl, rfl, rfl, rfl⟩ rfl rfl ?_
          refine wl_no (k := 12) (k' := 13) (d := 62) rfl rfl ⟨_, _, _, rfl, rfl, rfl, rfl⟩ rfl rfl ?_
          refine wlo 13 14 rfl rfl rfl (wo_run rfl rfl (run_pickF rfl rfl rfl) ?_)
          refine wlm 14 15 rfl rfl rfl rfl rfl rfl rfl ?_
          refine wl_no (k := 15) (k' := 16) (d := 65) rfl rfl ⟨_, _, _, rfl, rfl, rfl, rfl⟩ rfl rfl ?_
          refine wl_no (k := 16) (k' := 17) (d := 66) rfl rfl ⟨_, _, _, rfl, rfl, rfl, rfl⟩ rfl rfl ?_
          refine wl_no (k := 17) (k' := 18) (d := 67) rfl rfl ⟨_, _, _, rfl, rfl, rfl, rfl⟩ rfl rfl ?_
          refine wl_no (k := 18) (k' := 19) (d := 68) rfl rfl ⟨_, _, _, rfl, rfl, rfl, rfl⟩ rfl rfl ?_
          refine wlo 19 20 rfl rfl rfl (wo_run rfl rfl (run_pickF rfl rfl rfl) ?_)
          refine wla 20 21 rfl rfl rfl rfl rfl rfl rfl ?_
          refine wl_end rfl ?_
          refine nm_sub [(4, _)] ⟨rfl, trivial⟩ ?_
          refine nm_thn ?_
          refine ws_ret hC [_] rfl rfl ⟨rfl, trivial⟩ ?_
          refine ⟨_, rfl, _, (((hle1.trans hle2).trans hle3).trans hle4).trans hle5, (S10.pick [] [] (by decide) trivial), ?_⟩
          show Value.bool _ = _
          refine congrArg Value.bool ?_
          first | rfl | (rw [decide_eq_true_iff]; omega) | (simp_all; done) | (simp_all <;> omega)
        ·replace hb49 := of_decide_eq_false hb49
         exfalso; omega
       ·replace hb47 := of_decide_eq_false hb47
        refine ws_skip rfl ?_
        refine nm_sub [(1, _), (2, _), (5, _), (6, _), (7, _), (8, _), (9, _)] ⟨rfl, rfl, rfl, rfl, rfl, rfl, rfl, trivial⟩ ?_
        refine nm_thn ?_
        refine ws_seqN HomflyTurns_n21 HomflyTurns_n22 rfl rfl rfl ?_
        refine ws_seqN HomflyTurns_n23 HomflyTurns_n24 rfl rfl rfl ?_
        refine ws_region rfl ?_
        refine wlm 0 1 rfl rfl rfl rfl rfl rfl rfl ?_
        refine wlo 1 2 rfl rfl rfl (wo_run rfl rfl (run_neq rfl rfl rfl) ?_)
        refine wl_end rfl ?_
        refine nm_sub [(1, _), (2, _), (5, _), (6, _), (7, _), (8, _), (9, _), (49, _)] ⟨rfl, rfl, rfl, rfl, rfl, rfl, rfl, rfl, trivial⟩ ?_
        refine nm_thn ?_
        refine ws_condN HomflyTurns_n25 HomflyTurns_n26 rfl rfl rfl rfl (fun hb49 => ?_) (fun hb49 => ?_)
        ·replace hb49 := of_decide_eq_true hb49
         refine ws_seqN HomflyTurns_n27 HomflyTurns_n28 rfl rfl rfl ?_
         refine ws_region rfl ?_
         refine wlm 0 1 rfl rfl rfl rfl rfl rfl rfl ?_
         refine wlm 1 2 rfl rfl rfl rfl rfl rfl rfl ?_
         refine wlo 2 3 rfl rfl rfl (wo_run rfl rfl (run_eql rfl rfl rfl) ?_)
         refine wlm 3 4 rfl rfl rfl rfl rfl rfl rfl ?_
         refine wl_split (t := 53) rfl (fun hg53 => ?_) (fun hg53 => ?_)
         ·replace hg53 := of_decide_eq_true hg53
          refine wl_opG (k := 4) (k' := 5) rfl rfl ⟨_, _, _, rfl, rfl, rfl, rfl⟩ rfl (wo_run rfl rfl (run_move rfl rfl) ?_)
          refine wl_opG (k := 5) (k' := 6) rfl rfl ⟨_, _, _, rfl, rfl, rfl, rfl⟩ rfl (wo_run rfl rfl (run_move rfl rfl) ?_)
          refine wl_opG (k := 6) (k' := 7) rfl rfl ⟨_, _, _, rfl, rfl, rfl, rfl⟩ rfl (wo_run rfl rfl (run_eql rfl rfl rfl) ?_)
          refine wlo 7 8 rfl rfl rfl (wo_run rfl rfl (run_pickT rfl rfl rfl) ?_)
          refine wlm 8 9 rfl rfl rfl rfl rfl rfl rfl ?_
          refine wl_split (t := 58) rfl (fun hg58 => ?_) (fun hg58 => ?_)
          ·replace hg58 := of_decide_eq_true hg58
           refine wl_opG (k := 9) (k' := 10) rfl rfl ⟨_, _, _, rfl, rfl, rfl, rfl⟩ rfl (wo_run rfl rfl (run_fieldAddr rfl rfl Try.underlying51 rfl (ce49) (nf49)) ?_)
           refine wl_opG (k := 10) (k' := 11) rfl rfl ⟨_, _, _, rfl, rfl, rfl, rfl⟩ rfl (wo_run rfl rfl (run_load1 rfl rfl Try.underlying49 rfl (S10.boxc (i := 1) rfl rfl)) ?_)
           refine wl_opG (k := 11) (k' := 12) rfl rfl ⟨_, _, _, rfl, rfl, rfl, rfl⟩ rfl (wo_run rfl rfl (run_len rfl rfl rfl rfl rfl rfl Try.underlying49) ?_)
           refine wl_opG (k := 12) (k' := 13) rfl rfl ⟨_, _, _, rfl, rfl, rfl, rfl⟩ rfl (wo_run rfl rfl (run_eql rfl rfl rfl) ?_)
           refine wlo 13 14 rfl rfl rfl (wo_run rfl rfl (run_pickT rfl rfl rfl) ?_)
           refine wlm 14 15 rfl rfl rfl rfl rfl rfl rfl ?_
           refine wl_split (t := 64) rfl (fun hg64 => ?_) (fun hg64 => ?_)
           ·replace hg64 := of_decide_eq_true hg64
            refine wl_opG (k := 15) (k' := 16) rfl rfl ⟨_, _, _, rfl, rfl, rfl, rfl⟩ rfl (wo_run rfl rfl (run_fieldAddr rfl rfl Try.underlying51 rfl (ce49) (nf49)) ?_)
            refine wl_opG (k := 16) (k' := 17) rfl rfl ⟨_, _, _, rfl, rfl, rfl, rfl⟩ rfl (wo_run rfl rfl (run_load1 rfl rfl Try.underlying49 rfl (S10.boxc (i := 0) rfl rfl)) ?_)
            refine wl_opG (k := 17) (k' := 18) rfl rfl ⟨_, _, _, rfl, rfl, rfl, rfl⟩ rfl (wo_run rfl rfl (run_len rfl rfl rfl rfl rfl rfl Try.underlying49) ?_)
            refine wl_opG (k := 18) (k' := 19) rfl rfl ⟨_, _, _, rfl, rfl, rfl, rfl⟩ rfl (wo_run rfl rfl (run_eql rfl rfl rfl) ?_)
            refine wlo 19 20 rfl rfl rfl (wo_run rfl rfl (run_pickT rfl rfl rfl) ?_)
            refine wla 20 21 rfl rfl rfl rfl rfl rfl rfl ?_
            refine wl_end rfl ?_
            refine nm_sub [(4, _)] ⟨rfl, trivial⟩ ?_
            refine nm_thn ?_
            refine ws_ret hC [_] rfl rfl ⟨rfl, trivial⟩ ?_
            refine ⟨_, rfl, _, (((hle1.trans hle2).trans hle3).trans hle4).trans hle5, (S10.pick [] [] (by decide) trivial), ?_⟩
            show Value.bool _ = _
            refine congrArg Value.bool ?_
            first | rfl | (rw [decide_eq_true_iff]; omega) | (simp_all; done) | (simp_all <;> omega)
           ·replace hg64 := of_decide_eq_false hg64
            refine wl_no (k := 15) (k' := 16) (d := 65) rfl rfl ⟨_, _, _, rfl, rfl, rfl, rfl⟩ rfl rfl ?_
            refine wl_no (k := 16) (k' := 17) (d := 66) rfl rfl ⟨_, _, _, rfl, rfl, rfl, rfl⟩ rfl rfl ?_
            refine wl_no (k := 17) (k' := 18) (d := 67) rfl rfl ⟨_, _, _, rfl, rfl, rfl, rfl⟩ rfl rfl ?_
            refine wl_no (k := 18) (k' := 19) (d := 68) rfl rfl ⟨_, _, _, rfl, rfl, rfl, rfl⟩ rfl rfl ?_
            refine wlo 19 20 rfl rfl rfl (wo_run rfl rfl (run_pickF rfl rfl rfl) ?_)
            refine wla 20 21 rfl rfl rfl rfl rfl rfl rfl ?_
            refine wl_end rfl ?_
            refine nm_sub [(4, _)] ⟨rfl, trivial⟩ ?_
            refine nm_thn ?_
            refine ws_ret hC [_] rfl rfl ⟨rfl, trivial⟩ ?_
            refine ⟨_, rfl, _, (((hle1.trans hle2).trans hle3).trans hle4).trans hle5, (S10.pick [] [] (by decide) trivial), ?_⟩
            show Value.bool _ = _
            refine congrArg Value.bool ?_
            first | rfl | (rw [decide_eq_true_iff]; omega) | (simp_all; done) | (simp_all <;> omega)
          ·replace hg58 := of_decide_eq_false hg58
           refine wl_no (k := 9) (k' := 10) (d := 59) rfl rfl ⟨_, _, _, rfl, rfl, rfl, rfl⟩ rfl rfl ?_
           refine wl_no (k := 10) (k' := 11) (d := 60) rfl rfl ⟨_, _, _, rfl, rfl, rfl, rfl⟩ rfl rfl ?_
           refine wl_no (k := 11) (k' := 12) (d := 61) rfl rfl ⟨_, _, _, rfl, rfl, rfl, rfl⟩ rfl rfl ?_
           refine wl_no (k := 12) (k' := 13) (d := 62) rfl rfl ⟨_, _, _, rfl, rfl, rfl, rfl⟩ rfl rfl ?_
           refine wlo 13 14 rfl rfl rfl (wo_run rfl rfl (run_pickF rfl rfl rfl) ?_)
           refine wlm 14 15 rfl rfl rfl rfl rfl rfl rfl ?_
           refine wl_no (k := 15) (k' := 16) (d := 65) rfl rfl ⟨_, _, _, rfl, rfl, rfl, rfl⟩ rfl rfl ?_
           refine wl_no (k := 16) (k' := 17) (d := 66) rfl rfl ⟨_, _, _, rfl, rfl, rfl, rfl⟩ rfl rfl ?_
           refine wl_no (k := 17) (k' := 18) (d := 67) rfl rfl ⟨_, _, _, rfl, rfl, rfl, rfl⟩ rfl rfl ?_
           refine wl_no (k := 18) (k' := 19) (d := 68) rfl rfl ⟨_, _, _, rfl, rfl, rfl, rfl⟩ rfl rfl ?_
           refine wlo 19 20 rfl rfl rfl (wo_run rfl rfl (run_pickF rfl rfl rfl) ?_)
           refine wla 20 21 rfl rfl rfl rfl rfl rfl rfl ?_
           refine wl_end rfl ?_
           refine nm_sub [(4, _)] ⟨rfl, trivial⟩ ?_
           refine nm_thn ?_
           refine ws_ret hC [_] rfl rfl ⟨rfl, trivial⟩ ?_
           refine ⟨_, rfl, _, (((hle1.trans hle2).trans hle3).trans hle4).trans hle5, (S10.pick [] [] (by decide) trivial), ?_⟩
           show Value.bool _ = _
           refine congrArg Value.bool ?_
           first | rfl | (rw [decide_eq_true_iff]; omega) | (simp_all; done) | (simp_all <;> omega)
         ·replace hg53 := of_decide_eq_false hg53
          refine wl_no (k := 4) (k' := 5) (d := 54) rfl rfl ⟨_, _, _, rfl, rfl, rfl, rfl⟩ rfl rfl ?_
          refine wl_no (k := 5) (k' := 6) (d := 55) rfl rfl ⟨_, _, _, rfl, rfl, rfl, rfl⟩ rfl rfl ?_
          refine wl_no (k := 6) (k' := 7) (d := 56) rfl rfl ⟨_, _, _, rfl, rfl, rfl, rfl⟩ rfl rfl ?_
          refine wlo 7 8 rfl rfl rfl (wo_run rfl rfl (run_pickF rfl rfl rfl) ?_)
          refine wlm 8 9 rfl rfl rfl rfl rfl rfl rfl ?_
          refine wl_no (k := 9) (k' := 10) (d := 59) rfl rfl ⟨_, _, _, rfl, rfl, rfl, rfl⟩ rfl rfl ?_
          refine wl_no (k := 10) (k' := 11) (d := 60) rfl rfl ⟨_, _, _, rfl, rfl, rfl, rfl⟩ rfl rfl ?_
          refine wl_no (k := 11) (k' := 12) (d := 61) rfl rfl ⟨_, _, _, rfl, rfl, rfl, rfl⟩ rfl rfl ?_
          refine wl_no (k := 12) (k' := 13) (d := 62) rfl rfl ⟨_, _, _, rfl, rfl, rfl, rfl⟩ rfl rfl ?_
          refine wlo 13 14 rfl rfl rfl (wo_run rfl rfl (run_pickF rfl rfl rfl) ?_)
          refine wlm 14 15 rfl rfl rfl rfl rfl rfl rfl ?_
          refine wl_no (k := 15) (k' := 16) (d := 65) rfl rfl ⟨_, _, _, rfl, rfl, rfl, rfl⟩ rfl rfl ?_
          refine wl_no (k := 16) (k' := 17) (d := 66) rfl rfl ⟨_, _, _, rfl, rfl, rfl, rfl⟩ rfl rfl ?_
          refine wl_no (k := 17) (k' := 18) (d := 67) rfl rfl ⟨_, _, _, rfl, rfl, rfl, rfl⟩ rfl rfl ?_
          refine wl_no (k := 18) (k' := 19) (d := 68) rfl rfl ⟨_, _, _, rfl, rfl, rfl, rfl⟩ rfl rfl ?_
          refine wlo 19 20 rfl rfl rfl (wo_run rfl rfl (run_pickF rfl rfl rfl) ?_)
          refine wla 20 21 rfl rfl rfl rfl rfl rfl rfl ?_
          refine wl_end rfl ?_
          refine nm_sub [(4, _)] ⟨rfl, trivial⟩ ?_
          refine nm_thn ?_
          refine ws_ret hC [_] rfl rfl ⟨rfl, trivial⟩ ?_
          refine ⟨_, rfl, _, (((hle1.trans hle2).trans hle3).trans hle4).trans hle5, (S10.pick [] [] (by decide) trivial), ?_⟩
          show Value.bool _ = _
          refine congrArg Value.bool ?_
          first | rfl | (rw [decide_eq_true_iff]; omega) | (simp_all; done) | (simp_all <;> omega)
        ·replace hb49 := of_decide_eq_false hb49
         exfalso; omega
      ·replace hg42 := of_decide_eq_false hg42
       refine wl_no (k := 3) (k' := 4) (d := 43) rfl rfl ⟨_, _, _, rfl, rfl, rfl, rfl⟩ rfl rfl ?_
       refine wl_no (k := 4) (k' := 5) (d := 44) rfl rfl ⟨_, _, _, rfl, rfl, rfl, rfl⟩ rfl rfl ?_
       refine wl_no (k := 5) (k' := 6) (d := 45) rfl rfl ⟨_, _, _, rfl, rfl, rfl, rfl⟩ rfl rfl ?_
       refine wl_no (k := 6) (k' := 7) (d := 46) rfl rfl ⟨_, _, _, rfl, rfl, rfl, rfl⟩ rfl rfl ?_
       refine wlo 7 8 rfl rfl rfl (wo_run rfl rfl (run_pickF rfl rfl rfl) ?_)
       refine wl_end rfl ?_
       refine nm_sub [(1, _), (2, _), (5, _), (6, _), (7, _), (8, _), (9, _), (47, _)] ⟨rfl, rfl, rfl, rfl, rfl, rfl, rfl, rfl, trivial⟩ ?_
       refine nm_thn ?_
       refine ws_condFN HomflyTurns_n20 rfl rfl rfl ?_
       refine ws_skip rfl ?_
       refine nm_sub [(1, _), (2, _), (5, _), (6, _), (7, _), (8, _), (9, _)] ⟨rfl, rfl, rfl, rfl, rfl, rfl, rfl, trivial⟩ ?_
       refine nm_thn ?_
       refine ws_seqN HomflyTurns_n21 HomflyTurns_n22 rfl rfl rfl ?_
       refine ws_seqN HomflyTurns_n23 HomflyTurns_n24 rfl rfl rfl ?_
       refine ws_region rfl ?_
       refine wlm 0 1 rfl rfl rfl rfl rfl rfl rfl ?_
       refine wlo 1 2 rfl rfl rfl (wo_run rfl rfl (run_neq rfl rfl rfl) ?_)
       refine wl_end rfl ?_
       refine nm_sub [(1, _), (2, _), (5, _), (6, _), (7, _), (8, _), (9, _), (49, _)] ⟨rfl, rfl, rfl, rfl, rfl, rfl, rfl, rfl, trivial⟩ ?_
       refine nm_thn ?_
       refine ws_condN HomflyTurns_n25 HomflyTurns_n26 rfl rfl rfl rfl (fun hb49 => ?_) (fun hb49 => ?_)
       ·replace hb49 := of_decide_eq_true hb49
        refine ws_seqN HomflyTurns_n27 HomflyTurns_n28 rfl rfl rfl ?_
        refine ws_region rfl ?_
        refine wlm 0 1 rfl rfl rfl rfl rfl rfl rfl ?_
        refine wlm 1 2 rfl rfl rfl rfl rfl rfl rfl ?_
        refine wlo 2 3 rfl rfl rfl (wo_run rfl rfl (run_eql rfl rfl rfl) ?_)
        refine wlm 3 4 rfl rfl rfl rfl rfl rfl rfl ?_
        refine wl_split (t := 53) rfl (fun hg53 => ?_) (fun hg53 => ?_)
        ·replace hg53 := of_decide_eq_true hg53
         refine wl_opG (k := 4) (k' := 5) rfl rfl ⟨_, _, _, rfl, rfl, rfl, rfl⟩ rfl (wo_run rfl rfl (run_move rfl rfl) ?_)
         refine wl_opG (k := 5) (k' := 6) rfl rfl ⟨_, _, _, rfl, rfl, rfl, rfl⟩ rfl (wo_run rfl rfl (run_move rfl rfl) ?_)
         refine wl_opG (k := 6) (k' := 7) rfl rfl ⟨_, _, _, rfl, rfl, rfl, rfl⟩ rfl (wo_run rfl rfl (run_eql rfl rfl rfl) ?_)
         refine wlo 7 8 rfl rfl rfl (wo_run rfl rfl (run_pickT rfl rfl rfl) ?_)
         refine wlm 8 9 rfl rfl rfl rfl rfl rfl rfl ?_
         refine wl_split (t := 58) rfl (fun hg58 => ?_) (fun hg58 => ?_)
         ·replace hg58 := of_decide_eq_true hg58
          refine wl_opG (k := 9) (k' := 10) rfl rfl ⟨_, _, _, rfl, rfl, rfl, rfl⟩ rfl (wo_run rfl rfl (run_fieldAddr rfl rfl Try.underlying51 rfl (ce49) (nf49)) ?_)
          refine wl_opG (k := 10) (k' := 11) rfl rfl ⟨_, _, _, rfl, rfl, rfl, rfl⟩ rfl (wo_run rfl rfl (run_load1 rfl rfl Try.underlying49 rfl (S10.boxc (i := 1) rfl rfl)) ?_)
          refine wl_opG (k := 11) (k' := 12) rfl rfl ⟨_, _, _, rfl, rfl, rfl, rfl⟩ rfl (wo_run rfl rfl (run_len rfl rfl rfl rfl rfl rfl Try.underlying49) ?_)
          refine wl_opG (k := 12) (k' := 13) rfl rfl ⟨_, _, _, rfl, rfl, rfl, rfl⟩ rfl (wo_run rfl rfl (run_eql rfl rfl rfl) ?_)
          refine wlo 13 14 rfl rfl rfl (wo_run rfl rfl (run_pickT rfl rfl rfl) ?_)
          refine wlm 14 15 rfl rfl rfl rfl rfl rfl rfl ?_
          refine wl_split (t := 64) rfl (fun hg64 => ?_) (fun hg64 => ?_)
          ·replace hg64 := of_decide_eq_true hg64
           refine wl_opG (k := 15) (k' := 16) rfl rfl ⟨_, _, _, rfl, rfl, rfl, rfl⟩ rfl (wo_run rfl rfl (run_fieldAddr rfl rfl Try.underlying51 rfl (ce49) (nf49)) ?_)
           refine wl_opG (k := 16) (k' := 17) rfl rfl ⟨_, _, _, rfl, rfl, rfl, rfl⟩ rfl (wo_run rfl rfl (run_load1 rfl rfl Try.underlying49 rfl (S10.boxc (i := 0) rfl rfl)) ?_)
           refine wl_opG (k := 17) (k' := 18) rfl rfl ⟨_, _, _, rfl, rfl, rfl, rfl⟩ rfl (wo_run rfl rfl (run_len rfl rfl rfl rfl rfl rfl Try.underlying49) ?_)
           refine wl_opG (k := 18) (k' := 19) rfl rfl ⟨_, _, _, rfl, rfl, rfl, rfl⟩ rfl (wo_run rfl rfl (run_eql rfl rfl rfl) ?_)
           refine wlo 19 20 rfl rfl rfl (wo_run rfl rfl (run_pickT rfl rfl rfl) ?_)
           refine wla 20 21 rfl rfl rfl rfl rfl rfl rfl ?_
           refine wl_end rfl ?_
           refine nm_sub [(4, _)] ⟨rfl, trivial⟩ ?_
           refine nm_thn ?_
           refine ws_ret hC [_] rfl rfl ⟨rfl, trivial⟩ ?_
           refine ⟨_, rfl, _, (((hle1.trans hle2).trans hle3).trans hle4).trans hle5, (S10.pick [] [] (by decide) trivial), ?_⟩
           show Value.bool _ = _
           refine congrArg Value.bool ?_
           first | rfl | (rw [decide_eq_true_iff]; omega) | (simp_all; done) | (simp_all <;> omega)
          ·replace hg64 := of_decide_eq_false hg64
           refine wl_no (k := 15) (k' := 16) (d := 65) rfl rfl ⟨_, _, _, rfl, rfl, rfl, rfl⟩ rfl rfl ?_
           refine wl_no (k := 16) (k' := 17) (d := 66) rfl rfl ⟨_, _, _, rfl, rfl, rfl, rfl⟩ rfl rfl ?_
           refine wl_no (k := 17) (k' := 18) (d := 67) rfl rfl ⟨_, _, _, rfl, rfl, rfl, rfl⟩ rfl rfl ?_
           refine wl_no (k := 18) (k' := 19) (d := 68) rfl rfl ⟨_, _, _, rfl, rfl, rfl, rfl⟩ rfl rfl ?_
           refine wlo 19 20 rfl rfl rfl (wo_run rfl rfl (run_pickF rfl rfl rfl) ?_)
           refine wla 20 21 rfl rfl rfl rfl rfl rfl rfl ?_
           refine wl_end rfl ?_
           refine nm_sub [(4, _)] ⟨rfl, trivial⟩ ?_
           refine nm_thn ?_
           refine ws_ret hC [_] rfl rfl ⟨rfl, trivial⟩ ?_
           refine ⟨_, rfl, _, (((hle1.trans hle2).trans hle3).trans hle4).trans hle5, (S10.pick [] [] (by decide) trivial), ?_⟩
           show Value.bool _ = _
           refine congrArg Value.bool ?_
           first | rfl | (rw [decide_eq_true_iff]; omega) | (simp_all; done) | (simp_all <;> omega)
         ·replace hg58 := of_decide_eq_false hg58
          refine wl_no (k := 9) (k' := 10) (d := 59) rfl rfl ⟨_, _, _, rfl, rfl, rfl, rfl⟩ rfl rfl ?_
          refine wl_no (k := 10) (k' := 11) (d := 60) rfl rfl ⟨_, _, _, rfl, rfl, rfl, rfl⟩ rfl rfl ?_
          refine wl_no (k := 11) (k' := 12) (d := 61) rfl rfl ⟨_, _, _, rfl, rfl, rfl, rfl⟩ rfl rfl ?_
          refine wl_no (k := 12) (k' := 13) (d := 62) rfl rfl ⟨_, _, _, rfl, rfl, rfl, rfl⟩ rfl rfl ?_
          refine wlo 13 14 rfl rfl rfl (wo_run rfl rfl (run_pickF rfl rfl rfl) ?_)
          refine wlm 14 15 rfl rfl rfl rfl rfl rfl rfl ?_
          refine wl_no (k := 15) (k' := 16) (d := 65) rfl rfl ⟨_, _, _, rfl, rfl, rfl, rfl⟩ rfl rfl ?_
          refine wl_no (k := 16) (k' := 17) (d := 66) rfl rfl ⟨_, _, _, rfl, rfl, rfl, rfl⟩ rfl rfl ?_
          refine wl_no (k := 17) (k' := 18) (d := 67) rfl rfl ⟨_, _, _, rfl, rfl, rfl, rfl⟩ rfl rfl ?_
          refine wl_no (k := 18) (k' := 19) (d := 68) rfl rfl ⟨_, _, _, rfl, rfl, rfl, rfl⟩ rfl rfl ?_
          refine wlo 19 20 rfl rfl rfl (wo_run rfl rfl (run_pickF rfl rfl rfl) ?_)
          refine wla 20 21 rfl rfl rfl rfl rfl rfl rfl ?_
          refine wl_end rfl ?_
          refine nm_sub [(4, _)] ⟨rfl, trivial⟩ ?_
          refine nm_thn ?_
          refine ws_ret hC [_] rfl rfl ⟨rfl, trivial⟩ ?_
          refine ⟨_, rfl, _, (((hle1.trans hle2).trans hle3).trans hle4).trans hle5, (S10.pick [] [] (by decide) trivial), ?_⟩
          show Value.bool _ = _
          refine congrArg Value.bool ?_
          first | rfl | (rw [decide_eq_true_iff]; omega) | (simp_all; done) | (simp_all <;> omega)
        ·replace hg53 := of_decide_eq_false hg53
         refine wl_no (k := 4) (k' := 5) (d := 54) rfl rfl ⟨_, _, _, rfl, rfl, rfl, rfl⟩ rfl rfl ?_
         refine wl_no (k := 5) (k' := 6) (d := 55) rfl rfl ⟨_, _, _, rfl, rfl, rfl, rfl⟩ rfl rfl ?_
         refine wl_no (k := 6) (k' := 7) (d := 56) rfl rfl ⟨_, _, _, rfl, rfl, rfl, rfl⟩ rfl rfl ?_
         refine wlo 7 8 rfl rfl rfl (wo_run rfl rfl (run_pickF rfl rfl rfl) ?_)
         refine wlm 8 9 rfl rfl rfl rfl rfl rfl rfl ?_
         refine wl_no (k := 9) (k' := 10) (d := 59) rfl rfl ⟨_, _, _, rfl, rfl, rfl, rfl⟩ rfl rfl ?_
         refine wl_no (k := 10) (k' := 11) (d := 60) rfl rfl ⟨_, _, _, rfl, rfl, rfl, rfl⟩ rfl rfl ?_
         refine wl_no (k := 11) (k' := 12) (d := 61) rfl rfl ⟨_, _, _, rfl, rfl, rfl, rfl⟩ rfl rfl ?_
         refine wl_no (k := 12) (k' := 13) (d := 62) rfl rfl ⟨_, _, _, rfl, rfl, rfl, rfl⟩ rfl rfl ?_
         refine wlo 13 14 rfl rfl rfl (wo_run rfl rfl (run_pickF rfl rfl rfl) ?_)
         refine wlm 14 15 rfl rfl rfl rfl rfl rfl rfl ?_
         refine wl_no (k := 15) (k' := 16) (d := 65) rfl rfl ⟨_, _, _, rfl, rfl, rfl, rfl⟩ rfl rfl ?_
         refine wl_no (k := 16) (k' := 17) (d := 66) rfl rfl ⟨_, _, _, rfl, rfl, rfl, rfl⟩ rfl rfl ?_
         refine wl_no (k := 17) (k' := 18) (d := 67) rfl rfl ⟨_, _, _, rfl, rfl, rfl, rfl⟩ rfl rfl ?_
         refine wl_no (k := 18) (k' := 19) (d := 68) rfl rfl ⟨_, _, _, rfl, rfl, rfl, rfl⟩ rfl rfl ?_
         refine wlo 19 20 rfl rfl rfl (wo_run rfl rfl (run_pickF rfl rfl rfl) ?_)
         refine wla 20 21 rfl rfl rfl rfl rfl rfl rfl ?_
         refine wl_end rfl ?_
         refine nm_sub [(4, _)] ⟨rfl, trivial⟩ ?_
         refine nm_thn ?_
         refine ws_ret hC [_] rfl rfl ⟨rfl, trivial⟩ ?_
         refine ⟨_, rfl, _, (((hle1.trans hle2).trans hle3).trans hle4).trans hle5, (S10.pick [] [] (by decide) trivial), ?_⟩
         show Value.bool _ = _
         refine congrArg Value.bool ?_
         first | rfl | (rw [decide_eq_true_iff]; omega) | (simp_all; done) | (simp_all <;> omega)
       ·replace hb49 := of_decide_eq_false hb49
        exfalso; omega
   ·replace hg29 := of_decide_eq_false hg29
    refine wl_no (k := 3) (k' := 4) (d := 30) rfl rfl ⟨_, _, _, rfl, rfl, rfl, rfl⟩ rfl rfl ?_
    refine wl_no (k := 4) (k' := 5) (d := 31) rfl rfl ⟨_, _, _, rfl, rfl, rfl, rfl⟩ rfl rfl ?_
    refine wl_no (k := 5) (k' := 6) (d := 32) rfl rfl ⟨_, _, _, rfl, rfl, rfl, rfl⟩ rfl rfl ?_
    refine wl_no (k := 6) (k' := 7) (d := 33) rfl rfl ⟨_, _, _, rfl, rfl, rfl, rfl⟩ rfl rfl ?_
    refine wl_no (k := 7) (k' := 8) (d := 34) rfl rfl ⟨_, _, _, rfl, rfl, rfl, rfl⟩ rfl rfl ?_
    refine wl_no (k := 8) (k' := 9) (d := 35) rfl rfl ⟨_, _, _, rfl, rfl, rfl, rfl⟩ rfl rfl ?_
    refine wl_no (k := 9) (k' := 10) (d := 36) rfl rfl ⟨_, _, _, rfl, rfl, rfl, rfl⟩ rfl rfl ?_
    refine wl_no (k := 10) (k' := 11) (d := 37) rfl rfl ⟨_, _, _, rfl, rfl, rfl, rfl⟩ rfl rfl ?_
    refine wl_no (k := 11) (k' := 12) (d := 38) rfl rfl ⟨_, _, _, rfl, rfl, rfl, rfl⟩ rfl rfl ?_
    refine wlo 12 13 rfl rfl rfl (wo_run rfl rfl (run_pickF rfl rfl rfl) ?_)
    refine wl_end rfl ?_
    refine nm_sub [(1, _), (2, _), (5, _), (6, _), (7, _), (8, _), (9, _), (39, _)] ⟨rfl, rfl, rfl, rfl, rfl, rfl, rfl, rfl, trivial⟩ ?_
    refine nm_thn ?_
    refine ws_condFN HomflyTurns_n14 rfl rfl rfl ?_
    refine ws_skip rfl ?_
    refine nm_sub [(1, _), (2, _), (5, _), (6, _), (7, _), (8, _), (9, _)] ⟨rfl, rfl, rfl, rfl, rfl, rfl, rfl, trivial⟩ ?_
    refine nm_thn ?_
    refine ws_seqN HomflyTurns_n15 HomflyTurns_n16 rfl rfl rfl ?_
    refine ws_seqN HomflyTurns_n17 HomflyTurns_n18 rfl rfl rfl ?_
    refine ws_region rfl ?_
    refine wlm 0 1 rfl rfl rfl rfl rfl rfl rfl ?_
    refine wlo 1 2 rfl rfl rfl (wo_run rfl rfl (run_eql rfl rfl rfl) ?_)
    refine wlm 2 3 rfl rfl rfl rfl rfl rfl rfl ?_
    refine wl_split (t := 42) rfl (fun hg42 => ?_) (fun hg42 => ?_)
    ·replace hg42 := of_decide_eq_true hg42
     refine wl_opG (k := 3) (k' := 4) rfl rfl ⟨_, _, _, rfl, rfl, rfl, rfl⟩ rfl (wo_run rfl rfl (run_fieldAddr rfl rfl Try.underlying51 rfl (ce49) (nf49)) ?_)
     refine wl_opG (k := 4) (k' := 5) rfl rfl ⟨_, _, _, rfl, rfl, rfl, rfl⟩ rfl (wo_run rfl rfl (run_load1 rfl rfl Try.underlying49 rfl (S10.boxc (i := 2) rfl rfl)) ?_)
     refine wl_opG (k := 5) (k' := 6) rfl rfl ⟨_, _, _, rfl, rfl, rfl, rfl⟩ rfl (wo_run rfl rfl (run_len rfl rfl rfl rfl rfl rfl Try.underlying49) ?_)
     refine wl_opG (k := 6) (k' := 7) rfl rfl ⟨_, _, _, rfl, rfl, rfl, rfl⟩ rfl (wo_run rfl rfl (run_gtr rfl rfl rfl) ?_)
     refine wlo 7 8 rfl rfl rfl (wo_run rfl rfl (run_pickT rfl rfl rfl) ?_)
     refine wl_end rfl ?_
     refine nm_sub [(1, _), (2, _), (5, _), (6, _), (7, _), (8, _), (9, _), (47, _)] ⟨rfl, rfl, rfl, rfl, rfl, rfl, rfl, rfl, trivial⟩ ?_
     refine nm_thn ?_
     refine ws_condN HomflyTurns_n19 HomflyTurns_n20 rfl rfl rfl rfl (fun hb47 => ?_) (fun hb47 => ?_)
     ·replace hb47 := of_decide_eq_true hb47
      refine ws_region rfl ?_
      refine wla 0 1 rfl rfl rfl rfl rfl rfl rfl ?_
      refine wl_end rfl ?_
      refine nm_sub [(1, _), (2, _), (5, _), (6, _), (7, _), (8, _), (9, _)] ⟨rfl, rfl, rfl, rfl, rfl, rfl, rfl, trivial⟩ ?_
      refine nm_thn ?_
      refine ws_seqN HomflyTurns_n21 HomflyTurns_n22 rfl rfl rfl ?_
      refine ws_seqN HomflyTurns_n23 HomflyTurns_n24 rfl rfl rfl ?_
      refine ws_region rfl ?_
      refine wlm 0 1 rfl rfl rfl rfl rfl rfl rfl ?_
      refine wlo 1 2 rfl rfl rfl (wo_run rfl rfl (run_neq rfl rfl rfl) ?_)
      refine wl_end rfl ?_
      refine nm_sub [(1, _), (2, _), (5, _), (6, _), (7, _), (8, _), (9, _), (49, _)] ⟨rfl, rfl, rfl, rfl, rfl, rfl, rfl, rfl, trivial⟩ ?_
      refine nm_thn ?_
      refine ws_condN HomflyTurns_n25 HomflyTurns_n26 rfl rfl rfl rfl (fun hb49 => ?_) (fun hb49 => ?_)
      ·replace hb49 := of_decide_eq_true hb49
       refine ws_seqN HomflyTurns_n27 HomflyTurns_n28 rfl rfl rfl ?_
       refine ws_region rfl ?_
       refine wlm 0 1 rfl rfl rfl rfl rfl rfl rfl ?_
       refine wlm 1 2 rfl rfl rfl rfl rfl rfl rfl ?_
       refine wlo 2 3 rfl rfl rfl (wo_run rfl rfl (run_eql rfl rfl rfl) ?_)
       refine wlm 3 4 rfl rfl rfl rfl rfl rfl rfl ?_
       refine wl_split (t := 53) rfl (fun hg53 => ?_) (fun hg53 => ?_)
       ·replace hg53 := of_decide_eq_true hg53
        refine wl_opG (k := 4) (k' := 5) rfl rfl ⟨_, _, _, rfl, rfl, rfl, rfl⟩ rfl (wo_run rfl rfl (run_move rfl rfl) ?_)
        refine wl_opG (k := 5) (k' := 6) rfl rfl ⟨_, _, _, rfl, rfl, rfl, rfl⟩ rfl (wo_run rfl rfl (run_move rfl rfl) ?_)
        refine wl_opG (k := 6) (k' := 7) rfl rfl ⟨_, _, _, rfl, rfl, rfl, rfl⟩ rfl (wo_run rfl rfl (run_eql rfl rfl rfl) ?_)
        refine wlo 7 8 rfl rfl rfl (wo_run rfl rfl (run_pickT rfl rfl rfl) ?_)
        refine wlm 8 9 rfl rfl rfl rfl rfl rfl rfl ?_
        refine wl_split (t := 58) rfl (fun hg58 => ?_) (fun hg58 => ?_)
        ·replace hg58 := of_decide_eq_true hg58
         refine wl_opG (k := 9) (k' := 10) rfl rfl ⟨_, _, _, rfl, rfl, rfl, rfl⟩ rfl (wo_run rfl rfl (run_fieldAddr rfl rfl Try.underlying51 rfl (ce49) (nf49)) ?_)
         refine wl_opG (k := 10) (k' := 11) rfl rfl ⟨_, _, _, rfl, rfl, rfl, rfl⟩ rfl (wo_run rfl rfl (run_load1 rfl rfl Try.underlying49 rfl (S10.boxc (i := 1) rfl rfl)) ?_)
         refine wl_opG (k := 11) (k' := 12) rfl rfl ⟨_, _, _, rfl, rfl, rfl, rfl⟩ rfl (wo_run rfl rfl (run_len rfl rfl rfl rfl rfl rfl Try.underlying49) ?_)
         refine wl_opG (k := 12) (k' := 13) rfl rfl ⟨_, _, _, rfl, rfl, rfl, rfl⟩ rfl (wo_run rfl rfl (run_eql rfl rfl rfl) ?_)
         refine wlo 13 14 rfl rfl rfl (wo_run rfl rfl (run_pickT rfl rfl rfl) ?_)
         refine wlm 14 15 rfl rfl rfl rfl rfl rfl rfl ?_
         refine wl_split (t := 64) rfl (fun hg64 => ?_) (fun hg64 => ?_)
         ·replace hg64 := of_decide_eq_true hg64
          refine wl_opG (k := 15) (k' := 16) rfl rfl ⟨_, _, _, rfl, rfl, rfl, rfl⟩ rfl (wo_run rfl rfl (run_fieldAddr rfl rfl Try.underlying51 rfl (ce49) (nf49)) ?_)
          refine wl_opG (k := 16) (k' := 17) rfl rfl ⟨_, _, _, rfl, rfl, rfl, rfl⟩ rfl (wo_run rfl rfl (run_load1 rfl rfl Try.underlying49 rfl (S10.boxc (i := 0) rfl rfl)) ?_)
          refine wl_opG (k := 17) (k' := 18) rfl rfl ⟨_, _, _, rfl, rfl, rfl, rfl⟩ rfl (wo_run rfl rfl (run_len rfl rfl rfl rfl rfl rfl Try.underlying49) ?_)
          refine wl_opG (k := 18) (k' := 19) rfl rfl ⟨_, _, _, rfl, rfl, rfl, rfl⟩ rfl (wo_run rfl rfl (run_eql rfl rfl rfl) ?_)
          refine wlo 19 20 rfl rfl rfl (wo_run rfl rfl (run_pickT rfl rfl rfl) ?_)
          refine wla 20 21 rfl rfl rfl rfl rfl rfl rfl ?_
          refine wl_end rfl ?_
          refine nm_sub [(4, _)] ⟨rfl, trivial⟩ ?_
          refine nm_thn ?_
          refine ws_ret hC [_] rfl rfl ⟨rfl, trivial⟩ ?_
          refine ⟨_, rfl, _, (((hle1.trans hle2).trans hle3).trans hle4).trans hle5, (S10.pick [] [] (by decide) trivial), ?_⟩
          show Value.bool _ = _
          refine congrArg Value.bool ?_
          first | rfl | (rw [decide_eq_true_iff]; omega) | (simp_all; done) | (simp_all <;> omega)
         ·replace hg64 := of_decide_eq_false hg64
          refine wl_no (k := 15) (k' := 16) (d := 65) rfl rfl ⟨_, _, _, rfl, rfl, rfl, rfl⟩ rfl rfl ?_
          refine wl_no (k := 16) (k' := 17) (d := 66) rfl rfl ⟨_, _, _, rfl, rfl, rfl, rfl⟩ rfl rfl ?_
          refine wl_no (k := 17) (k' := 18) (d := 67) rfl rfl ⟨_, _, _, rfl, rfl, rfl, rfl⟩ rfl rfl ?_
          refine wl_no (k := 18) (k' := 19) (d := 68) rfl rfl ⟨_, _, _, rfl, rfl, rfl, rfl⟩ rfl rfl ?_
          refine wlo 19 20 rfl rfl rfl (wo_run rfl rfl (run_pickF rfl rfl rfl) ?_)
          refine wla 20 21 rfl rfl rfl rfl rfl rfl rfl ?_
          refine wl_end rfl ?_
          refine nm_sub [(4, _)] ⟨rfl, trivial⟩ ?_
          refine nm_thn ?_
          refine ws_ret hC [_] rfl rfl ⟨rfl, trivial⟩ ?_
          refine ⟨_, rfl, _, (((hle1.trans hle2).trans hle3).trans hle4).trans hle5, (S10.pick [] [] (by decide) trivial), ?_⟩
          show Value.bool _ = _
          refine congrArg Value.bool ?_
          first | rfl | (rw [decide_eq_true_iff]; omega) | (simp_all; done) | (simp_all <;> omega)
        ·replace hg58 := of_decide_eq_false hg58
         refine wl_no (k := 9) (k' := 10) (d := 59) rfl rfl ⟨_, _, _, rfl, rfl, rfl, rfl⟩ rfl rfl ?_
         refine wl_no (k := 10) (k' := 11) (d := 60) rfl rfl ⟨_, _, _, rfl, rfl, rfl, rfl⟩ rfl rfl ?_
         refine wl_no (k := 11) (k' := 12) (d := 61) rfl rfl ⟨_, _, _, rfl, rfl, rfl, rfl⟩ rfl rfl ?_
         refine wl_no (k := 12) (k' := 13) (d := 62) rfl rfl ⟨_, _, _, rfl, rfl, rfl, rfl⟩ rfl rfl ?_
         refine wlo 13 14 rfl rfl rfl (wo_run rfl rfl (run_pickF rfl rfl rfl) ?_)
         refine wlm 14 15 rfl rfl rfl rfl rfl rfl rfl ?_
         refine wl_no (k := 15) (k' := 16) (d := 65) rfl rfl ⟨_, _, _, rfl, rfl, rfl, rfl⟩ rfl rfl ?_
         refine wl_no (k := 16) (k' := 17) (d := 66) rfl rfl ⟨_, _, _, rfl, rfl, rfl, rfl⟩ rfl rfl ?_
         refine wl_no (k := 17) (k' := 18) (d := 67) rfl rfl ⟨_, _, _, rfl, rfl, rfl, rfl⟩ rfl rfl ?_
         refine wl_no (k := 18) (k' := 19) (d := 68) rfl rfl ⟨_, _, _, rfl, rfl, rfl, rfl⟩ rfl rfl ?_
         refine wlo 19 20 rfl rfl rfl (wo_run rfl rfl (run_pickF rfl rfl rfl) ?_)
         refine wla 20 21 rfl rfl rfl rfl rfl rfl rfl ?_
         refine wl_end rfl ?_
         refine nm_sub [(4, _)] ⟨rfl, trivial⟩ ?_
         refine nm_thn ?_
         refine ws_ret hC [_] rfl rfl ⟨rfl, trivial⟩ ?_
         refine ⟨_, rfl, _, (((hle1.trans hle2).trans hle3).trans hle4).trans hle5, (S10.pick [] [] (by decide) trivial), ?_⟩
         show Value.bool _ = _
         refine congrArg Value.bool ?_
         first | rfl | (rw [decide_eq_true_iff]; omega) | (simp_all; done) | (simp_all <;> omega)
       ·replace hg53 := of_decide_eq_false hg53
        refine wl_no (k := 4) (k' := 5) (d := 54) rfl rfl ⟨_, _, _, rfl, rfl, rfl, rfl⟩ rfl rfl ?_
        refine wl_no (k := 5) (k' := 6) (d := 55) rfl rfl ⟨_, _, _, rfl, rfl, rfl, rfl⟩ rfl rfl ?_
        refine wl_no (k := 6) (k' := 7) (d := 56) rfl rfl ⟨_, _, _, rfl, rfl, rfl, rfl⟩ rfl rfl ?_
        refine wlo 7 8 rfl rfl rfl (wo_run rfl rfl (run_pickF rfl rfl rfl) ?_)
        refine wlm 8 9 rfl rfl rfl rfl rfl rfl rfl ?_
        refine wl_no (k := 9) (k' := 10) (d := 59) rfl rfl ⟨_, _, _, rfl, rfl, rfl, rfl⟩ rfl rfl ?_
        refine wl_no (k := 10) (k' := 11) (d := 60) rfl rfl ⟨_, _, _, rfl, rfl, rfl, rfl⟩ rfl rfl ?_
        refine wl_no (k := 11) (k' := 12) (d := 61) rfl rfl ⟨_, _, _, rfl, rfl, rfl, rfl⟩ rfl rfl ?_
        refine wl_no (k := 12) (k' := 13) (d := 62) rfl rfl ⟨_, _, _, rfl, rfl, rfl, rfl⟩ rfl rfl ?_
        refine wlo 13 14 rfl rfl rfl (wo_run rfl rfl (run_pickF rfl rfl rfl) ?_)
        refine wlm 14 15 rfl rfl rfl rfl rfl rfl rfl ?_
        refine wl_no (k := 15) (k' := 16) (d := 65) rfl rfl ⟨_, _, _, rfl, rfl, rfl, rfl⟩ rfl rfl ?_
        refine wl_no (k := 16) (k' := 17) (d := 66) rfl rfl ⟨_, _, _, rfl, rfl, rfl, rfl⟩ rfl rfl ?_
        refine wl_no (k := 17) (k' := 18) (d := 67) rfl rfl ⟨_, _, _, rfl, rfl, rfl, rfl⟩ rfl rfl ?_
        refine wl_no (k := 18) (k' := 19) (d := 68) rfl rfl ⟨_, _, _, rfl, rfl, rfl, rfl⟩ rfl rfl ?_
        refine wlo 19 20 rfl rfl rfl (wo_run rfl rfl (run_pickF rfl rfl rfl) ?_)
        refine wla 20 21 rfl rfl rfl rfl rfl rfl rfl ?_
        refine wl_end rfl ?_
        refine nm_sub [(4, _)] ⟨rfl, trivial⟩ ?_
        refine nm_thn ?_
        refine ws_ret hC [_] rfl rfl ⟨rfl, trivial⟩ ?_
        refine ⟨_, rfl, _, (((hle1.trans hle2).trans hle3).trans hle4).trans hle5, (S10.pick [] [] (by decide) trivial), ?_⟩
        show Value.bool _ = _
        refine congrArg Value.bool ?_
        first | rfl | (rw [decide_eq_true_iff]; omega) | (simp_all; done) | (simp_all <;> omega)
      ·replace hb49 := of_decide_eq_false hb49
       exfalso; omega
     ·replace hb47 := of_decide_eq_false hb47
      refine ws_skip rfl ?_
      refine nm_sub [(1, _), (2, _), (5, _), (6, _), (7, _), (8, _), (9, _)] ⟨rfl, rfl, rfl, rfl, rfl, rfl, rfl, trivial⟩ ?_
      refine nm_thn ?_
      refine ws_seqN HomflyTurns_n21 HomflyTurns_n22 rfl rfl rfl ?_
      refine ws_seqN HomflyTurns_n23 HomflyTurns_n24 rfl rfl rfl ?_
      refine ws_region rfl ?_
      refine wlm 0 1 rfl rfl rfl rfl rfl rfl rfl ?_
      refine wlo 1 2 rfl rfl rfl (wo_run rfl rfl (run_neq rfl rfl rfl) ?_)
      refine wl_end rfl ?_
      refine nm_sub [(1, _), (2, _), (5, _), (6, _), (7, _), (8, _), (9, _), (49, _)] ⟨rfl, rfl, rfl, rfl, rfl, rfl, rfl, rfl, trivial⟩ ?_
      refine nm_thn ?_
      refine ws_condN HomflyTurns_n25 HomflyTurns_n26 rfl rfl rfl rfl (fun hb49 => ?_) (fun hb49 => ?_)
      ·replace hb49 := of_decide_eq_true hb49
       refine ws_seqN HomflyTurns_n27 HomflyTurns_n28 rfl rfl rfl ?_
       refine ws_region rfl ?_
       refine wlm 0 1 rfl rfl rfl rfl rfl rfl rfl ?_
       refine wlm 1 2 rfl rfl rfl rfl rfl rfl rfl ?_
       refine wlo 2 3 rfl rfl rfl (wo_run rfl rfl (run_eql rfl rfl rfl) ?_)
       refine wlm 3 4 rfl rfl rfl rfl rfl rfl rfl ?_
       refine wl_split (t := 53) rfl (fun hg53 => ?_) (fun hg53 => ?_)
       ·replace hg53 := of_decide_eq_true hg53
        refine wl_opG (k := 4) (k' := 5) rfl rfl ⟨_, _, _, rfl, rfl, rfl, rfl⟩ rfl (wo_run rfl rfl (run_move rfl rfl) ?_)
        refine wl_opG (k := 5) (k' := 6) rfl rfl ⟨_, _, _, rfl, rfl, rfl, rfl⟩ rfl (wo_run rfl rfl (run_move rfl rfl) ?_)
        refine wl_opG (k := 6) (k' := 7) rfl rfl ⟨_, _, _, rfl, rfl, rfl, rfl⟩ rfl (wo_run rfl rfl (run_eql rfl rfl rfl) ?_)
        refine wlo 7 8 rfl rfl rfl (wo_run rfl rfl (run_pickT rfl rfl rfl) ?_)
        refine wlm 8 9 rfl rfl rfl rfl rfl rfl rfl ?_
        refine wl_split (t := 58) rfl (fun hg58 => ?_) (fun hg58 => ?_)
        ·replace hg58 := of_decide_eq_true hg58
         refine wl_opG (k := 9) (k' := 10) rfl rfl ⟨_, _, _, rfl, rfl, rfl, rfl⟩ rfl (wo_run rfl rfl (run_fieldAddr rfl rfl Try.underlying51 rfl (ce49) (nf49)) ?_)
         refine wl_opG (k := 10) (k' := 11) rfl rfl ⟨_, _, _, rfl, rfl, rfl, rfl⟩ rfl (wo_run rfl rfl (run_load1 rfl rfl Try.underlying49 rfl (S10.boxc (i := 1) rfl rfl)) ?_)
         refine wl_opG (k := 11) (k' := 12) rfl rfl ⟨_, _, _, rfl, rfl, rfl, rfl⟩ rfl (wo_run rfl rfl (run_len rfl rfl rfl rfl rfl rfl Try.underlying49) ?_)
         refine wl_opG (k := 12) (k' := 13) rfl rfl ⟨_, _, _, rfl, rfl, rfl, rfl⟩ rfl (wo_run rfl rfl (run_eql rfl rfl rfl) ?_)
         refine wlo 13 14 rfl rfl rfl (wo_run rfl rfl (run_pickT rfl rfl rfl) ?_)
         refine wlm 14 15 rfl rfl rfl rfl rfl rfl rfl ?_
         refine wl_split (t := 64) rfl (fun hg64 => ?_) (fun hg64 => ?_)
         ·replace hg64 := of_decide_eq_true hg64
          refine wl_opG (k := 15) (k' := 16) rfl rfl ⟨_, _, _, rfl, rfl, rfl, rfl⟩ rfl (wo_run rfl rfl (run_fieldAddr rfl rfl Try.underlying51 rfl (ce49) (nf49)) ?_)
          refine wl_opG (k := 16) (k' := 17) rfl rfl ⟨_, _, _, rfl, rfl, rfl, rfl⟩ rfl (wo_run rfl rfl (run_load1 rfl rfl Try.underlying49 rfl (S10.boxc (i := 0) rfl rfl)) ?_)
          refine wl_opG (k := 17) (k' := 18) rfl rfl ⟨_, _, _, rfl, rfl, rfl, rfl⟩ rfl (wo_run rfl rfl (run_len rfl rfl rfl rfl rfl rfl Try.underlying49) ?_)
          refine wl_opG (k := 18) (k' := 19) rfl rfl ⟨_, _, _, rfl, rfl, rfl, rfl⟩ rfl (wo_run rfl rfl (run_eql rfl rfl rfl) ?_)
          refine wlo 19 20 rfl rfl rfl (wo_run rfl rfl (run_pickT rfl rfl rfl) ?_)
          refine wla 20 21 rfl rfl rfl rfl rfl rfl rfl ?_
          refine wl_end rfl ?_
          refine nm_sub [(4, _)] ⟨rfl, trivial⟩ ?_
          refine nm_thn ?_
          refine ws_ret hC [_] rfl rfl ⟨rfl, trivial⟩ ?_
          refine ⟨_, rfl, _, (((hle1.trans hle2).trans hle3).trans hle4).trans hle5, (S10.pick [] [] (by decide) trivial), ?_⟩
          show Value.bool _ = _
          refine congrArg Value.bool ?_
          first | rfl | (rw [decide_eq_true_iff]; omega) | (simp_all; done) | (simp_all <;> omega)
         ·replace hg64 := of_decide_eq_false hg64
          refine wl_no (k := 15) (k' := 16) (d := 65) rfl rfl ⟨_, _, _, rfl, rfl, rfl, rfl⟩ rfl rfl ?_
          refine wl_no (k := 16) (k' := 17) (d := 66) rfl rfl ⟨_, _, _, rfl, rfl, rfl, rfl⟩ rfl rfl ?_
          refine wl_no (k := 17) (k' := 18) (d := 67) rfl rfl ⟨_, _, _, rfl, rfl, rfl, rfl⟩ rfl rfl ?_
          refine wl_no (k := 18) (k' := 19) (d := 68) rfl rfl ⟨_, _, _, rfl, rfl, rfl, rfl⟩ rfl rfl ?_
          refine wlo 19 20 rfl rfl rfl (wo_run rfl rfl (run_pickF rfl rfl rfl) ?_)
          refine wla 20 21 rfl rfl rfl rfl rfl rfl rfl ?_
          refine wl_end rfl ?_
          refine nm_sub [(4, _)] ⟨rfl, trivial⟩ ?_
          refine nm_thn ?_
          refine ws_ret hC [_] rfl rfl ⟨rfl, trivial⟩ ?_
          refine ⟨_, rfl, _, (((hle1.trans hle2).trans hle3).trans hle4).trans hle5, (S10.pick [] [] (by decide) trivial), ?_⟩
          show Value.bool _ = _
          refine congrArg Value.bool ?_
          first | rfl | (rw [decide_eq_true_iff]; omega) | (simp_all; done) | (simp_all <;> omega)
        ·replace hg58 := of_decide_eq_false hg58
         refine wl_no (k := 9) (k' := 10) (d := 59) rfl rfl ⟨_, _, _, rfl, rfl, rfl, rfl⟩ rfl rfl ?_
         refine wl_no (k := 10) (k' := 11) (d := 60) rfl rfl ⟨_, _, _, rfl, rfl, rfl, rfl⟩ rfl rfl ?_
         refine wl_no (k := 11) (k' := 12) (d := 61) rfl rfl ⟨_, _, _, rfl, rfl, rfl, rfl⟩ rfl rfl ?_
         refine wl_no (k := 12) (k' := 13) (d := 62) rfl rfl ⟨_, _, _, rfl, rfl, rfl, rfl⟩ rfl rfl ?_
         refine wlo 13 14 rfl rfl rfl (wo_run rfl rfl (run_pickF rfl rfl rfl) ?_)
         refine wlm 14 15 rfl rfl rfl rfl rfl rfl rfl ?_
         refine wl_no (k := 15) (k' := 16) (d := 65) rfl rfl ⟨_, _, _, rfl, rfl, rfl, rfl⟩ rfl rfl ?_
         refine wl_no (k := 16) (k' := 17) (d := 66) rfl rfl ⟨_, _, _, rfl, rfl, rfl, rfl⟩ rfl rfl ?_
         refine wl_no (k := 17) (k' := 18) (d := 67) rfl rfl ⟨_, _, _, rfl, rfl, rfl, rfl⟩ rfl rfl ?_
         refine wl_no (k := 18) (k' := 19) (d := 68) rfl rfl ⟨_, _, _, rfl, rfl, rfl, rfl⟩ rfl rfl ?_
         refine wlo 19 20 rfl rfl rfl (wo_run rfl rfl (run_pickF rfl rfl rfl) ?_)
         refine wla 20 21 rfl rfl rfl rfl rfl rfl rfl ?_
         refine wl_end rfl ?_
         refine nm_sub [(4, _)] ⟨rfl, trivial⟩ ?_
         refine nm_thn ?_
         refine ws_ret hC [_] rfl rfl ⟨rfl, trivial⟩ ?_
         refine ⟨_, rfl, _, (((hle1.trans hle2).trans hle3).trans hle4).trans hle5, (S10.pick [] [] (by decide) trivial), ?_⟩
         show Value.bool _ = _
         refine congrArg Value.bool ?_
         first | rfl | (rw [decide_eq_true_iff]; omega) | (simp_all; done) | (simp_all <;> omega)
       ·replace hg53 := of_decide_eq_false hg53
        refine wl_no (k := 4) (k' := 5) (d := 54) rfl rfl ⟨_, _, _, rfl, rfl, rfl, rfl⟩ rfl rfl ?_
        refine wl_no (k := 5) (k' := 6) (d := 55) rfl rfl ⟨_, _, _, rfl, rfl, rfl, rfl⟩ rfl rfl ?_
        refine wl_no (k := 6) (k' := 7) (d := 56) rfl rfl ⟨_, _, _, rfl, rfl, rfl, rfl⟩ rfl rfl ?_
        refine wlo 7 8 rfl rfl rfl (wo_run rfl rfl (run_pickF rfl rfl rfl) ?_)
        refine wlm 8 9 rfl rfl rfl rfl rfl rfl rfl ?_
        refine wl_no (k := 9) (k' := 10) (d := 59) rfl rfl ⟨_, _, _, rfl, rfl, rfl, rfl⟩ rfl rfl ?_
        refine wl_no (k := 10) (k' := 11) (d := 60) rfl rfl ⟨_, _, _, rfl, rfl, rfl, rfl⟩ rfl rfl ?_
        refine wl_no (k := 11) (k' := 12) (d := 61) rfl rfl ⟨_, _, _, rfl, rfl, rfl, rfl⟩ rfl rfl ?_
        refine wl_no (k := 12) (k' := 13) (d := 62) rfl rfl ⟨_, _, _, rfl, rfl, rfl, rfl⟩ rfl rfl ?_
        refine wlo 13 14 rfl rfl rfl (wo_run rfl rfl (run_pickF rfl rfl rfl) ?_)
        refine wlm 14 15 rfl rfl rfl rfl rfl rfl rfl ?_
        refine wl_no (k := 15) (k' := 16) (d := 65) rfl rfl ⟨_, _, _, rfl, rfl, rfl, rfl⟩ rfl rfl ?_
        refine wl_no (k := 16) (k' := 17) (d := 66) rfl rfl ⟨_, _, _, rfl, rfl, rfl, rfl⟩ rfl rfl ?_
        refine wl_no (k := 17) (k' := 18) (d := 67) rfl rfl ⟨_, _, _, rfl, rfl, rfl, rfl⟩ rfl rfl ?_
        refine wl_no (k := 18) (k' := 19) (d := 68) rfl rfl ⟨_, _, _, rfl, rfl, rfl, rfl⟩ rfl rfl ?_
        refine wlo 19 20 rfl rfl rfl (wo_run rfl rfl (run_pickF rfl rfl rfl) ?_)
        refine wla 20 21 rfl rfl rfl rfl rfl rfl rfl ?_
        refine wl_end rfl ?_
        refine nm_sub [(4, _)] ⟨rfl, trivial⟩ ?_
        refine nm_thn ?_
        refine ws_ret hC [_] rfl rfl ⟨rfl, trivial⟩ ?_
        refine ⟨_, rfl, _, (((hle1.trans hle2).trans hle3).trans hle4).trans hle5, (S10.pick [] [] (by decide) trivial), ?_⟩
        show Value.bool _ = _
        refine congrArg Value.bool ?_
        first | rfl | (rw [decide_eq_true_iff]; omega) | (simp_all; done) | (simp_all <;> omega)
      ·replace hb49 := of_decide_eq_false hb49
       exfalso; omega
    ·replace hg42 := of_decide_eq_false hg42
     refine wl_no (k := 3) (k' := 4) (d := 43) rfl rfl ⟨_, _, _, rfl, rfl, rfl, rfl⟩ rfl rfl ?_
     refine wl_no (k := 4) (k' := 5) (d := 44) rfl rfl ⟨_, _, _, rfl, rfl, rfl, rfl⟩ rfl rfl ?_
     refine wl_no (k := 5) (k' := 6) (d := 45) rfl rfl ⟨_, _, _, rfl, rfl, rfl, rfl⟩ rfl rfl ?_
     refine wl_no (k := 6) (k' := 7) (d := 46) rfl rfl ⟨_, _, _, rfl, rfl, rfl, rfl⟩ rfl rfl ?_
     refine wlo 7 8 rfl rfl rfl (wo_run rfl rfl (run_pickF rfl rfl rfl) ?_)
     refine wl_end rfl ?_
     refine nm_sub [(1, _), (2, _), (5, _), (6, _), (7, _), (8, _), (9, _), (47, _)] ⟨rfl, rfl, rfl, rfl, rfl, rfl, rfl, rfl, trivial⟩ ?_
     refine nm_thn ?_
     refine ws_condFN HomflyTurns_n20 rfl rfl rfl ?_
     refine ws_skip rfl ?_
     refine nm_sub [(1, _), (2, _), (5, _), (6, _), (7, _), (8, _), (9, _)] ⟨rfl, rfl, rfl, rfl, rfl, rfl, rfl, trivial⟩ ?_
     refine nm_thn ?_
     refine ws_seqN HomflyTurns_n21 HomflyTurns_n22 rfl rfl rfl ?_
     refine ws_seqN HomflyTurns_n23 HomflyTurns_n24 rfl rfl rfl ?_
     refine ws_region rfl ?_
     refine wlm 0 1 rfl rfl rfl rfl rfl rfl rfl ?_
     refine wlo 1 2 rfl rfl rfl (wo_run rfl rfl (run_neq rfl rfl rfl) ?_)
     refine wl_end rfl ?_
     refine nm_sub [(1, _), (2, _), (5, _), (6, _), (7, _), (8, _), (9, _), (49, _)] ⟨rfl, rfl, rfl, rfl, rfl, rfl, rfl, rfl, trivial⟩ ?_
     refine nm_thn ?_
     refine ws_condN HomflyTurns_n25 HomflyTurns_n26 rfl rfl rfl rfl (fun hb49 => ?_) (fun hb49 => ?_)
     ·replace hb49 := of_decide_eq_true hb49
      refine ws_seqN HomflyTurns_n27 HomflyTurns_n28 rfl rfl rfl ?_
      refine ws_region rfl ?_
      refine wlm 0 1 rfl rfl rfl rfl rfl rfl rfl ?_
      refine wlm 1 2 rfl rfl rfl rfl rfl rfl rfl ?_
      refine wlo 2 3 rfl rfl rfl (wo_run rfl rfl (run_eql rfl rfl rfl) ?_)
      refine wlm 3 4 rfl rfl rfl rfl rfl rfl rfl ?_
      refine wl_split (t := 53) rfl (fun hg53 => ?_) (fun hg53 => ?_)
      ·replace hg53 := of_decide_eq_true hg53
       refine wl_opG (k := 4) (k' := 5) rfl rfl ⟨_, _, _, rfl, rfl, rfl, rfl⟩ rfl (wo_run rfl rfl (run_move rfl rfl) ?_)
       refine wl_opG (k := 5) (k' := 6) rfl rfl ⟨_, _, _, rfl, rfl, rfl, rfl⟩ rfl (wo_run rfl rfl (run_move rfl rfl) ?_)
       refine wl_opG (k := 6) (k' := 7) rfl rfl ⟨_, _, _, rfl, rfl, rfl, rfl⟩ rfl (wo_run rfl rfl (run_eql rfl rfl rfl) ?_)
       refine wlo 7 8 rfl rfl rfl (wo_run rfl rfl (run_pickT rfl rfl rfl) ?_)
       refine wlm 8 9 rfl rfl rfl rfl rfl rfl rfl ?_
       refine wl_split (t := 58) rfl (fun hg58 => ?_) (fun hg58 => ?_)
       ·replace hg58 := of_decide_eq_true hg58
        refine wl_opG (k := 9) (k' := 10) rfl rfl ⟨_, _, _, rfl, rfl, rfl, rfl⟩ rfl (wo_run rfl rfl (run_fieldAddr rfl rfl Try.underlying51 rfl (ce49) (nf49)) ?_)
        refine wl_opG (k := 10) (k' := 11) rfl rfl ⟨_, _, _, rfl, rfl, rfl, rfl⟩ rfl (wo_run rfl rfl (run_load1 rfl rfl Try.underlying49 rfl (S10.boxc (i := 1) rfl rfl)) ?_)
        refine wl_opG (k := 11) (k' := 12) rfl rfl ⟨_, _, _, rfl, rfl, rfl, rfl⟩ rfl (wo_run rfl rfl (run_len rfl rfl rfl rfl rfl rfl Try.underlying49) ?_)
        refine wl_opG (k := 12) (k' := 13) rfl rfl ⟨_, _, _, rfl, rfl, rfl, rfl⟩ rfl (wo_run rfl rfl (run_eql rfl rfl rfl) ?_)
        refine wlo 13 14 rfl rfl rfl (wo_run rfl rfl (run_pickT rfl rfl rfl) ?_)
        refine wlm 14 15 rfl rfl rfl rfl rfl rfl rfl ?_
        refine wl_split (t := 64) rfl (fun hg64 => ?_) (fun hg64 => ?_)
        ·replace hg64 := of_decide_eq_true hg64
         refine wl_opG (k := 15) (k' := 16) rfl rfl ⟨_, _, _, rfl, rfl, rfl, rfl⟩ rfl (wo_run rfl rfl (run_fieldAddr rfl rfl Try.underlying51 rfl (ce49) (nf49)) ?_)
         refine wl_opG (k := 16) (k' := 17) rfl rfl ⟨_, _, _, rfl, rfl, rfl, rfl⟩ rfl (wo_run rfl rfl (run_load1 rfl rfl Try.underlying49 rfl (S10.boxc (i := 0) rfl rfl)) ?_)
         refine wl_opG (k := 17) (k' := 18) rfl rfl ⟨_, _, _, rfl, rfl, rfl, rfl⟩ rfl (wo_run rfl rfl (run_len rfl rfl rfl rfl rfl rfl Try.underlying49) ?_)
         refine wl_opG (k := 18) (k' := 19) rfl rfl ⟨_, _, _, rfl, rfl, rfl, rfl⟩ rfl (wo_run rfl rfl (run_eql rfl rfl rfl) ?_)
         refine wlo 19 20 rfl rfl rfl (wo_run rfl rfl (run_pickT rfl rfl rfl) ?_)
         refine wla 20 21 rfl rfl rfl rfl rfl rfl rfl ?_
         refine wl_end rfl ?_
         refine nm_sub [(4, _)] ⟨rfl, trivial⟩ ?_
         refine nm_thn ?_
         refine ws_ret hC [_] rfl rfl ⟨rfl, trivial⟩ ?_
         refine ⟨_, rfl, _, (((hle1.trans hle2).trans hle3).trans hle4).trans hle5, (S10.pick [] [] (by decide) trivial), ?_⟩
         show Value.bool _ = _
         refine congrArg Value.bool ?_
         first | rfl | (rw [decide_eq_true_iff]; omega) | (simp_all; done) | (simp_all <;> omega)
        ·replace hg64 := of_decide_eq_false hg64
         refine wl_no (k := 15) (k' := 16) (d := 65) rfl rfl ⟨_, _, _, rfl, rfl, rfl, rfl⟩ rfl rfl ?_
         refine wl_no (k := 16) (k' := 17) (d := 66) rfl rfl ⟨_, _, _, rfl, rfl, rfl, rfl⟩ rfl rfl ?_
         refine wl_no (k := 17) (k' := 18) (d := 67) rfl rfl ⟨_, _, _, rfl, rfl, rfl, rfl⟩ rfl rfl ?_
         refine wl_no (k := 18) (k' := 19) (d := 68) rfl rfl ⟨_, _, _, rfl, rfl, rfl, rfl⟩ rfl rfl ?_
         refine wlo 19 20 rfl rfl rfl (wo_run rfl rfl (run_pickF rfl rfl rfl) ?_)
         refine wla 20 21 rfl rfl rfl rfl rfl rfl rfl ?_
         refine wl_end rfl ?_
         refine nm_sub [(4, _)] ⟨rfl, trivial⟩ ?_
         refine nm_thn ?_
         refine ws_ret hC [_] rfl rfl ⟨rfl, trivial⟩ ?_
         refine ⟨_, rfl, _, (((hle1.trans hle2).trans hle3).trans hle4).trans hle5, (S10.pick [] [] (by decide) trivial), ?_⟩
         show Value.bool _ = _
         refine congrArg Value.bool ?_
         first | rfl | (rw [decide_eq_true_iff]; omega) | (simp_all; done) | (simp_all <;> omega)
       ·replace hg58 := of_decide_eq_false hg58
        refine wl_no (k := 9) (k' := 10) (d := 59) rfl rfl ⟨_, _, _, rfl, rfl, rfl, rfl⟩ rfl rfl ?_
        refine wl_no (k := 10) (k' := 11) (d := 60) rfl rfl ⟨_, _, _, rfl, rfl, rfl, rfl⟩ rfl rfl ?_
        refine wl_no (k := 11) (k' := 12) (d := 61) rfl rfl ⟨_, _, _, rfl, rfl, rfl, rfl⟩ rfl rfl ?_
        refine wl_no (k := 12) (k' := 13) (d := 62) rfl rfl ⟨_, _, _, rfl, rfl, rfl, rfl⟩ rfl rfl ?_
        refine wlo 13 14 rfl rfl rfl (wo_run rfl rfl (run_pickF rfl rfl rfl) ?_)
        refine wlm 14 15 rfl rfl rfl rfl rfl rfl rfl ?_
        refine wl_no (k := 15) (k' := 16) (d := 65) rfl rfl ⟨_, _, _, rfl, rfl, rfl, rfl⟩ rfl rfl ?_
        refine wl_no (k := 16) (k' := 17) (d := 66) rfl rfl ⟨_, _, _, rfl, rfl, rfl, rfl⟩ rfl rfl ?_
        refine wl_no (k := 17) (k' := 18) (d := 67) rfl rfl ⟨_, _, _, rfl, rfl, rfl, rfl⟩ rfl rfl ?_
        refine wl_no (k := 18) (k' := 19) (d := 68) rfl rfl ⟨_, _, _, rfl, rfl, rfl, rfl⟩ rfl rfl ?_
        refine wlo 19 20 rfl rfl rfl (wo_run rfl rfl (run_pickF rfl rfl rfl) ?_)
        refine wla 20 21 rfl rfl rfl rfl rfl rfl rfl ?_
        refine wl_end rfl ?_
        refine nm_sub [(4, _)] ⟨rfl, trivial⟩ ?_
        refine nm_thn ?_
        refine ws_ret hC [_] rfl rfl ⟨rfl, trivial⟩ ?_
        refine ⟨_, rfl, _, (((hle1.trans hle2).trans hle3).trans hle4).trans hle5, (S10.pick [] [] (by decide) trivial), ?_⟩
        show Value.bool _ = _
        refine congrArg Value.bool ?_
        first | rfl | (rw [decide_eq_true_iff]; omega) | (simp_all; done) | (simp_all <;> omega)
      ·replace hg53 := of_decide_eq_false hg53
       refine wl_no (k := 4) (k' := 5) (d := 54) rfl rfl ⟨_, _, _, rfl, rfl, rfl, rfl⟩ rfl rfl ?_
       refine wl_no (k := 5) (k' := 6) (d := 55) rfl rfl ⟨_, _, _, rfl, rfl, rfl, rfl⟩ rfl rfl ?_
       refine wl_no (k := 6) (k' := 7) (d := 56) rfl rfl ⟨_, _, _, rfl, rfl, rfl, rfl⟩ rfl rfl ?_
       refine wlo 7 8 rfl rfl rfl (wo_run rfl rfl (run_pickF rfl rfl rfl) ?_)
       refine wlm 8 9 rfl rfl rfl rfl rfl rfl rfl ?_
       refine wl_no (k := 9) (k' := 10) (d := 59) rfl rfl ⟨_, _, _, rfl, rfl, rfl, rfl⟩ rfl rfl ?_
       refine wl_no (k := 10) (k' := 11) (d := 60) rfl rfl ⟨_, _, _, rfl, rfl, rfl, rfl⟩ rfl rfl ?_
       refine wl_no (k := 11) (k' := 12) (d := 61) rfl rfl ⟨_, _, _, rfl, rfl, rfl, rfl⟩ rfl rfl ?_
       refine wl_no (k := 12) (k' := 13) (d := 62) rfl rfl ⟨_, _, _, rfl, rfl, rfl, rfl⟩ rfl rfl ?_
       refine wlo 13 14 rfl rfl rfl (wo_run rfl rfl (run_pickF rfl rfl rfl) ?_)
       refine wlm 14 15 rfl rfl rfl rfl rfl rfl rfl ?_
       refine wl_no (k := 15) (k' := 16) (d := 65) rfl rfl ⟨_, _, _, rfl, rfl, rfl, rfl⟩ rfl rfl ?_
       refine wl_no (k := 16) (k' := 17) (d := 66) rfl rfl ⟨_, _, _, rfl, rfl, rfl, rfl⟩ rfl rfl ?_
       refine wl_no (k := 17) (k' := 18) (d := 67) rfl rfl ⟨_, _, _, rfl, rfl, rfl, rfl⟩ rfl rfl ?_
       refine wl_no (k := 18) (k' := 19) (d := 68) rfl rfl ⟨_, _, _, rfl, rfl, rfl, rfl⟩ rfl rfl ?_
       refine wlo 19 20 rfl rfl rfl (wo_run rfl rfl (run_pickF rfl rfl rfl) ?_)
       refine wla 20 21 rfl rfl rfl rfl rfl rfl rfl ?_
       refine wl_end rfl ?_
       refine nm_sub [(4, _)] ⟨rfl, trivial⟩ ?_
       refine nm_thn ?_
       refine ws_ret hC [_] rfl rfl ⟨rfl, trivial⟩ ?_
       refine ⟨_, rfl, _, (((hle1.trans hle2).trans hle3).trans hle4).trans hle5, (S10.pick [] [] (by decide) trivial), ?_⟩
       show Value.bool _ = _
       refine congrArg Value.bool ?_
       first | rfl | (rw [decide_eq_true_iff]; omega) | (simp_all; done) | (simp_all <;> omega)
     ·replace hb49 := of_decide_eq_false hb49
      exfalso; omega
  ·exfalso; have := errS_cases d k; omega
 ·obtain ⟨heO, hk0, hk1, hn8⟩ := errH_ok hchg
  obtain ⟨hmo, hpl⟩ := errO_ok heO
  obtain ⟨hn, hab, hlo0, hlo1⟩ := mayO hmo
  obtain ⟨kk, rfl⟩ : ∃ kk : Nat, k = (kk : Int) := ⟨k.toNat, by omega⟩
  refine wlm 4 5 rfl rfl rfl rfl rfl rfl rfl ?_
  refine wlo 5 6 rfl rfl rfl (wo_run rfl rfl (run_extract rfl rfl rfl) ?_)
  refine wlo 6 7 rfl rfl rfl (wo_run rfl rfl (run_extract rfl rfl rfl) ?_)
  refine wlo 7 8 rfl rfl rfl (wo_alloc (l := [_, _]) rfl rfl rfl zr51 rfl S3 ?_)
  intro gb4 w11 S11; clear S3
  refine wlo 8 9 rfl rfl rfl (wo_storeB (i := 0) (us := [_, _]) (l' := [_, _]) (H' := [_, _]) rfl rfl S11 rfl rfl rfl rfl sz51 rfl rfl rfl rfl ?_)
  intro w12 S12; clear S11
  refine wla 9 10 rfl rfl rfl rfl rfl rfl rfl ?_
  refine wl_end rfl ?_
  refine nm_sub [(1, _), (2, _), (5, _), (6, _)] ⟨rfl, rfl, rfl, rfl, trivial⟩ ?_
  refine nm_thn ?_
  refine ws_seqN HomflyTurns_n5 HomflyTurns_n6 rfl rfl rfl ?_
  refine ws_region rfl ?_
  refine wlo 0 1 rfl rfl rfl (wo_run rfl rfl (run_loadN (us := [_, _]) rfl rfl Try.underlying51 rfl sz51 (S12.boxcs (i := 1) rfl ⟨rfl, rfl, trivial⟩)) ?_)
  refine wlo 1 2 rfl rfl rfl (wo_ct rfl rfl rfl rfl rfl rfl rfl cf33 S12 (DiagramOf_t d (hdcrs.mono (Hp.le_un _ _)) S12.lend) ?_)
  intro vw13 w13 M6 hle6 S13 hRw13; clear S12
  replace hdcrs := hdcrs.mono hle6
  replace hr1 := hr1.mono hle6
  replace hr2 := hr2.mono hle6
  obtain ⟨A5, c5, rfl, hr5⟩ := hRw13
  refine wlm 2 3 rfl rfl rfl rfl rfl rfl rfl ?_
  refine wlo 3 4 rfl rfl rfl (wo_ct rfl rfl rfl rfl rfl rfl rfl cf40 S13 (Smooth_t d (kk : Int) (hr5.mono (Hp.le_un _ _)) S13.lend) ?_)
  intro vw14 w14 M7 hle7 S14 hRw14; clear S13
  replace hdcrs := hdcrs.mono hle7
  replace hr1 := hr1.mono hle7
  replace hr2 := hr2.mono hle7
  replace hr5 := hr5.mono hle7
  rcases hRw14 with ⟨hsmo, rfl⟩ | ⟨hsmo, A6, c6, rfl, hr6⟩
  ·have hS := errS_cases d (kk : Int)
   refine wlm 4 5 rfl rfl rfl rfl rfl rfl rfl ?_
   refine wlo 5 6 rfl rfl rfl (wo_run rfl rfl (run_extract rfl rfl rfl) ?_)
   refine wlo 6 7 rfl rfl rfl (wo_run rfl rfl (run_extract rfl rfl rfl) ?_)
   refine wlo 7 8 rfl rfl rfl (wo_alloc (l := [_, _]) rfl rfl rfl zr51 rfl S14 ?_)
   intro gb5 w15 S15; clear S14
   refine wlo 8 9 rfl rfl rfl (wo_storeB (i := 0) (us := [_, _]) (l' := [_, _]) (H' := [_, _, _]) rfl rfl S15 rfl rfl rfl rfl sz51 rfl rfl rfl rfl ?_)
   intro w16 S16; clear S15
   refine wla 9 10 rfl rfl rfl rfl rfl rfl rfl ?_
   refine wl_end rfl ?_
   refine nm_sub [(1, _), (2, _), (5, _), (6, _), (7, _), (8, _)] ⟨rfl, rfl, rfl, rfl, rfl, rfl, trivial⟩ ?_
   refine nm_thn ?_
   refine ws_seqN HomflyTurns_n7 HomflyTurns_n8 rfl rfl rfl ?_
   refine ws_region rfl ?_
   refine wlo 0 1 rfl rfl rfl (wo_run rfl rfl (run_loadN (us := [_, _]) rfl rfl Try.underlying51 rfl sz51 (S16.boxcs (i := 2) rfl ⟨rfl, rfl, trivial⟩)) ?_)
   refine wlo 1 2 rfl rfl rfl (wo_ct rfl rfl rfl rfl rfl rfl rfl cf41 S16 (PlanarMay_t d (hdcrs.mono (Hp.le_un _ _)) S16.lend) ?_)
   intro vw17 w17 M8 hle8 S17 hRw17; clear S16
   replace hdcrs := hdcrs.mono hle8
   replace hr1 := hr1.mono hle8
   replace hr2 := hr2.mono hle8
   replace hr5 := hr5.mono hle8
   obtain rfl := hRw17
   refine wla 2 3 rfl rfl rfl rfl rfl rfl rfl ?_
   refine wl_end rfl ?_
   refine nm_sub [(1, _), (2, _), (5, _), (6, _), (7, _), (8, _), (9, _)] ⟨rfl, rfl, rfl, rfl, rfl, rfl, rfl, trivial⟩ ?_
   refine nm_thn ?_
   refine ws_seqN HomflyTurns_n9 HomflyTurns_n10 rfl rfl rfl ?_
   refine ws_seqN HomflyTurns_n11 HomflyTurns_n12 rfl rfl rfl ?_
   have hE := errH_cases d (kk : Int)
   refine ws_region rfl ?_
   refine wlm 0 1 rfl rfl rfl rfl rfl rfl rfl ?_
   refine wlo 1 2 rfl rfl rfl (wo_run rfl rfl (run_eql rfl rfl rfl) ?_)
   refine wlm 2 3 rfl rfl rfl rfl rfl rfl rfl ?_
   refine wl_split (t := 29) rfl (fun hg29 => ?_) (fun hg29 => ?_)
   ·replace hg29 := of_decide_eq_true hg29
    refine wl_opG (k := 3) (k' := 4) rfl rfl ⟨_, _, _, rfl, rfl, rfl, rfl⟩ rfl (wo_run rfl rfl (run_move rfl rfl) ?_)
    refine wl_opG (k := 4) (k' := 5) rfl rfl ⟨_, _, _, rfl, rfl, rfl, rfl⟩ rfl (wo_run rfl rfl (run_lss rfl rfl rfl) ?_)
    refine wl_opG (k := 5) (k' := 6) rfl rfl ⟨_, _, _, rfl, rfl, rfl, rfl⟩ rfl (wo_run rfl rfl (run_move rfl rfl) ?_)
    refine wl_split (t := 32) rfl (fun hg32 => ?_) (fun hg32 => ?_)
    ·replace hg32 := of_decide_eq_true hg32
     exfalso; omega
    ·replace hg32 := of_decide_eq_false hg32
     refine wl_opG (k := 6) (k' := 7) rfl rfl ⟨_, _, _, rfl, rfl, rfl, rfl⟩ rfl (wo_run rfl rfl (run_move rfl rfl) ?_)
     refine wl_opG (k := 7) (k' := 8) rfl rfl ⟨_, _, _, rfl, rfl, rfl, rfl⟩ rfl (wo_run rfl rfl (run_fieldAddr rfl rfl Try.underlying51 rfl (ce49) (nf49)) ?_)
     refine wl_opG (k := 8) (k' := 9) rfl rfl ⟨_, _, _, rfl, rfl, rfl, rfl⟩ rfl (wo_run rfl rfl (run_load1 rfl rfl Try.underlying49 rfl (S17.boxc (i := 2) rfl rfl)) ?_)
     refine wl_opG (k := 9) (k' := 10) rfl rfl ⟨_, _, _, rfl, rfl, rfl, rfl⟩ rfl (wo_run rfl rfl (run_len rfl rfl rfl rfl rfl rfl Try.underlying49) ?_)
     refine wl_opG (k := 10) (k' := 11) rfl rfl ⟨_, _, _, rfl, rfl, rfl, rfl⟩ rfl (wo_run rfl rfl (run_geq rfl rfl rfl) ?_)
     refine wl_opG (k := 11) (k' := 12) rfl rfl ⟨_, _, _, rfl, rfl, rfl, rfl⟩ rfl (wo_run rfl rfl (run_pickF rfl rfl rfl) ?_)
     refine wlo 12 13 rfl rfl rfl (wo_run rfl rfl (run_pickT rfl rfl rfl) ?_)
     refine wl_end rfl ?_
     refine nm_sub [(1, _), (2, _), (5, _), (6, _), (7, _), (8, _), (9, _), (39, _)] ⟨rfl, rfl, rfl, rfl, rfl, rfl, rfl, rfl, trivial⟩ ?_
     refine nm_thn ?_
     refine ws_condN HomflyTurns_n13 HomflyTurns_n14 rfl rfl rfl rfl (fun hb39 => ?_) (fun hb39 => ?_)
     ·replace hb39 := of_decide_eq_true hb39
      exfalso; omega
     ·replace hb39 := of_decide_eq_false hb39
      refine ws_skip rfl ?_
      refine nm_sub [(1, _), (2, _), (5, _), (6, _), (7, _), (8, _), (9, _)] ⟨rfl, rfl, rfl, rfl, rfl, rfl, rfl, trivial⟩ ?_
      refine nm_thn ?_
      refine ws_seqN HomflyTurns_n15 HomflyTurns_n16 rfl rfl rfl ?_
      refine ws_seqN HomflyTurns_n17 HomflyTurns_n18 rfl rfl rfl ?_
      refine ws_region rfl ?_
      refine wlm 0 1 rfl rfl rfl rfl rfl rfl rfl ?_
      refine wlo 1 2 rfl rfl rfl (wo_run rfl rfl (run_eql rfl rfl rfl) ?_)
      refine wlm 2 3 rfl rfl rfl rfl rfl rfl rfl ?_
      refine wl_split (t := 42) rfl (fun hg42 => ?_) (fun hg42 => ?_)
      ·replace hg42 := of_decide_eq_true hg42
       refine wl_opG (k := 3) (k' := 4) rfl rfl ⟨_, _, _, rfl, rfl, rfl, rfl⟩ rfl (wo_run rfl rfl (run_fieldAddr rfl rfl Try.underlying51 rfl (ce49) (nf49)) ?_)
       refine wl_opG (k := 4) (k' := 5) rfl rfl ⟨_, _, _, rfl, rfl, rfl, rfl⟩ rfl (wo_run rfl rfl (run_load1 rfl rfl Try.underlying49 rfl (S17.boxc (i := 2) rfl rfl)) ?_)
       refine wl_opG (k := 5) (k' := 6) rfl rfl ⟨_, _, _, rfl, rfl, rfl, rfl⟩ rfl (wo_run rfl rfl (run_len rfl rfl rfl rfl rfl rfl Try.underlying49) ?_)
       refine wl_opG (k := 6) (k' := 7) rfl rfl ⟨_, _, _, rfl, rfl, rfl, rfl⟩ rfl (wo_run rfl rfl (run_gtr rfl rfl rfl) ?_)
       refine wlo 7 8 rfl rfl rfl (wo_run rfl rfl (run_pickT rfl rfl rfl) ?_)
       refine wl_end rfl ?_
       refine nm_sub [(1, _), (2, _), (5, _), (6, _), (7, _), (8, _), (9, _), (47, _)] ⟨rfl, rfl, rfl, rfl, rfl, rfl, rfl, rfl, trivial⟩ ?_
       refine nm_thn ?_
       refine ws_condN HomflyTurns_n19 HomflyTurns_n20 rfl rfl rfl rfl (fun hb47 => ?_) (fun hb47 => ?_)
       ·replace hb47 := of_decide_eq_true hb47
        exfalso; omega
       ·replace hb47 := of_decide_eq_false hb47
        refine ws_skip rfl ?_
        refine nm_sub [(1, _), (2, _), (5, _), (6, _), (7, _), (8, _), (9, _)] ⟨rfl, rfl, rfl, rfl, rfl, rfl, rfl, trivial⟩ ?_
        refine nm_thn ?_
        refine ws_seqN HomflyTurns_n21 HomflyTurns_n22 rfl rfl rfl ?_
        refine ws_seqN HomflyTurns_n23 HomflyTurns_n24 rfl rfl rfl ?_
        refine ws_region rfl ?_
        refine wlm 0 1 rfl rfl rfl rfl rfl rfl rfl ?_
        refine wlo 1 2 rfl rfl rfl (wo_run rfl rfl (run_neq rfl rfl rfl) ?_)
        refine wl_end rfl ?_
        refine nm_sub [(1, _), (2, _), (5, _), (6, _), (7, _), (8, _), (9, _), (49, _)] ⟨rfl, rfl, rfl, rfl, rfl, rfl, rfl, rfl, trivial⟩ ?_
        refine nm_thn ?_
        refine ws_condN HomflyTurns_n25 HomflyTurns_n26 rfl rfl rfl rfl (fun hb49 => ?_) (fun hb49 => ?_)
        ·replace hb49 := of_decide_eq_true hb49
         exfalso; omega
        ·replace hb49 := of_decide_eq_false hb49
         refine ws_skip rfl ?_
         refine nm_sub [(1, _), (2, _), (5, _), (6, _), (7, _), (8, _)] ⟨rfl, rfl, rfl, rfl, rfl, rfl, trivial⟩ ?_
         refine nm_thn ?_
         refine ws_seqN HomflyTurns_n29 HomflyTurns_n30 rfl rfl rfl ?_
         refine ws_region rfl ?_
         refine wlo 0 1 rfl rfl rfl (wo_run rfl rfl (run_loadN (us := [_, _]) rfl rfl Try.underlying51 rfl sz51 (S17.boxcs (i := 2) rfl ⟨rfl, rfl, trivial⟩)) ?_)
         refine wlm 1 2 rfl rfl rfl rfl rfl rfl rfl ?_
         refine wlo 2 3 rfl rfl rfl (wo_ct rfl rfl rfl rfl rfl rfl rfl cf42 S17 (SmoothOf_t d kk (hdcrs.mono (Hp.le_un _ _)) ((by omega)) (hn) (hab) (⟨hlo0, hlo1⟩) S17.lend) ?_)
         intro vw18 w18 M9 hle9 S18 hRw18; clear S17
         replace hdcrs := hdcrs.mono hle9
         replace hr1 := hr1.mono hle9
         replace hr2 := hr2.mono hle9
         replace hr5 := hr5.mono hle9
         obtain ⟨A7, c7, rfl, hr7⟩ := hRw18
         refine wlo 3 4 rfl rfl rfl (wo_alloc (l := [_, _]) rfl rfl rfl zr51 rfl S18 ?_)
         intro gb6 w19 S19; clear S18
         refine wlo 4 5 rfl rfl rfl (wo_storeB (i := 0) (us := [_, _]) (l' := [_, _]) (H' := [_, _, _, _]) rfl rfl S19 rfl rfl rfl rfl sz51 rfl rfl rfl rfl ?_)
         intro w20 S20; clear S19
         refine wl_end rfl ?_
         refine nm_sub [(1, _), (2, _), (5, _), (6, _), (7, _), (8, _), (10, _)] ⟨rfl, rfl, rfl, rfl, rfl, rfl, rfl, trivial⟩ ?_
         refine nm_thn ?_
         refine ws_seqN HomflyTurns_n31 HomflyTurns_n32 rfl rfl rfl ?_
         refine ws_seqN HomflyTurns_n33 HomflyTurns_n34 rfl rfl rfl ?_
         refine ws_draw rfl (by kernel_rfl) S20 10 rfl ?_
         clear S20
         refine wa_takeP (i := 0) (d := 73) 9 rfl (by kernel_rfl) (by kernel_rfl) (by kernel_rfl) rfl rfl rfl (fun w21 => run_move rfl rfl) ?_
         refine wa_takeP (i := 1) (d := 74) 8 rfl (by kernel_rfl) (by kernel_rfl) (by kernel_rfl) rfl rfl rfl (fun w22 => run_neq rfl rfl rfl) ?_
         refine wa_takeP (i := 2) (d := 75) 7 rfl (by kernel_rfl) (by kernel_rfl) (by kernel_rfl) rfl rfl rfl (fun w23 => run_move rfl rfl) ?_
         refine wa_split (t := 75) rfl (fun hg75 => ?_) (fun hg75 => ?_)
         ·replace hg75 := of_decide_eq_true hg75
          refine wa_no (i := 3) (d := 76) 6 rfl (by kernel_rfl) (by kernel_rfl) (by kernel_rfl) ⟨_, _, _, rfl, rfl, rfl, rfl⟩ rfl rfl ?_
          refine wa_no (i := 4) (d := 77) 5 rfl (by kernel_rfl) (by kernel_rfl) (by kernel_rfl) ⟨_, _, _, rfl, rfl, rfl, rfl⟩ rfl rfl ?_
          refine wa_no (i := 5) (d := 78) 4 rfl (by kernel_rfl) (by kernel_rfl) (by kernel_rfl) ⟨_, _, _, rfl, rfl, rfl, rfl⟩ rfl rfl ?_
          refine wa_no (i := 6) (d := 79) 3 rfl (by kernel_rfl) (by kernel_rfl) (by kernel_rfl) ⟨_, _, _, rfl, rfl, rfl, rfl⟩ rfl rfl ?_
          refine wa_no (i := 7) (d := 80) 2 rfl (by kernel_rfl) (by kernel_rfl) (by kernel_rfl) ⟨_, _, _, rfl, rfl, rfl, rfl⟩ rfl rfl ?_
          refine wa_no (i := 8) (d := 81) 1 rfl (by kernel_rfl) (by kernel_rfl) (by kernel_rfl) ⟨_, _, _, rfl, rfl, rfl, rfl⟩ rfl rfl ?_
          refine wa_takeP (i := 9) (d := 82) 0 rfl (by kernel_rfl) (by kernel_rfl) (by kernel_rfl) rfl rfl rfl (fun w24 => run_pickT rfl rfl rfl) ?_
          refine wa_end (by kernel_rfl) (fun w25 S25 => ?_)
          refine nm_sub [(7, _), (8, _), (10, _), (82, _)] ⟨rfl, rfl, rfl, rfl, trivial⟩ ?_
          refine nm_thn ?_
          refine ws_condTN HomflyTurns_n35 rfl rfl rfl ?_
          refine ws_seqN HomflyTurns_n37 HomflyTurns_n38 rfl rfl rfl ?_
          refine ws_region rfl ?_
          refine wla 0 1 rfl rfl rfl rfl rfl rfl rfl ?_
          refine wl_end rfl ?_
          refine nm_sub [(4, _)] ⟨rfl, trivial⟩ ?_
          refine nm_thn ?_
          refine ws_ret hC [_] rfl rfl ⟨rfl, trivial⟩ ?_
          refine ⟨_, rfl, _, ((((hle1.trans hle2).trans hle6).trans hle7).trans hle8).trans hle9, (S25.pick [] [] (by decide) trivial), ?_⟩
          show Value.bool _ = _
          refine congrArg Value.bool ?_
          first | rfl | (rw [decide_eq_true_iff]; omega) | (simp_all; done) | (simp_all <;> omega)
         ·replace hg75 := of_decide_eq_false hg75
          refine wa_take (i := 3) (d := 76) 6 rfl (by kernel_rfl) (by kernel_rfl) (by kernel_rfl) ⟨_, _, _, rfl, rfl, rfl, rfl⟩ rfl rfl (fun M14 N5 w26 hle14 S26 => .inl (run_loadN (us := [_, _]) rfl rfl Try.underlying51 rfl sz51 (S26.suf.boxcs (i := 2) rfl ⟨rfl, rfl, trivial⟩))) ?_
          refine wa_take (i := 4) (d := 77) 5 rfl (by kernel_rfl) (by kernel_rfl) (by kernel_rfl) ⟨_, _, _, rfl, rfl, rfl, rfl⟩ rfl rfl (fun M15 N6 w27 hle15 S27 => .inl (run_loadN (us := [_, _]) rfl rfl Try.underlying51 rfl sz51 (S27.suf.boxcs (i := 3) rfl ⟨rfl, rfl, trivial⟩))) ?_
          refine wa_takeP (i := 5) (d := 78) 4 rfl (by kernel_rfl) (by kernel_rfl) (by kernel_rfl) ⟨_, _, _, rfl, rfl, rfl, rfl⟩ rfl rfl (fun w28 => run_move rfl rfl) ?_
          refine wa_only (i := 6) 3 rfl (by kernel_rfl) ⟨_, _, _, rfl, rfl, rfl, rfl⟩ rfl (fun w30 S30 => ?_)
          refine (wo_ct rfl rfl rfl rfl rfl rfl rfl cf44 S30 (ChangeOf_t d kk (hdcrs.mono (Hp.le_un _ _)) ((by omega)) S30.lend) ?_)
          intro vw31 w31 M18 hle18 S31 hRw31; clear S30
          replace hdcrs := hdcrs.mono hle18
          replace hr1 := hr1.mono hle18
          replace hr2 := hr2.mono hle18
          replace hr5 := hr5.mono hle18
          replace hr7 := hr7.mono hle18
          obtain ⟨A8, c8, rfl, hr8⟩ := hRw31
          refine LeftW.grow [] (hle18) S31 ?_; clear S31
          change WA _ _ _ _ _ _ _ _ _ _ _ _ [_, _, _, _]
          refine wa_base ?_
          refine wa_take (i := 7) (d := 80) 2 rfl (by kernel_rfl) (by kernel_rfl) (by kernel_rfl) ⟨_, _, _, rfl, rfl, rfl, rfl⟩ rfl rfl (fun M19 N9 w32 hle19 S32 => yield_cq rfl rfl rfl rfl rfl cf43 S32 (SameDiagram_q (chD d kk) ((hr2.mono hle19).mono (Hp.le_un _ _)) ((hr8.mono hle19).mono (Hp.le_un _ _)) S32.lend)) ?_
          refine wa_takeP (i := 8) (d := 81) 1 rfl (by kernel_rfl) (by kernel_rfl) (by kernel_rfl) ⟨_, _, _, rfl, rfl, rfl, rfl⟩ rfl rfl (fun w33 => run_not rfl rfl) ?_
          refine wa_takeP (i := 9) (d := 82) 0 rfl (by kernel_rfl) (by kernel_rfl) (by kernel_rfl) rfl rfl rfl (fun w34 => run_pickF rfl rfl rfl) ?_
          refine wa_end (by kernel_rfl) (fun w35 S35 => ?_)
          refine nm_sub [(7, _), (8, _), (10, _), (82, _)] ⟨rfl, rfl, rfl, rfl, trivial⟩ ?_
          refine nm_thn ?_
          refine ws_condFN HomflyTurns_n36 rfl rfl rfl ?_
          refine ws_skip rfl ?_
          refine nm_sub [(7, _), (8, _), (10, _)] ⟨rfl, rfl, rfl, trivial⟩ ?_
          refine nm_thn ?_
          refine ws_seqN HomflyTurns_n39 HomflyTurns_n40 rfl rfl rfl ?_
          refine ws_seqN HomflyTurns_n41 HomflyTurns_n42 rfl rfl rfl ?_
          replace hS : (errH d (kk : Int) ≠ 0 ∧ errS d (kk : Int) = errH d (kk : Int)) ∨ (errH d (kk : Int) = 0 ∧ 16 < (smD d kk).loops ∧ errS d (kk : Int) = 2) ∨ (errH d (kk : Int) = 0 ∧ (smD d kk).loops ≤ 16 ∧ errS d (kk : Int) = 0) := hS
          refine ws_region rfl ?_
          refine wlo 0 1 rfl rfl rfl (wo_run rfl rfl (run_fieldAddr rfl rfl Try.underlying51 rfl (ce3) (nf3)) ?_)
          refine wlo 1 2 rfl rfl rfl (wo_run rfl rfl (run_load1 rfl rfl Try.underlying3 rfl (S35.boxc (i := 0) rfl rfl)) ?_)
          refine wlo 2 3 rfl rfl rfl (wo_run rfl rfl (run_gtr rfl rfl rfl) ?_)
          refine wl_end rfl ?_
          refine nm_sub [(7, _), (8, _), (10, _), (85, _)] ⟨rfl, rfl, rfl, rfl, trivial⟩ ?_
          refine nm_thn ?_
          refine ws_condN HomflyTurns_n43 HomflyTurns_n44 rfl rfl rfl rfl (fun hb85 => ?_) (fun hb85 => ?_)
          ·replace hb85 := of_decide_eq_true hb85
           refine ws_seqN HomflyTurns_n45 HomflyTurns_n46 rfl rfl rfl ?_
           refine ws_region rfl ?_
           refine wlm 0 1 rfl rfl rfl rfl rfl rfl rfl ?_
           refine wlo 1 2 rfl rfl rfl (wo_run rfl rfl (run_eql rfl rfl rfl) ?_)
           refine wlm 2 3 rfl rfl rfl rfl rfl rfl rfl ?_
           refine wl_split (t := 88) rfl (fun hg88 => ?_) (fun hg88 => ?_)
           ·replace hg88 := of_decide_eq_true hg88
            refine wl_opG (k := 3) (k' := 4) rfl rfl ⟨_, _, _, rfl, rfl, rfl, rfl⟩ rfl (wo_run rfl rfl (run_fieldAddr rfl rfl Try.underlying51 rfl (ce49) (nf49)) ?_)
            refine wl_opG (k := 4) (k' := 5) rfl rfl ⟨_, _, _, rfl, rfl, rfl, rfl⟩ rfl (wo_run rfl rfl (run_load1 rfl rfl Try.underlying49 rfl (S35.boxc (i := 1) rfl rfl)) ?_)
            refine wl_opG (k := 5) (k' := 6) rfl rfl ⟨_, _, _, rfl, rfl, rfl, rfl⟩ rfl (wo_run rfl rfl (run_len rfl rfl rfl rfl rfl rfl Try.underlying49) ?_)
            refine wl_opG (k := 6) (k' := 7) rfl rfl ⟨_, _, _, rfl, rfl, rfl, rfl⟩ rfl (wo_run rfl rfl (run_eql rfl rfl rfl) ?_)
            refine wlo 7 8 rfl rfl rfl (wo_run rfl rfl (run_pickT rfl rfl rfl) ?_)
            refine wlm 8 9 rfl rfl rfl rfl rfl rfl rfl ?_
            refine wl_split (t := 94) rfl (fun hg94 => ?_) (fun hg94 => ?_)
            ·replace hg94 := of_decide_eq_true hg94
             refine wl_opG (k := 9) (k' := 10) rfl rfl ⟨_, _, _, rfl, rfl, rfl, rfl⟩ rfl (wo_run rfl rfl (run_fieldAddr rfl rfl Try.underlying51 rfl (ce3) (nf3)) ?_)
             refine wl_opG (k := 10) (k' := 11) rfl rfl ⟨_, _, _, rfl, rfl, rfl, rfl⟩ rfl (wo_run rfl rfl (run_load1 rfl rfl Try.underlying3 rfl (S35.boxc (i := 1) rfl rfl)) ?_)
             refine wl_opG (k := 11) (k' := 12) rfl rfl ⟨_, _, _, rfl, rfl, rfl, rfl⟩ rfl (wo_run rfl rfl (run_eql rfl rfl rfl) ?_)
             refine wlo 12 13 rfl rfl rfl (wo_run rfl rfl (run_pickT rfl rfl rfl) ?_)
             refine wla 13 14 rfl rfl rfl rfl rfl rfl rfl ?_
             refine wl_end rfl ?_
             refine nm_sub [(4, _)] ⟨rfl, trivial⟩ ?_
             refine nm_thn ?_
             refine ws_ret hC [_] rfl rfl ⟨rfl, trivial⟩ ?_
             refine ⟨_, rfl, _, (((((hle1.trans hle2).trans hle6).trans hle7).trans hle8).trans hle9).trans hle18, (S35.pick [] [] (by decide) trivial), ?_⟩
             show Value.bool _ = _
             refine congrArg Value.bool ?_
             first | rfl | (rw [decide_eq_true_iff]; omega) | (simp_all; done) | (simp_all <;> omega)
            ·replace hg94 := of_decide_eq_false hg94
             refine wl_no (k := 9) (k' := 10) (d := 95) rfl rfl ⟨_, _, _, rfl, rfl, rfl, rfl⟩ rfl rfl ?_
             refine wl_no (k := 10) (k' := 11) (d := 96) rfl rfl ⟨_, _, _, rfl, rfl, rfl, rfl⟩ rfl rfl ?_
             refine wl_no (k := 11) (k' := 12) (d := 97) rfl rfl ⟨_, _, _, rfl, rfl, rfl, rfl⟩ rfl rfl ?_
             refine wlo 12 13 rfl rfl rfl (wo_run rfl rfl (run_pickF rfl rfl rfl) ?_)
             refine wla 13 14 rfl rfl rfl rfl rfl rfl rfl ?_
             refine wl_end rfl ?_
             refine nm_sub [(4, _)] ⟨rfl, trivial⟩ ?_
             refine nm_thn ?_
             refine ws_ret hC [_] rfl rfl ⟨rfl, trivial⟩ ?_
             refine ⟨_, rfl, _, (((((hle1.trans hle2).trans hle6).trans hle7).trans hle8).trans hle9).trans hle18, (S35.pick [] [] (by decide) trivial), ?_⟩
             show Value.bool _ = _
             refine congrArg Value.bool ?_
             first | rfl | (rw [decide_eq_true_iff]; omega) | (simp_all; done) | (simp_all <;> omega)
           ·replace hg88 := of_decide_eq_false hg88
            refine wl_no (k := 3) (k' := 4) (d := 89) rfl rfl ⟨_, _, _, rfl, rfl, rfl, rfl⟩ rfl rfl ?_
            refine wl_no (k := 4) (k' := 5) (d := 90) rfl rfl ⟨_, _, _, rfl, rfl, rfl, rfl⟩ rfl rfl ?_
            refine wl_no (k := 5) (k' := 6) (d := 91) rfl rfl ⟨_, _, _, rfl, rfl, rfl, rfl⟩ rfl rfl ?_
            refine wl_no (k := 6) (k' := 7) (d := 92) rfl rfl ⟨_, _, _, rfl, rfl, rfl, rfl⟩ rfl rfl ?_
            refine wlo 7 8 rfl rfl rfl (wo_run rfl rfl (run_pickF rfl rfl rfl) ?_)
            refine wlm 8 9 rfl rfl rfl rfl rfl rfl rfl ?_
            refine wl_no (k := 9) (k' := 10) (d := 95) rfl rfl ⟨_, _, _, rfl, rfl, rfl, rfl⟩ rfl rfl ?_
            refine wl_no (k := 10) (k' := 11) (d := 96) rfl rfl ⟨_, _, _, rfl, rfl, rfl, rfl⟩ rfl rfl ?_
            refine wl_no (k := 11) (k' := 12) (d := 97) rfl rfl ⟨_, _, _, rfl, rfl, rfl, rfl⟩ rfl rfl ?_
            refine wlo 12 13 rfl rfl rfl (wo_run rfl rfl (run_pickF rfl rfl rfl) ?_)
            refine wla 13 14 rfl rfl rfl rfl rfl rfl rfl ?_
            refine wl_end rfl ?_
            refine nm_sub [(4, _)] ⟨rfl, trivial⟩ ?_
            refine nm_thn ?_
            refine ws_ret hC [_] rfl rfl ⟨rfl, trivial⟩ ?_
            refine ⟨_, rfl, _, (((((hle1.trans hle2).trans hle6).trans hle7).trans hle8).trans hle9).trans hle18, (S35.pick [] [] (by decide) trivial), ?_⟩
            show Value.bool _ = _
            refine congrArg Value.bool ?_
            first | rfl | (rw [decide_eq_true_iff]; omega) | (simp_all; done) | (simp_all <;> omega)
          ·replace hb85 := of_decide_eq_false hb85
           exfalso; omega
      ·replace hg42 := of_decide_eq_false hg42
       exfalso; omega
   ·replace hg29 := of_decide_eq_false hg29
    exfalso; omega
  ·have hS := errS_cases d (kk : Int)
   refine wlm 4 5 rfl rfl rfl rfl rfl rfl rfl ?_
   refine wlo 5 6 rfl rfl rfl (wo_run rfl rfl (run_extract rfl rfl rfl) ?_)
   refine wlo 6 7 rfl rfl rfl (wo_run rfl rfl (run_extract rfl rfl rfl) ?_)
   refine wlo 7 8 rfl rfl rfl (wo_alloc (l := [_, _]) rfl rfl rfl zr51 rfl S14 ?_)
   intro gb7 w36 S36; clear S14
   refine wlo 8 9 rfl rfl rfl (wo_storeB (i := 0) (us := [_, _]) (l' := [_, _]) (H' := [_, _, _]) rfl rfl S36 rfl rfl rfl rfl sz51 rfl rfl rfl rfl ?_)
   intro w37 S37; clear S36
   refine wla 9 10 rfl rfl rfl rfl rfl rfl rfl ?_
   refine wl_end rfl ?_
   refine nm_sub [(1, _), (2, _), (5, _), (6, _), (7, _), (8, _)] ⟨rfl, rfl, rfl, rfl, rfl, rfl, trivial⟩ ?_
   refine nm_thn ?_
   refine ws_seqN HomflyTurns_n7 HomflyTurns_n8 rfl rfl rfl ?_
   refine ws_region rfl ?_
   refine wlo 0 1 rfl rfl rfl (wo_run rfl rfl (run_loadN (us := [_, _]) rfl rfl Try.underlying51 rfl sz51 (S37.boxcs (i := 2) rfl ⟨rfl, rfl, trivial⟩)) ?_)
   refine wlo 1 2 rfl rfl rfl (wo_ct rfl rfl rfl rfl rfl rfl rfl cf41 S37 (PlanarMay_t d (hdcrs.mono (Hp.le_un _ _)) S37.lend) ?_)
   intro vw38 w38 M22 hle22 S38 hRw38; clear S37
   replace hdcrs := hdcrs.mono hle22
   replace hr1 := hr1.mono hle22
   replace hr2 := hr2.mono hle22
   replace hr5 := hr5.mono hle22
   replace hr6 := hr6.mono hle22
   obtain rfl := hRw38
   refine wla 2 3 rfl rfl rfl rfl rfl rfl rfl ?_
   refine wl_end rfl ?_
   refine nm_sub [(1, _), (2, _), (5, _), (6, _), (7, _), (8, _), (9, _)] ⟨rfl, rfl, rfl, rfl, rfl, rfl, rfl, trivial⟩ ?_
   refine nm_thn ?_
   refine ws_seqN HomflyTurns_n9 HomflyTurns_n10 rfl rfl rfl ?_
   refine ws_seqN HomflyTurns_n11 HomflyTurns_n12 rfl rfl rfl ?_
   have hE := errH_cases d (kk : Int)
   refine ws_region rfl ?_
   refine wlm 0 1 rfl rfl rfl rfl rfl rfl rfl ?_
   refine wlo 1 2 rfl rfl rfl (wo_run rfl rfl (run_eql rfl rfl rfl) ?_)
   refine wlm 2 3 rfl rfl rfl rfl rfl rfl rfl ?_
   refine wl_split (t := 29) rfl (fun hg29 => ?_) (fun hg29 => ?_)
   ·replace hg29 := of_decide_eq_true hg29
    refine wl_opG (k := 3) (k' := 4) rfl rfl ⟨_, _, _, rfl, rfl, rfl, rfl⟩ rfl (wo_run rfl rfl (run_move rfl rfl) ?_)
    refine wl_opG (k := 4) (k' := 5) rfl rfl ⟨_, _, _, rfl, rfl, rfl, rfl⟩ rfl (wo_run rfl rfl (run_lss rfl rfl rfl) ?_)
    refine wl_opG (k := 5) (k' := 6) rfl rfl ⟨_, _, _, rfl, rfl, rfl, rfl⟩ rfl (wo_run rfl rfl (run_move rfl rfl) ?_)
    refine wl_split (t := 32) rfl (fun hg32 => ?_) (fun hg32 => ?_)
    ·replace hg32 := of_decide_eq_true hg32
     exfalso; omega
    ·replace hg32 := of_decide_eq_false hg32
     refine wl_opG (k := 6) (k' := 7) rfl rfl ⟨_, _, _, rfl, rfl, rfl, rfl⟩ rfl (wo_run rfl rfl (run_move rfl rfl) ?_)
     refine wl_opG (k := 7) (k' := 8) rfl rfl ⟨_, _, _, rfl, rfl, rfl, rfl⟩ rfl (wo_run rfl rfl (run_fieldAddr rfl rfl Try.underlying51 rfl (ce49) (nf49)) ?_)
     refine wl_opG (k := 8) (k' := 9) rfl rfl ⟨_, _, _, rfl, rfl, rfl, rfl⟩ rfl (wo_run rfl rfl (run_load1 rfl rfl Try.underlying49 rfl (S38.boxc (i := 2) rfl rfl)) ?_)
     refine wl_opG (k := 9) (k' := 10) rfl rfl ⟨_, _, _, rfl, rfl, rfl, rfl⟩ rfl (wo_run rfl rfl (run_len rfl rfl rfl rfl rfl rfl Try.underlying49) ?_)
     refine wl_opG (k := 10) (k' := 11) rfl rfl ⟨_, _, _, rfl, rfl, rfl, rfl⟩ rfl (wo_run rfl rfl (run_geq rfl rfl rfl) ?_)
     refine wl_opG (k := 11) (k' := 12) rfl rfl ⟨_, _, _, rfl, rfl, rfl, rfl⟩ rfl (wo_run rfl rfl (run_pickF rfl rfl rfl) ?_)
     refine wlo 12 13 rfl rfl rfl (wo_run rfl rfl (run_pickT rfl rfl rfl) ?_)
     refine wl_end rfl ?_
     refine nm_sub [(1, _), (2, _), (5, _), (6, _), (7, _), (8, _), (9, _), (39, _)] ⟨rfl, rfl, rfl, rfl, rfl, rfl, rfl, rfl, trivial⟩ ?_
     refine nm_thn ?_
     refine ws_condN HomflyTurns_n13 HomflyTurns_n14 rfl rfl rfl rfl (fun hb39 => ?_) (fun hb39 => ?_)
     ·replace hb39 := of_decide_eq_true hb39
      exfalso; omega
     ·replace hb39 := of_decide_eq_false hb39
      refine ws_skip rfl ?_
      refine nm_sub [(1, _), (2, _), (5, _), (6, _), (7, _), (8, _), (9, _)] ⟨rfl, rfl, rfl, rfl, rfl, rfl, rfl, trivial⟩ ?_
      refine nm_thn ?_
      refine ws_seqN HomflyTurns_n15 HomflyTurns_n16 rfl rfl rfl ?_
      refine ws_seqN HomflyTurns_n17 HomflyTurns_n18 rfl rfl rfl ?_
      refine ws_region rfl ?_
      refine wlm 0 1 rfl rfl rfl rfl rfl rfl rfl ?_
      refine wlo 1 2 rfl rfl rfl (wo_run rfl rfl (run_eql rfl rfl rfl) ?_)
      refine wlm 2 3 rfl rfl rfl rfl rfl rfl rfl ?_
      refine wl_split (t := 42) rfl (fun hg42 => ?_) (fun hg42 => ?_)
      ·replace hg42 := of_decide_eq_true hg42
       refine wl_opG (k := 3) (k' := 4) rfl rfl ⟨_, _, _, rfl, rfl, rfl, rfl⟩ rfl (wo_run rfl rfl (run_fieldAddr rfl rfl Try.underlying51 rfl (ce49) (nf49)) ?_)
       refine wl_opG (k := 4) (k' := 5) rfl rfl ⟨_, _, _, rfl, rfl, rfl, rfl⟩ rfl (wo_run rfl rfl (run_load1 rfl rfl Try.underlying49 rfl (S38.boxc (i := 2) rfl rfl)) ?_)
       refine wl_opG (k := 5) (k' := 6) rfl rfl ⟨_, _, _, rfl, rfl, rfl, rfl⟩ rfl (wo_run rfl rfl (run_len rfl rfl rfl rfl rfl rfl Try.underlying49) ?_)
       refine wl_opG (k := 6) (k' := 7) rfl rfl ⟨_, _, _, rfl, rfl, rfl, rfl⟩ rfl (wo_run rfl rfl (run_gtr rfl rfl rfl) ?_)
       refine wlo 7 8 rfl rfl rfl (wo_run rfl rfl (run_pickT rfl rfl rfl) ?_)
       refine wl_end rfl ?_
       refine nm_sub [(1, _), (2, _), (5, _), (6, _), (7, _), (8, _), (9, _), (47, _)] ⟨rfl, rfl, rfl, rfl, rfl, rfl, rfl, rfl, trivial⟩ ?_
       refine nm_thn ?_
       refine ws_condN HomflyTurns_n19 HomflyTurns_n20 rfl rfl rfl rfl (fun hb47 => ?_) (fun hb47 => ?_)
       ·replace hb47 := of_decide_eq_true hb47
        exfalso; omega
       ·replace hb47 := of_decide_eq_false hb47
        refine ws_skip rfl ?_
        refine nm_sub [(1, _), (2, _), (5, _), (6, _), (7, _), (8, _), (9, _)] ⟨rfl, rfl, rfl, rfl, rfl, rfl, rfl, trivial⟩ ?_
        refine nm_thn ?_
        refine ws_seqN HomflyTurns_n21 HomflyTurns_n22 rfl rfl rfl ?_
        refine ws_seqN HomflyTurns_n23 HomflyTurns_n24 rfl rfl rfl ?_
        refine ws_region rfl ?_
        refine wlm 0 1 rfl rfl rfl rfl rfl rfl rfl ?_
        refine wlo 1 2 rfl rfl rfl (wo_run rfl rfl (run_neq rfl rfl rfl) ?_)
        refine wl_end rfl ?_
        refine nm_sub [(1, _), (2, _), (5, _), (6, _), (7, _), (8, _), (9, _), (49, _)] ⟨rfl, rfl, rfl, rfl, rfl, rfl, rfl, rfl, trivial⟩ ?_
        refine nm_thn ?_
        refine ws_condN HomflyTurns_n25 HomflyTurns_n26 rfl rfl rfl rfl (fun hb49 => ?_) (fun hb49 => ?_)
        ·replace hb49 := of_decide_eq_true hb49
         exfalso; omega
        ·replace hb49 := of_decide_eq_false hb49
         refine ws_skip rfl ?_
         refine nm_sub [(1, _), (2, _), (5, _), (6, _), (7, _), (8, _)] ⟨rfl, rfl, rfl, rfl, rfl, rfl, trivial⟩ ?_
         refine nm_thn ?_
         refine ws_seqN HomflyTurns_n29 HomflyTurns_n30 rfl rfl rfl ?_
         refine ws_region rfl ?_
         refine wlo 0 1 rfl rfl rfl (wo_run rfl rfl (run_loadN (us := [_, _]) rfl rfl Try.underlying51 rfl sz51 (S38.boxcs (i := 2) rfl ⟨rfl, rfl, trivial⟩)) ?_)
         refine wlm 1 2 rfl rfl rfl rfl rfl rfl rfl ?_
         refine wlo 2 3 rfl rfl rfl (wo_ct rfl rfl rfl rfl rfl rfl rfl cf42 S38 (SmoothOf_t d kk (hdcrs.mono (Hp.le_un _ _)) ((by omega)) (hn) (hab) (⟨hlo0, hlo1⟩) S38.lend) ?_)
         intro vw39 w39 M23 hle23 S39 hRw39; clear S38
         replace hdcrs := hdcrs.mono hle23
         replace hr1 := hr1.mono hle23
         replace hr2 := hr2.mono hle23
         replace hr5 := hr5.mono hle23
         replace hr6 := hr6.mono hle23
         obtain ⟨A9, c9, rfl, hr9⟩ := hRw39
         refine wlo 3 4 rfl rfl rfl (wo_alloc (l := [_, _]) rfl rfl rfl zr51 rfl S39 ?_)
         intro gb8 w40 S40; clear S39
         refine wlo 4 5 rfl rfl rfl (wo_storeB (i := 0) (us := [_, _]) (l' := [_, _]) (H' := [_, _, _, _]) rfl rfl S40 rfl rfl rfl rfl sz51 rfl rfl rfl rfl ?_)
         intro w41 S41; clear S40
         refine wl_end rfl ?_
         refine nm_sub [(1, _), (2, _), (5, _), (6, _), (7, _), (8, _), (10, _)] ⟨rfl, rfl, rfl, rfl, rfl, rfl, rfl, trivial⟩ ?_
         refine nm_thn ?_
         refine ws_seqN HomflyTurns_n31 HomflyTurns_n32 rfl rfl rfl ?_
         refine ws_seqN HomflyTurns_n33 HomflyTurns_n34 rfl rfl rfl ?_
         refine ws_draw rfl (by kernel_rfl) S41 10 rfl ?_
         clear S41
         refine wa_takeP (i := 0) (d := 73) 9 rfl (by kernel_rfl) (by kernel_rfl) (by kernel_rfl) rfl rfl rfl (fun w42 => run_move rfl rfl) ?_
         refine wa_takeP (i := 1) (d := 74) 8 rfl (by kernel_rfl) (by kernel_rfl) (by kernel_rfl) rfl rfl rfl (fun w43 => run_neq rfl rfl rfl) ?_
         refine wa_takeP (i := 2) (d := 75) 7 rfl (by kernel_rfl) (by kernel_rfl) (by kernel_rfl) rfl rfl rfl (fun w44 => run_move rfl rfl) ?_
         refine wa_split (t := 75) rfl (fun hg75 => ?_) (fun hg75 => ?_)
         ·replace hg75 := of_decide_eq_true hg75
          refine wa_no (i := 3) (d := 76) 6 rfl (by kernel_rfl) (by kernel_rfl) (by kernel_rfl) ⟨_, _, _, rfl, rfl, rfl, rfl⟩ rfl rfl ?_
          refine wa_no (i := 4) (d := 77) 5 rfl (by kernel_rfl) (by kernel_rfl) (by kernel_rfl) ⟨_, _, _, rfl, rfl, rfl, rfl⟩ rfl rfl ?_
          refine wa_no (i := 5) (d := 78) 4 rfl (by kernel_rfl) (by kernel_rfl) (by kernel_rfl) ⟨_, _, _, rfl, rfl, rfl, rfl⟩ rfl rfl ?_
          refine wa_no (i := 6) (d := 79) 3 rfl (by kernel_rfl) (by kernel_rfl) (by kernel_rfl) ⟨_, _, _, rfl, rfl, rfl, rfl⟩ rfl rfl ?_
          refine wa_no (i := 7) (d := 80) 2 rfl (by kernel_rfl) (by kernel_rfl) (by kernel_rfl) ⟨_, _, _, rfl, rfl, rfl, rfl⟩ rfl rfl ?_
          refine wa_no (i := 8) (d := 81) 1 rfl (by kernel_rfl) (by kernel_rfl) (by kernel_rfl) ⟨_, _, _, rfl, rfl, rfl, rfl⟩ rfl rfl ?_
          refine wa_takeP (i := 9) (d := 82) 0 rfl (by kernel_rfl) (by kernel_rfl) (by kernel_rfl) rfl rfl rfl (fun w45 => run_pickT rfl rfl rfl) ?_
          refine wa_end (by kernel_rfl) (fun w46 S46 => ?_)
          refine nm_sub [(7, _), (8, _), (10, _), (82, _)] ⟨rfl, rfl, rfl, rfl, trivial⟩ ?_
          refine nm_thn ?_
          refine ws_condTN HomflyTurns_n35 rfl rfl rfl ?_
          refine ws_seqN HomflyTurns_n37 HomflyTurns_n38 rfl rfl rfl ?_
          refine ws_region rfl ?_
          refine wla 0 1 rfl rfl rfl rfl rfl rfl rfl ?_
          refine wl_end rfl ?_
          refine nm_sub [(4, _)] ⟨rfl, trivial⟩ ?_
          refine nm_thn ?_
          refine ws_ret hC [_] rfl rfl ⟨rfl, trivial⟩ ?_
          refine ⟨_, rfl, _, ((((hle1.trans hle2).trans hle6).trans hle7).trans hle22).trans hle23, (S46.pick [] [] (by decide) trivial), ?_⟩
          show Value.bool _ = _
          refine congrArg Value.bool ?_
          first | rfl | (rw [decide_eq_true_iff]; omega) | (simp_all; done) | (simp_all <;> omega)
         ·replace hg75 := of_decide_eq_false hg75
          refine wa_take (i := 3) (d := 76) 6 rfl (by kernel_rfl) (by kernel_rfl) (by kernel_rfl) ⟨_, _, _, rfl, rfl, rfl, rfl⟩ rfl rfl (fun M28 N16 w47 hle28 S47 => .inl (run_loadN (us := [_, _]) rfl rfl Try.underlying51 rfl sz51 (S47.suf.boxcs (i := 2) rfl ⟨rfl, rfl, trivial⟩))) ?_
          refine wa_take (i := 4) (d := 77) 5 rfl (by kernel_rfl) (by kernel_rfl) (by kernel_rfl) ⟨_, _, _, rfl, rfl, rfl, rfl⟩ rfl rfl (fun M29 N17 w48 hle29 S48 => .inl (run_loadN (us := [_, _]) rfl rfl Try.underlying51 rfl sz51 (S48.suf.boxcs (i := 3) rfl ⟨rfl, rfl, trivial⟩))) ?_
          refine wa_takeP (i := 5) (d := 78) 4 rfl (by kernel_rfl) (by kernel_rfl) (by kernel_rfl) ⟨_, _, _, rfl, rfl, rfl, rfl⟩ rfl rfl (fun w49 => run_move rfl rfl) ?_
          refine wa_only (i := 6) 3 rfl (by kernel_rfl) ⟨_, _, _, rfl, rfl, rfl, rfl⟩ rfl (fun w51 S51 => ?_)
          refine (wo_ct rfl rfl rfl rfl rfl rfl rfl cf44 S51 (ChangeOf_t d kk (hdcrs.mono (Hp.le_un _ _)) ((by omega)) S51.lend) ?_)
          intro vw52 w52 M32 hle32 S52 hRw52; clear S51
          replace hdcrs := hdcrs.mono hle32
          replace hr1 := hr1.mono hle32
          replace hr2 := hr2.mono hle32
          replace hr5 := hr5.mono hle32
          replace hr6 := hr6.mono hle32
          replace hr9 := hr9.mono hle32
          obtain ⟨A10, c10, rfl, hr10⟩ := hRw52
          refine LeftW.grow [] (hle32) S52 ?_; clear S52
          change WA _ _ _ _ _ _ _ _ _ _ _ _ [_, _, _, _]
          refine wa_base ?_
          refine wa_take (i := 7) (d := 80) 2 rfl (by kernel_rfl) (by kernel_rfl) (by kernel_rfl) ⟨_, _, _, rfl, rfl, rfl, rfl⟩ rfl rfl (fun M33 N20 w53 hle33 S53 => yield_cq rfl rfl rfl rfl rfl cf43 S53 (SameDiagram_q (chD d kk) ((hr2.mono hle33).mono (Hp.le_un _ _)) ((hr10.mono hle33).mono (Hp.le_un _ _)) S53.lend)) ?_
          refine wa_takeP (i := 8) (d := 81) 1 rfl (by kernel_rfl) (by kernel_rfl) (by kernel_rfl) ⟨_, _, _, rfl, rfl, rfl, rfl⟩ rfl rfl (fun w54 => run_not rfl rfl) ?_
          refine wa_takeP (i := 9) (d := 82) 0 rfl (by kernel_rfl) (by kernel_rfl) (by kernel_rfl) rfl rfl rfl (fun w55 => run_pickF rfl rfl rfl) ?_
          refine wa_end (by kernel_rfl) (fun w56 S56 => ?_)
          refine nm_sub [(7, _), (8, _), (10, _), (82, _)] ⟨rfl, rfl, rfl, rfl, trivial⟩ ?_
          refine nm_thn ?_
          refine ws_condFN HomflyTurns_n36 rfl rfl rfl ?_
          refine ws_skip rfl ?_
          refine nm_sub [(7, _), (8, _), (10, _)] ⟨rfl, rfl, rfl, trivial⟩ ?_
          refine nm_thn ?_
          refine ws_seqN HomflyTurns_n39 HomflyTurns_n40 rfl rfl rfl ?_
          refine ws_seqN HomflyTurns_n41 HomflyTurns_n42 rfl rfl rfl ?_
          replace hS : (errH d (kk : Int) ≠ 0 ∧ errS d (kk : Int) = errH d (kk : Int)) ∨ (errH d (kk : Int) = 0 ∧ 16 < (smD d kk).loops ∧ errS d (kk : Int) = 2) ∨ (errH d (kk : Int) = 0 ∧ (smD d kk).loops ≤ 16 ∧ errS d (kk : Int) = 0) := hS
          refine ws_region rfl ?_
          refine wlo 0 1 rfl rfl rfl (wo_run rfl rfl (run_fieldAddr rfl rfl Try.underlying51 rfl (ce3) (nf3)) ?_)
          refine wlo 1 2 rfl rfl rfl (wo_run rfl rfl (run_load1 rfl rfl Try.underlying3 rfl (S56.boxc (i := 0) rfl rfl)) ?_)
          refine wlo 2 3 rfl rfl rfl (wo_run rfl rfl (run_gtr rfl rfl rfl) ?_)
          refine wl_end rfl ?_
          refine nm_sub [(7, _), (8, _), (10, _), (85, _)] ⟨rfl, rfl, rfl, rfl, trivial⟩ ?_
          refine nm_thn ?_
          refine ws_condN HomflyTurns_n43 HomflyTurns_n44 rfl rfl rfl rfl (fun hb85 => ?_) (fun hb85 => ?_)
          ·replace hb85 := of_decide_eq_true hb85
           exfalso; omega
          ·replace hb85 := of_decide_eq_false hb85
           refine ws_skip rfl ?_
           refine nm_sub [(7, _), (8, _), (10, _)] ⟨rfl, rfl, rfl, trivial⟩ ?_
           refine nm_thn ?_
           refine ws_seqN HomflyTurns_n47 HomflyTurns_n48 rfl rfl rfl ?_
           refine ws_region rfl ?_
           refine wlm 0 1 rfl rfl rfl rfl rfl rfl rfl ?_
           refine wlo 1 2 rfl rfl rfl (wo_run rfl rfl (run_eql rfl rfl rfl) ?_)
           refine wlm 2 3 rfl rfl rfl rfl rfl rfl rfl ?_
           refine wl_split (t := 101) rfl (fun hg101 => ?_) (fun hg101 => ?_)
           ·replace hg101 := of_decide_eq_true hg101
            refine wl_opG (k := 3) (k' := 4) rfl rfl ⟨_, _, _, rfl, rfl, rfl, rfl⟩ rfl (wo_run rfl rfl (run_loadN (us := [_, _]) rfl rfl Try.underlying51 rfl sz51 (S56.boxcs (i := 1) rfl ⟨rfl, rfl, trivial⟩)) ?_)
            refine wl_opG (k := 4) (k' := 5) rfl rfl ⟨_, _, _, rfl, rfl, rfl, rfl⟩ rfl (wo_run rfl rfl (run_loadN (us := [_, _]) rfl rfl Try.underlying51 rfl sz51 (S56.boxcs (i := 0) rfl ⟨rfl, rfl, trivial⟩)) ?_)
            refine wl_opG (k := 5) (k' := 6) rfl rfl ⟨_, _, _, rfl, rfl, rfl, rfl⟩ rfl (wo_cq rfl rfl rfl rfl rfl rfl rfl cf43 S56 (SameDiagram_q (smD d kk) (hr6.mono (Hp.le_un _ _)) (hr9.mono (Hp.le_un _ _)) S56.lend) ?_)
            rintro _ w57 S57 rfl; clear S56
            refine wlo 6 7 rfl rfl rfl (wo_run rfl rfl (run_pickT rfl rfl rfl) ?_)
            refine wla 7 8 rfl rfl rfl rfl rfl rfl rfl ?_
            refine wl_end rfl ?_
            refine nm_sub [(4, _)] ⟨rfl, trivial⟩ ?_
            refine nm_thn ?_
            refine ws_ret hC [_] rfl rfl ⟨rfl, trivial⟩ ?_
            refine ⟨_, rfl, _, (((((hle1.trans hle2).trans hle6).trans hle7).trans hle22).trans hle23).trans hle32, (S57.pick [] [] (by decide) trivial), ?_⟩
            show Value.bool _ = _
            refine congrArg Value.bool ?_
            first | rfl | (rw [decide_eq_true_iff]; omega) | (simp_all; done) | (simp_all <;> omega)
           ·replace hg101 := of_decide_eq_false hg101
            refine wl_no (k := 3) (k' := 4) (d := 102) rfl rfl ⟨_, _, _, rfl, rfl, rfl, rfl⟩ rfl rfl ?_
            refine wl_no (k := 4) (k' := 5) (d := 103) rfl rfl ⟨_, _, _, rfl, rfl, rfl, rfl⟩ rfl rfl ?_
            refine wl_no (k := 5) (k' := 6) (d := 104) rfl rfl ⟨_, _, _, rfl, rfl, rfl, rfl⟩ rfl rfl ?_
            refine wlo 6 7 rfl rfl rfl (wo_run rfl rfl (run_pickF rfl rfl rfl) ?_)
            refine wla 7 8 rfl rfl rfl rfl rfl rfl rfl ?_
            refine wl_end rfl ?_
            refine nm_sub [(4, _)] ⟨rfl, trivial⟩ ?_
            refine nm_thn ?_
            refine ws_ret hC [_] rfl rfl ⟨rfl, trivial⟩ ?_
            refine ⟨_, rfl, _, (((((hle1.trans hle2).trans hle6).trans hle7).trans hle22).trans hle23).trans hle32, (S56.pick [] [] (by decide) trivial), ?_⟩
            show Value.bool _ = _
            refine congrArg Value.bool ?_
            first | rfl | (rw [decide_eq_true_iff]; omega) | (simp_all; done) | (simp_all <;> omega)
      ·replace hg42 := of_decide_eq_false hg42
       exfalso; omega
   ·replace hg29 := of_decide_eq_false hg29
    exfalso; omega
end Go.Proofs.Ytkcighnochjlgaa
