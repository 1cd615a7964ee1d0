/- Part 9 of the proof of the law HomflyTurns: the walks through its functions and the plain laws that they need. -/
import Derived.Test.YtkcighnochjlgaaHtZ8
set_option linter.unusedSimpArgs false
set_option linter.unusedVariables false
namespace Go.Proofs.Ytkcighnochjlgaa
open Go.ChangeShapes Go.WideShapes Go.ChangeAt Go.RowKit
/-- What forbids a change at a crossing. -/
def errH (d : Dg) (k : Int) : Int := if errO d = 0 then (if k < 0 ∨ (d.crs.length : Int) ≤ k then 3 else if 8 < d.crs.length then 2 else 0) else errO d
theorem errH_ok {d : Dg} {k : Int} (h : errH d k = 0) : errO d = 0 ∧ 0 ≤ k ∧ k < (d.crs.length : Int) ∧ d.crs.length ≤ 8 := by
 unfold errH at h
 split at h
 ·split at h
  ·cases h
  ·split at h
   ·cases h
   ·exact ⟨by assumption, by omega, by omega, by omega⟩
 ·exact absurd h (by assumption)
def HOpen (d : Dg) (k : Int) (v : Value) (N : Hp) : Prop :=
 (errH d k ≠ 0 ∧ v = .tuple [.pointer none, .int .i64 (errH d k)].toArray) ∨
 (errH d k = 0 ∧ ∃ g cA iA oA cc ic oc, v = .tuple [.pointer (some ⟨g, 0, none⟩), .int .i64 0].toArray ∧ ShM N d g cA iA oA cc ic oc)
def HRes (d : Dg) (k : Int) (d' : Dg) (e : Int) (v : Value) (N : Hp) : Prop :=
 (e ≠ 0 ∧ v = .tuple [.agg [.slice none 0 0, .int .i64 0].toArray, .int .i64 e].toArray) ∨
 (e = 0 ∧ ∃ A c, v = .tuple [.agg [.slice A d'.crs.length c, .int .i64 d'.loops].toArray, .int .i64 0].toArray ∧ RdA cdCr N A c d'.crs)
def errS (d : Dg) (k : Int) : Int := if errH d k = 0 then (if 16 < (smD d k.toNat).loops then 2 else 0) else errH d k
noncomputable def HOpenF_n0 : Code := Try.f77.body.getD .skip
noncomputable def HOpenF_n1 : Code := cL HOpenF_n0
noncomputable def HOpenF_n2 : Code := cR HOpenF_n0
noncomputable def HOpenF_n3 : Code := cL HOpenF_n2
noncomputable def HOpenF_n4 : Code := cR HOpenF_n2
noncomputable def HOpenF_n5 : Code := cL HOpenF_n4
noncomputable def HOpenF_n6 : Code := cR HOpenF_n4
noncomputable def HOpenF_n7 : Code := cL HOpenF_n5
noncomputable def HOpenF_n8 : Code := cL HOpenF_n7
noncomputable def HOpenF_n9 : Code := cR HOpenF_n7
noncomputable def HOpenF_n10 : Code := cL HOpenF_n9
noncomputable def HOpenF_n11 : Code := cR HOpenF_n9
noncomputable def HOpenF_n12 : Code := cL HOpenF_n10
noncomputable def HOpenF_n13 : Code := cR HOpenF_n10
noncomputable def HOpenF_n14 : Code := cL HOpenF_n11
noncomputable def HOpenF_n15 : Code := cR HOpenF_n11
noncomputable def HOpenF_n16 : Code := cL HOpenF_n15
noncomputable def HOpenF_n17 : Code := cR HOpenF_n15
noncomputable def HOpenF_n18 : Code := cL HOpenF_n16
noncomputable def HOpenF_n19 : Code := cR HOpenF_n16
noncomputable def HOpenF_n20 : Code := cL HOpenF_n17
noncomputable def HOpenF_n21 : Code := cR HOpenF_n17
noncomputable def HOpenF_n22 : Code := cL HOpenF_n21
noncomputable def HOpenF_n23 : Code := cR HOpenF_n21
noncomputable def HOpenF_n24 : Code := cL HOpenF_n22
noncomputable def HOpenF_n25 : Code := cR HOpenF_n22
noncomputable def HOpenF_n26 : Code := cL HOpenF_n6
noncomputable def HOpenF_n27 : Code := cR HOpenF_n6
set_option maxRecDepth 10000 in
theorem HOpen_t {w : World} {M : Hp} {X : Fr} (d : Dg) {dcrsA : Option Addr} {dcrsc : Nat} (k : Int) (hdcrs : RdA cdCr (M.un X.h) dcrsA dcrsc d.crs) (S : SH w M X []) : Ct Try.prog 77 [.agg [.slice dcrsA d.crs.length dcrsc, .int .i64 d.loops].toArray, .int .i64 k, .bool true] w M X (HOpen d k) := by
 unfold Ct
 have rmhdcrs : d.crs.length * 40 ≤ 140737488355328 := hdcrs.room
 refine calls_in (b := HOpenF_n0) Try.func77 rfl Try.ntmps77 rfl (fun C hC => ?_)
 refine ws_sub [(0, _), (1, _), (2, _)] ⟨rfl, rfl, rfl, trivial⟩ ?_
 refine ws_seqN HOpenF_n1 HOpenF_n2 rfl rfl rfl ?_
 refine ws_region rfl ?_
 refine wlo 0 1 rfl rfl rfl (wo_box (l := [_, _]) rfl rfl rfl rfl rfl S ?_)
 intro gb1 w1 S1; clear S
 refine wla 1 2 rfl rfl rfl rfl rfl rfl rfl ?_
 refine wla 2 3 rfl rfl rfl rfl rfl rfl rfl ?_
 refine wl_end rfl ?_
 refine nm_sub [(1, _), (2, _), (3, _)] ⟨rfl, rfl, rfl, trivial⟩ ?_
 refine nm_thn ?_
 refine ws_seqN HOpenF_n3 HOpenF_n4 rfl rfl rfl ?_
 refine ws_region rfl ?_
 refine wlo 0 1 rfl rfl rfl (wo_run rfl rfl (run_loadN (us := [_, _]) rfl rfl Try.underlying51 rfl sz51 (S1.boxcs (i := 0) rfl ⟨rfl, rfl, trivial⟩)) ?_)
 refine wlo 1 2 rfl rfl rfl (wo_ct rfl rfl rfl rfl rfl rfl rfl cf87 S1 (Open_t d (hdcrs.mono S1.un_XH) S1.lend) ?_)
 intro vw2 w2 M1 hle1 S2 hRw2; clear S1
 replace hdcrs := hdcrs.mono (Hp.un_mono hle1 S2.mx)
 rcases hRw2 with ⟨hopn12, rfl⟩ | ⟨hopn12, g1, cA12, iA12, oA12, cc12, ic12, oc12, rfl, hsb12, hsc12, hsi12, hso12⟩
 ·refine wlm 2 3 rfl rfl rfl rfl rfl rfl rfl ?_
  refine wlo 3 4 rfl rfl rfl (wo_run rfl rfl (run_extract rfl rfl rfl) ?_)
  refine wlo 4 5 rfl rfl rfl (wo_run rfl rfl (run_extract rfl rfl rfl) ?_)
  refine wla 5 6 rfl rfl rfl rfl rfl rfl rfl ?_
  refine wla 6 7 rfl rfl rfl rfl rfl rfl rfl ?_
  refine wl_end rfl ?_
  refine nm_sub [(1, _), (2, _), (8, _), (9, _)] ⟨rfl, rfl, rfl, rfl, trivial⟩ ?_
  refine nm_thn ?_
  refine ws_seqN HOpenF_n5 HOpenF_n6 rfl rfl rfl ?_
  refine ws_blockN HOpenF_n7 0 rfl rfl rfl ?_
  refine ws_seqN HOpenF_n8 HOpenF_n9 rfl rfl rfl ?_
  refine ws_region rfl ?_
  refine wlm 0 1 rfl rfl rfl rfl rfl rfl rfl ?_
  refine wlo 1 2 rfl rfl rfl (wo_run rfl rfl (run_neq rfl rfl rfl) ?_)
  refine wla 2 3 rfl rfl rfl rfl rfl rfl rfl ?_
  refine wl_end rfl ?_
  refine nm_sub [(1, _), (2, _), (8, _), (9, _), (15, _)] ⟨rfl, rfl, rfl, rfl, rfl, trivial⟩ ?_
  refine nm_thn ?_
  refine ws_condN HOpenF_n10 HOpenF_n11 rfl rfl rfl rfl (fun hb15 => ?_) (fun hb15 => ?_)
  ·replace hb15 := of_decide_eq_true hb15
   refine ws_seqN HOpenF_n12 HOpenF_n13 rfl rfl rfl ?_
   refine ws_region rfl ?_
   refine wlm 0 1 rfl rfl rfl rfl rfl rfl rfl ?_
   refine wla 1 2 rfl rfl rfl rfl rfl rfl rfl ?_
   refine wla 2 3 rfl rfl rfl rfl rfl rfl rfl ?_
   refine wl_end rfl ?_
   refine nm_sub [(6, _), (7, _)] ⟨rfl, rfl, trivial⟩ ?_
   refine nm_thn ?_
   refine ws_ret hC [_, _] rfl rfl ⟨rfl, rfl, trivial⟩ ?_
   refine ⟨_, rfl, _, hle1, (S2.pick [] [] (by decide) trivial), ?_⟩
   have e0 : errH d k = errO d := by unfold errH; rw [if_neg hopn12]
   exact .inl ⟨by rw [e0]; exact hopn12, by rw [e0]; rfl⟩
  ·replace hb15 := of_decide_eq_false hb15
   exfalso; omega
 ·obtain ⟨hmo, hpl⟩ := errO_ok hopn12
  obtain ⟨hn, hab, hlo0, hlo1⟩ := mayO hmo
  refine wlm 2 3 rfl rfl rfl rfl rfl rfl rfl ?_
  refine wlo 3 4 rfl rfl rfl (wo_run rfl rfl (run_extract rfl rfl rfl) ?_)
  refine wlo 4 5 rfl rfl rfl (wo_run rfl rfl (run_extract rfl rfl rfl) ?_)
  refine wla 5 6 rfl rfl rfl rfl rfl rfl rfl ?_
  refine wla 6 7 rfl rfl rfl rfl rfl rfl rfl ?_
  refine wl_end rfl ?_
  refine nm_sub [(1, _), (2, _), (8, _), (9, _)] ⟨rfl, rfl, rfl, rfl, trivial⟩ ?_
  refine nm_thn ?_
  refine ws_seqN HOpenF_n5 HOpenF_n6 rfl rfl rfl ?_
  refine ws_blockN HOpenF_n7 0 rfl rfl rfl ?_
  refine ws_seqN HOpenF_n8 HOpenF_n9 rfl rfl rfl ?_
  refine ws_region rfl ?_
  refine wlm 0 1 rfl rfl rfl rfl rfl rfl rfl ?_
  refine wlo 1 2 rfl rfl rfl (wo_run rfl rfl (run_neq rfl rfl rfl) ?_)
  refine wla 2 3 rfl rfl rfl rfl rfl rfl rfl ?_
  refine wl_end rfl ?_
  refine nm_sub [(1, _), (2, _), (8, _), (9, _), (15, _)] ⟨rfl, rfl, rfl, rfl, rfl, trivial⟩ ?_
  refine nm_thn ?_
  refine ws_condN HOpenF_n10 HOpenF_n11 rfl rfl rfl rfl (fun hb15 => ?_) (fun hb15 => ?_)
  ·replace hb15 := of_decide_eq_true hb15
   exfalso; omega
  ·replace hb15 := of_decide_eq_false hb15
   refine ws_seqN HOpenF_n14 HOpenF_n15 rfl rfl rfl ?_
   refine ws_region rfl ?_
   refine wlm 0 1 rfl rfl rfl rfl rfl rfl rfl ?_
   refine wlm 1 2 rfl rfl rfl rfl rfl rfl rfl ?_
   refine wl_opG (k := 2) (k' := 3) rfl rfl ⟨_, _, _, rfl, rfl, rfl, rfl⟩ rfl (wo_run rfl rfl (run_move rfl rfl) ?_)
   refine wl_opG (k := 3) (k' := 4) rfl rfl ⟨_, _, _, rfl, rfl, rfl, rfl⟩ rfl (wo_run rfl rfl (run_lss rfl rfl rfl) ?_)
   refine wl_opG (k := 4) (k' := 5) rfl rfl ⟨_, _, _, rfl, rfl, rfl, rfl⟩ rfl (wo_run rfl rfl (run_move rfl rfl) ?_)
   refine wl_split (t := 24) rfl (fun hg24 => ?_) (fun hg24 => ?_)
   ·replace hg24 := of_decide_eq_true hg24
    refine wl_no (k := 5) (k' := 6) (d := 25) rfl rfl ⟨_, _, _, rfl, rfl, rfl, rfl⟩ rfl rfl ?_
    refine wl_no (k := 6) (k' := 7) (d := 26) rfl rfl ⟨_, _, _, rfl, rfl, rfl, rfl⟩ rfl rfl ?_
    refine wl_no (k := 7) (k' := 8) (d := 27) rfl rfl ⟨_, _, _, rfl, rfl, rfl, rfl⟩ rfl rfl ?_
    refine wl_no (k := 8) (k' := 9) (d := 28) rfl rfl ⟨_, _, _, rfl, rfl, rfl, rfl⟩ rfl rfl ?_
    refine wl_no (k := 9) (k' := 10) (d := 29) rfl rfl ⟨_, _, _, rfl, rfl, rfl, rfl⟩ rfl rfl ?_
    refine wl_no (k := 10) (k' := 11) (d := 30) rfl rfl ⟨_, _, _, rfl, rfl, rfl, rfl⟩ rfl rfl ?_
    refine wl_no (k := 11) (k' := 12) (d := 31) rfl rfl ⟨_, _, _, rfl, rfl, rfl, rfl⟩ rfl rfl ?_
    refine wl_no (k := 12) (k' := 13) (d := 32) rfl rfl ⟨_, _, _, rfl, rfl, rfl, rfl⟩ rfl rfl ?_
    refine wl_opG (k := 13) (k' := 14) rfl rfl ⟨_, _, _, rfl, rfl, rfl, rfl⟩ rfl (wo_run rfl rfl (run_pickT rfl rfl rfl) ?_)
    refine wlo 14 15 rfl rfl rfl (wo_run rfl rfl (run_pickT rfl rfl rfl) ?_)
    refine wla 15 16 rfl rfl rfl rfl rfl rfl rfl ?_
    refine wl_end rfl ?_
    refine nm_sub [(8, _), (19, _)] ⟨rfl, rfl, trivial⟩ ?_
    refine nm_thn ?_
    refine ws_condTN HOpenF_n16 rfl rfl rfl ?_
    refine ws_seqN HOpenF_n18 HOpenF_n19 rfl rfl rfl ?_
    refine ws_region rfl ?_
    refine wla 0 1 rfl rfl rfl rfl rfl rfl rfl ?_
    refine wla 1 2 rfl rfl rfl rfl rfl rfl rfl ?_
    refine wl_end rfl ?_
    refine nm_sub [(6, _), (7, _)] ⟨rfl, rfl, trivial⟩ ?_
    refine nm_thn ?_
    refine ws_ret hC [_, _] rfl rfl ⟨rfl, rfl, trivial⟩ ?_
    refine ⟨_, rfl, _, hle1, (S2.pick [] [] (by decide) trivial), ?_⟩
    have e0 : errH d k = 3 := by unfold errH; rw [if_pos hopn12]; rw [if_pos (by omega)]
    exact .inl ⟨by rw [e0]; decide, by rw [e0]; rfl⟩
   ·replace hg24 := of_decide_eq_false hg24
    refine wl_opG (k := 5) (k' := 6) rfl rfl ⟨_, _, _, rfl, rfl, rfl, rfl⟩ rfl (wo_run rfl rfl (run_move rfl rfl) ?_)
    refine wl_opG (k := 6) (k' := 7) rfl rfl ⟨_, _, _, rfl, rfl, rfl, rfl⟩ rfl (wo_run rfl rfl (run_move rfl rfl) ?_)
    refine wl_opG (k := 7) (k' := 8) rfl rfl ⟨_, _, _, rfl, rfl, rfl, rfl⟩ rfl (wo_run rfl rfl (run_nilCheck rfl rfl) ?_)
    refine wl_opG (k := 8) (k' := 9) rfl rfl ⟨_, _, _, rfl, rfl, rfl, rfl⟩ rfl (wo_run rfl rfl (run_fieldAddr rfl rfl Try.underlying111 rfl (ce51) (nf51)) ?_)
    refine wl_opG (k := 9) (k' := 10) rfl rfl ⟨_, _, _, rfl, rfl, rfl, rfl⟩ rfl (wo_run rfl rfl (run_fieldAddr rfl rfl Try.underlying51 rfl (ce49) (nf49)) ?_)
    refine wl_opG (k := 10) (k' := 11) rfl rfl ⟨_, _, _, rfl, rfl, rfl, rfl⟩ rfl (wo_run rfl rfl (run_load1 rfl rfl Try.underlying49 rfl (hsb12.cell S2.m rfl)) ?_)
    refine wl_opG (k := 11) (k' := 12) rfl rfl ⟨_, _, _, rfl, rfl, rfl, rfl⟩ rfl (wo_run rfl rfl (run_len rfl rfl rfl rfl rfl rfl Try.underlying49) ?_)
    refine wl_opG (k := 12) (k' := 13) rfl rfl ⟨_, _, _, rfl, rfl, rfl, rfl⟩ rfl (wo_run rfl rfl (run_geq rfl rfl rfl) ?_)
    refine wl_opG (k := 13) (k' := 14) rfl rfl ⟨_, _, _, rfl, rfl, rfl, rfl⟩ rfl (wo_run rfl rfl (run_pickF rfl rfl rfl) ?_)
    refine wlo 14 15 rfl rfl rfl (wo_run rfl rfl (run_pickT rfl rfl rfl) ?_)
    refine wla 15 16 rfl rfl rfl rfl rfl rfl rfl ?_
    refine wl_end rfl ?_
    refine nm_sub [(8, _), (19, _)] ⟨rfl, rfl, trivial⟩ ?_
    refine nm_thn ?_
    refine ws_condN HOpenF_n16 HOpenF_n17 rfl rfl rfl rfl (fun hb19 => ?_) (fun hb19 => ?_)
    ·replace hb19 := of_decide_eq_true hb19
     refine ws_seqN HOpenF_n18 HOpenF_n19 rfl rfl rfl ?_
     refine ws_region rfl ?_
     refine wla 0 1 rfl rfl rfl rfl rfl rfl rfl ?_
     refine wla 1 2 rfl rfl rfl rfl rfl rfl rfl ?_
     refine wl_end rfl ?_
     refine nm_sub [(6, _), (7, _)] ⟨rfl, rfl, trivial⟩ ?_
     refine nm_thn ?_
     refine ws_ret hC [_, _] rfl rfl ⟨rfl, rfl, trivial⟩ ?_
     refine ⟨_, rfl, _, hle1, (S2.pick [] [] (by decide) trivial), ?_⟩
     have e0 : errH d k = 3 := by unfold errH; rw [if_pos hopn12]; rw [if_pos (by omega)]
     exact .inl ⟨by rw [e0]; decide, by rw [e0]; rfl⟩
    ·replace hb19 := of_decide_eq_false hb19
     refine ws_seqN HOpenF_n20 HOpenF_n21 rfl rfl rfl ?_
     refine ws_region rfl ?_
     refine wlm 0 1 rfl rfl rfl rfl rfl rfl rfl ?_
     refine wlo 1 2 rfl rfl rfl (wo_run rfl rfl (run_nilCheck rfl rfl) ?_)
     refine wlo 2 3 rfl rfl rfl (wo_run rfl rfl (run_fieldAddr rfl rfl Try.underlying111 rfl (ce51) (nf51)) ?_)
     refine wlo 3 4 rfl rfl rfl (wo_run rfl rfl (run_fieldAddr rfl rfl Try.underlying51 rfl (ce49) (nf49)) ?_)
     refine wlo 4 5 rfl rfl rfl (wo_run rfl rfl (run_load1 rfl rfl Try.underlying49 rfl (hsb12.cell S2.m rfl)) ?_)
     refine wlo 5 6 rfl rfl rfl (wo_run rfl rfl (run_len rfl rfl rfl rfl rfl rfl Try.underlying49) ?_)
     refine wlo 6 7 rfl rfl rfl (wo_run rfl rfl (run_gtr rfl rfl rfl) ?_)
     refine wla 7 8 rfl rfl rfl rfl rfl rfl rfl ?_
     refine wl_end rfl ?_
     refine nm_sub [(8, _), (35, _)] ⟨rfl, rfl, trivial⟩ ?_
     refine nm_thn ?_
     refine ws_condN HOpenF_n22 HOpenF_n23 rfl rfl rfl rfl (fun hb35 => ?_) (fun hb35 => ?_)
     ·replace hb35 := of_decide_eq_true hb35
      refine ws_seqN HOpenF_n24 HOpenF_n25 rfl rfl rfl ?_
      refine ws_region rfl ?_
      refine wla 0 1 rfl rfl rfl rfl rfl rfl rfl ?_
      refine wla 1 2 rfl rfl rfl rfl rfl rfl rfl ?_
      refine wl_end rfl ?_
      refine nm_sub [(6, _), (7, _)] ⟨rfl, rfl, trivial⟩ ?_
      refine nm_thn ?_
      refine ws_ret hC [_, _] rfl rfl ⟨rfl, rfl, trivial⟩ ?_
      refine ⟨_, rfl, _, hle1, (S2.pick [] [] (by decide) trivial), ?_⟩
      have e0 : errH d k = 2 := by unfold errH; rw [if_pos hopn12]; rw [if_neg (by omega), if_pos (by omega)]
      exact .inl ⟨by rw [e0]; decide, by rw [e0]; rfl⟩
     ·replace hb35 := of_decide_eq_false hb35
      refine ws_skip rfl ?_
      refine nm_blk ?_
      refine nm_sub [(8, _)] ⟨rfl, trivial⟩ ?_
      refine nm_thn ?_
      refine ws_seqN HOpenF_n26 HOpenF_n27 rfl rfl rfl ?_
      refine ws_region rfl ?_
      refine wlm 0 1 rfl rfl rfl rfl rfl rfl rfl ?_
      refine wla 1 2 rfl rfl rfl rfl rfl rfl rfl ?_
      refine wla 2 3 rfl rfl rfl rfl rfl rfl rfl ?_
      refine wl_end rfl ?_
      refine nm_sub [(6, _), (7, _)] ⟨rfl, rfl, trivial⟩ ?_
      refine nm_thn ?_
      refine ws_ret hC [_, _] rfl rfl ⟨rfl, rfl, trivial⟩ ?_
      refine ⟨_, rfl, _, hle1, (S2.pick [] [] (by decide) trivial), ?_⟩
      have e0 : errH d k = 0 := by unfold errH; rw [if_pos hopn12, if_neg (by omega), if_neg (by omega)]
      exact .inr ⟨e0, _, _, _, _, _, _, _, rfl, hsb12, hsc12, hsi12, hso12⟩
noncomputable def Change_n0 : Code := Try.f39.body.getD .skip
noncomputable def Change_n1 : Code := cL Change_n0
noncomputable def Change_n2 : Code := cR Change_n0
noncomputable def Change_n3 : Code := cL Change_n2
noncomputable def Change_n4 : Code := cR Change_n2
noncomputable def Change_n5 : Code := cL Change_n4
noncomputable def Change_n6 : Code := cR Change_n4
noncomputable def Change_n7 : Code := cL Change_n5
noncomputable def Change_n8 : Code := cR Change_n5
noncomputable def Change_n9 : Code := cL Change_n8
noncomputable def Change_n10 : Code := cR Change_n8
noncomputable def Change_n11 : Code := cL Change_n9
noncomputable def Change_n12 : Code := cR Change_n9
noncomputable def Change_n13 : Code := cL Change_n6
noncomputable def Change_n14 : Code := cR Change_n6
set_option maxRecDepth 10000 in
theorem Change_t {w : World} {M : Hp} {X : Fr} (d : Dg) {dcrsA : Option Addr} {dcrsc : Nat} (k : Int) (hdcrs : RdA cdCr (M.un X.h) dcrsA dcrsc d.crs) (S : SH w M X []) : Ct Try.prog 39 [.agg [.slice dcrsA d.crs.length dcrsc, .int .i64 d.loops].toArray, .int .i64 k] w M X (fun u N => HRes d k (chD d k.toNat) (errH d k) u N) := by
 unfold Ct
 have rmhdcrs : d.crs.length * 40 ≤ 140737488355328 := hdcrs.room
 refine calls_in (b := Change_n0) Try.func39 rfl Try.ntmps39 rfl (fun C hC => ?_)
 refine ws_sub [(0, _), (1, _)] ⟨rfl, rfl, trivial⟩ ?_
 refine ws_seqN Change_n1 Change_n2 rfl rfl rfl ?_
 refine ws_region rfl ?_
 refine wlo 0 1 rfl rfl rfl (wo_box (l := [_, _]) rfl rfl rfl rfl rfl S ?_)
 intro gb1 w1 S1; clear S
 refine wlo 1 2 rfl rfl rfl (wo_alloc (l := [_, _]) rfl rfl rfl zr51 rfl S1 ?_)
 intro gb2 w2 S2; clear S1
 refine wla 2 3 rfl rfl rfl rfl rfl rfl rfl ?_
 refine wl_end rfl ?_
 refine nm_sub [(1, _), (2, _), (4, _)] ⟨rfl, rfl, rfl, trivial⟩ ?_
 refine nm_thn ?_
 refine ws_seqN Change_n3 Change_n4 rfl rfl rfl ?_
 refine ws_region rfl ?_
 refine wlo 0 1 rfl rfl rfl (wo_run rfl rfl (run_loadN (us := [_, _]) rfl rfl Try.underlying51 rfl sz51 (S2.boxcs (i := 1) rfl ⟨rfl, rfl, trivial⟩)) ?_)
 refine wlm 1 2 rfl rfl rfl rfl rfl rfl rfl ?_
 refine wlo 2 3 rfl rfl rfl (wo_ct rfl rfl rfl rfl rfl rfl rfl cf77 S2 (HOpen_t d k (hdcrs.mono S2.un_XH) S2.lend) ?_)
 intro vw3 w3 M1 hle1 S3 hRw3; clear S2
 replace hdcrs := hdcrs.mono (Hp.un_mono hle1 S3.mx)
 rcases hRw3 with ⟨herr11, rfl⟩ | ⟨herr11, g1, cA11, iA11, oA11, cc11, ic11, oc11, rfl, hsb11, hsc11, hsi11, hso11⟩
 ·refine wlm 3 4 rfl rfl rfl rfl rfl rfl rfl ?_
  refine wlo 4 5 rfl rfl rfl (wo_run rfl rfl (run_extract rfl rfl rfl) ?_)
  refine wlo 5 6 rfl rfl rfl (wo_run rfl rfl (run_extract rfl rfl rfl) ?_)
  refine wla 6 7 rfl rfl rfl rfl rfl rfl rfl ?_
  refine wla 7 8 rfl rfl rfl rfl rfl rfl rfl ?_
  refine wl_end rfl ?_
  refine nm_sub [(1, _), (4, _), (6, _), (7, _)] ⟨rfl, rfl, rfl, rfl, trivial⟩ ?_
  refine nm_thn ?_
  refine ws_seqN Change_n5 Change_n6 rfl rfl rfl ?_
  refine ws_seqN Change_n7 Change_n8 rfl rfl rfl ?_
  refine ws_region rfl ?_
  refine wlm 0 1 rfl rfl rfl rfl rfl rfl rfl ?_
  refine wlo 1 2 rfl rfl rfl (wo_run rfl rfl (run_neq rfl rfl rfl) ?_)
  refine wl_end rfl ?_
  refine nm_sub [(1, _), (4, _), (6, _), (7, _), (15, _)] ⟨rfl, rfl, rfl, rfl, rfl, trivial⟩ ?_
  refine nm_thn ?_
  refine ws_condN Change_n9 Change_n10 rfl rfl rfl rfl (fun hb15 => ?_) (fun hb15 => ?_)
  ·replace hb15 := of_decide_eq_true hb15
   refine ws_seqN Change_n11 Change_n12 rfl rfl rfl ?_
   refine ws_region rfl ?_
   refine wlo 0 1 rfl rfl rfl (wo_run rfl rfl (run_build (l := [_, _]) rfl rfl st51 rfl rfl) ?_)
   refine wlm 1 2 rfl rfl rfl rfl rfl rfl rfl ?_
   refine wlo 2 3 rfl rfl rfl (wo_storeB (i := 0) (us := [_, _]) (l' := [_, _]) (H' := [_, _]) rfl rfl S3 rfl rfl rfl rfl sz51 rfl rfl rfl rfl ?_)
   intro w4 S4; clear S3
   refine wla 3 4 rfl rfl rfl rfl rfl rfl rfl ?_
   refine wl_end rfl ?_
   refine nm_sub [(4, _), (5, _)] ⟨rfl, rfl, trivial⟩ ?_
   refine nm_thn ?_
   refine ws_ret hC [_, _] rfl rfl ⟨⟨_, rfl, loadVarN (us := [_, _]) Try.underlying51 rfl sz51 (S4.boxcs (i := 0) rfl ⟨rfl, rfl, trivial⟩)⟩, rfl, trivial⟩ ?_
   refine ⟨_, rfl, _, hle1, (S4.pick [] [] (by decide) trivial), ?_⟩
   exact .inl ⟨herr11, rfl⟩
  ·replace hb15 := of_decide_eq_false hb15
   exfalso; omega
 ·obtain ⟨heO, hk0, hk1, hn8⟩ := errH_ok herr11
  obtain ⟨hmo, hpl⟩ := errO_ok heO
  obtain ⟨hn, hab, hlo0, hlo1⟩ := mayO hmo
  obtain ⟨kk, rfl⟩ : ∃ kk : Nat, k = (kk : Int) := ⟨k.toNat, by omega⟩
  refine wlm 3 4 rfl rfl rfl rfl rfl rfl rfl ?_
  refine wlo 4 5 rfl rfl rfl (wo_run rfl rfl (run_extract rfl rfl rfl) ?_)
  refine wlo 5 6 rfl rfl rfl (wo_run rfl rfl (run_extract rfl rfl rfl) ?_)
  refine wla 6 7 rfl rfl rfl rfl rfl rfl rfl ?_
  refine wla 7 8 rfl rfl rfl rfl rfl rfl rfl ?_
  refine wl_end rfl ?_
  refine nm_sub [(1, _), (4, _), (6, _), (7, _)] ⟨rfl, rfl, rfl, rfl, trivial⟩ ?_
  refine nm_thn ?_
  refine ws_seqN Change_n5 Change_n6 rfl rfl rfl ?_
  refine ws_seqN Change_n7 Change_n8 rfl rfl rfl ?_
  refine ws_region rfl ?_
  refine wlm 0 1 rfl rfl rfl rfl rfl rfl rfl ?_
  refine wlo 1 2 rfl rfl rfl (wo_run rfl rfl (run_neq rfl rfl rfl) ?_)
  refine wl_end rfl ?_
  refine nm_sub [(1, _), (4, _), (6, _), (7, _), (15, _)] ⟨rfl, rfl, rfl, rfl, rfl, trivial⟩ ?_
  refine nm_thn ?_
  refine ws_condN Change_n9 Change_n10 rfl rfl rfl rfl (fun hb15 => ?_) (fun hb15 => ?_)
  ·replace hb15 := of_decide_eq_true hb15
   exfalso; omega
  ·replace hb15 := of_decide_eq_false hb15
   refine ws_skip rfl ?_
   refine nm_sub [(1, _), (4, _), (6, _)] ⟨rfl, rfl, rfl, trivial⟩ ?_
   refine nm_thn ?_
   refine ws_seqN Change_n13 Change_n14 rfl rfl rfl ?_
   refine ws_region rfl ?_
   refine wlm 0 1 rfl rfl rfl rfl rfl rfl rfl ?_
   refine wlm 1 2 rfl rfl rfl rfl rfl rfl rfl ?_
   refine wlo 2 3 rfl rfl rfl (wo_ct rfl rfl rfl rfl rfl rfl rfl cf78 S3 (change_t  d kk (hsb11.mono (Hp.le_un _ _)) (hsc11.mono (Hp.le_un _ _)) (hsi11.mono (Hp.le_un _ _)) (hso11.mono (Hp.le_un _ _)) (by omega) (by omega) S3.lend) ?_)
   intro vw5 w5 M2 hle2 S5 hRw5; clear S3
   replace hdcrs := hdcrs.mono (Hp.un_mono hle2 S5.mx)
   replace hsb11 := hsb11.mono hle2
   replace hsc11 := hsc11.mono hle2
   replace hsi11 := hsi11.mono hle2
   replace hso11 := hso11.mono hle2
   obtain ⟨A1, c1, rfl, hr1⟩ := hRw5
   refine wlo 3 4 rfl rfl rfl (wo_storeB (i := 0) (us := [_, _]) (l' := [_, _]) (H' := [_, _]) rfl rfl S5 rfl rfl rfl rfl sz51 rfl rfl rfl rfl ?_)
   intro w6 S6; clear S5
   refine wla 4 5 rfl rfl rfl rfl rfl rfl rfl ?_
   refine wl_end rfl ?_
   refine nm_sub [(4, _), (5, _)] ⟨rfl, rfl, trivial⟩ ?_
   refine nm_thn ?_
   refine ws_ret hC [_, _] rfl rfl ⟨⟨_, rfl, loadVarN (us := [_, _]) Try.underlying51 rfl sz51 (S6.boxcs (i := 0) rfl ⟨rfl, rfl, trivial⟩)⟩, rfl, trivial⟩ ?_
   refine ⟨_, rfl, _, hle1.trans hle2, (S6.pick [] [] (by decide) trivial), ?_⟩
   exact .inr ⟨herr11, _, _, rfl, hr1⟩
noncomputable def Smooth_n0 : Code := Try.f40.body.getD .skip
noncomputable def Smooth_n1 : Code := cL Smooth_n0
noncomputable def Smooth_n2 : Code := cR Smooth_n0
noncomputable def Smooth_n3 : Code := cL Smooth_n2
noncomputable def Smooth_n4 : Code := cR Smooth_n2
noncomputable def Smooth_n5 : Code := cL Smooth_n4
noncomputable def Smooth_n6 : Code := cR Smooth_n4
noncomputable def Smooth_n7 : Code := cL Smooth_n5
noncomputable def Smooth_n8 : Code := cR Smooth_n5
noncomputable def Smooth_n9 : Code := cL Smooth_n8
noncomputable def Smooth_n10 : Code := cR Smooth_n8
noncomputable def Smooth_n11 : Code := cL Smooth_n9
noncomputable def Smooth_n12 : Code := cR Smooth_n9
noncomputable def Smooth_n13 : Code := cL Smooth_n6
noncomputable def Smooth_n14 : Code := cR Smooth_n6
noncomputable def Smooth_n15 : Code := cL Smooth_n14
noncomputable def Smooth_n16 : Code := cR Smooth_n14
noncomputable def Smooth_n17 : Code := cL Smooth_n15
noncomputable def Smooth_n18 : Code := cR Smooth_n15
noncomputable def Smooth_n19 : Code := cL Smooth_n18
noncomputable def Smooth_n20 : Code := cR Smooth_n18
noncomputable def Smooth_n21 : Code := cL Smooth_n19
noncomputable def Smooth_n22 : Code := cR Smooth_n19
noncomputable def Smooth_n23 : Code := cL Smooth_n16
noncomputable def Smooth_n24 : Code := cR Smooth_n16
set_option maxRecDepth 10000 in
theorem Smooth_t {w : World} {M : Hp} {X : Fr} (d : Dg) {dcrsA : Option Addr} {dcrsc : Nat} (k : Int) (hdcrs : RdA cdCr (M.un X.h) dcrsA dcrsc d.crs) (S : SH w M X []) : Ct Try.prog 40 [.agg [.slice dcrsA d.crs.length dcrsc, .int .i64 d.loops].toArray, .int .i64 k] w M X (fun u N => HRes d k (smD d k.toNat) (errS d k) u N) := by
 unfold Ct
 have rmhdcrs : d.crs.length * 40 ≤ 140737488355328 := hdcrs.room
 refine calls_in (b := Smooth_n0) Try.func40 rfl Try.ntmps40 rfl (fun C hC => ?_)
 refine ws_sub [(0, _), (1, _)] ⟨rfl, rfl, trivial⟩ ?_
 refine ws_seqN Smooth_n1 Smooth_n2 rfl rfl rfl ?_
 refine ws_region rfl ?_
 refine wlo 0 1 rfl rfl rfl (wo_box (l := [_, _]) rfl rfl rfl rfl rfl S ?_)
 intro gb1 w1 S1; clear S
 refine wlo 1 2 rfl rfl rfl (wo_alloc (l := [_, _]) rfl rfl rfl zr51 rfl S1 ?_)
 intro gb2 w2 S2; clear S1
 refine wla 2 3 rfl rfl rfl rfl rfl rfl rfl ?_
 refine wl_end rfl ?_
 refine nm_sub [(1, _), (2, _), (4, _)] ⟨rfl, rfl, rfl, trivial⟩ ?_
 refine nm_thn ?_
 refine ws_seqN Smooth_n3 Smooth_n4 rfl rfl rfl ?_
 refine ws_region rfl ?_
 refine wlo 0 1 rfl rfl rfl (wo_run rfl rfl (run_loadN (us := [_, _]) rfl rfl Try.underlying51 rfl sz51 (S2.boxcs (i := 1) rfl ⟨rfl, rfl, trivial⟩)) ?_)
 refine wlm 1 2 rfl rfl rfl rfl rfl rfl rfl ?_
 refine wlo 2 3 rfl rfl rfl (wo_ct rfl rfl rfl rfl rfl rfl rfl cf77 S2 (HOpen_t d k (hdcrs.mono S2.un_XH) S2.lend) ?_)
 intro vw3 w3 M1 hle1 S3 hRw3; clear S2
 replace hdcrs := hdcrs.mono (Hp.un_mono hle1 S3.mx)
 rcases hRw3 with ⟨herr12, rfl⟩ | ⟨herr12, g1, cA12, iA12, oA12, cc12, ic12, oc12, rfl, hsb12, hsc12, hsi12, hso12⟩
 ·refine wlm 3 4 rfl rfl rfl rfl rfl rfl rfl ?_
  refine wlo 4 5 rfl rfl rfl (wo_run rfl rfl (run_extract rfl rfl rfl) ?_)
  refine wlo 5 6 rfl rfl rfl (wo_run rfl rfl (run_extract rfl rfl rfl) ?_)
  refine wla 6 7 rfl rfl rfl rfl rfl rfl rfl ?_
  refine wla 7 8 rfl rfl rfl rfl rfl rfl rfl ?_
  refine wl_end rfl ?_
  refine nm_sub [(1, _), (4, _), (6, _), (7, _)] ⟨rfl, rfl, rfl, rfl, trivial⟩ ?_
  refine nm_thn ?_
  refine ws_seqN Smooth_n5 Smooth_n6 rfl rfl rfl ?_
  refine ws_seqN Smooth_n7 Smooth_n8 rfl rfl rfl ?_
  refine ws_region rfl ?_
  refine wlm 0 1 rfl rfl rfl rfl rfl rfl rfl ?_
  refine wlo 1 2 rfl rfl rfl (wo_run rfl rfl (run_neq rfl rfl rfl) ?_)
  refine wl_end rfl ?_
  refine nm_sub [(1, _), (4, _), (6, _), (7, _), (16, _)] ⟨rfl, rfl, rfl, rfl, rfl, trivial⟩ ?_
  refine nm_thn ?_
  refine ws_condN Smooth_n9 Smooth_n10 rfl rfl rfl rfl (fun hb16 => ?_) (fun hb16 => ?_)
  ·replace hb16 := of_decide_eq_true hb16
   refine ws_seqN Smooth_n11 Smooth_n12 rfl rfl rfl ?_
   refine ws_region rfl ?_
   refine wlo 0 1 rfl rfl rfl (wo_run rfl rfl (run_build (l := [_, _]) rfl rfl st51 rfl rfl) ?_)
   refine wlm 1 2 rfl rfl rfl rfl rfl rfl rfl ?_
   refine wlo 2 3 rfl rfl rfl (wo_storeB (i := 0) (us := [_, _]) (l' := [_, _]) (H' := [_, _]) rfl rfl S3 rfl rfl rfl rfl sz51 rfl rfl rfl rfl ?_)
   intro w4 S4; clear S3
   refine wla 3 4 rfl rfl rfl rfl rfl rfl rfl ?_
   refine wl_end rfl ?_
   refine nm_sub [(4, _), (5, _)] ⟨rfl, rfl, trivial⟩ ?_
   refine nm_thn ?_
   refine ws_ret hC [_, _] rfl rfl ⟨⟨_, rfl, loadVarN (us := [_, _]) Try.underlying51 rfl sz51 (S4.boxcs (i := 0) rfl ⟨rfl, rfl, trivial⟩)⟩, rfl, trivial⟩ ?_
   refine ⟨_, rfl, _, hle1, (S4.pick [] [] (by decide) trivial), ?_⟩
   have e0 : errS d k = errH d k := by unfold errS; rw [if_neg herr12]
   exact .inl ⟨by rw [e0]; exact herr12, by rw [e0]; rfl⟩
  ·replace hb16 := of_decide_eq_false hb16
   exfalso; omega
 ·obtain ⟨heO, hk0, hk1, hn8⟩ := errH_ok herr12
  obtain ⟨hmo, hpl⟩ := errO_ok heO
  obtain ⟨hn, hab, hlo0, hlo1⟩ := mayO hmo
  obtain ⟨kk, rfl⟩ : ∃ kk : Nat, k = (kk : Int) := ⟨k.toNat, by omega⟩
  refine wlm 3 4 rfl rfl rfl rfl rfl rfl rfl ?_
  refine wlo 4 5 rfl rfl rfl (wo_run rfl rfl (run_extract rfl rfl rfl) ?_)
  refine wlo 5 6 rfl rfl rfl (wo_run rfl rfl (run_extract rfl rfl rfl) ?_)
  refine wla 6 7 rfl rfl rfl rfl rfl rfl rfl ?_
  refine wla 7 8 rfl rfl rfl rfl rfl rfl rfl ?_
  refine wl_end rfl ?_
  refine nm_sub [(1, _), (4, _), (6, _), (7, _)] ⟨rfl, rfl, rfl, rfl, trivial⟩ ?_
  refine nm_thn ?_
  refine ws_seqN Smooth_n5 Smooth_n6 rfl rfl rfl ?_
  refine ws_seqN Smooth_n7 Smooth_n8 rfl rfl rfl ?_
  refine ws_region rfl ?_
  refine wlm 0 1 rfl rfl rfl rfl rfl rfl rfl ?_
  refine wlo 1 2 rfl rfl rfl (wo_run rfl rfl (run_neq rfl rfl rfl) ?_)
  refine wl_end rfl ?_
  refine nm_sub [(1, _), (4, _), (6, _), (7, _), (16, _)] ⟨rfl, rfl, rfl, rfl, rfl, trivial⟩ ?_
  refine nm_thn ?_
  refine ws_condN Smooth_n9 Smooth_n10 rfl rfl rfl rfl (fun hb16 => ?_) (fun hb16 => ?_)
  ·replace hb16 := of_decide_eq_true hb16
   exfalso; omega
  ·replace hb16 := of_decide_eq_false hb16
   refine ws_skip rfl ?_
   refine nm_sub [(1, _), (4, _), (6, _)] ⟨rfl, rfl, rfl, trivial⟩ ?_
   refine nm_thn ?_
   refine ws_seqN Smooth_n13 Smooth_n14 rfl rfl rfl ?_
   refine ws_region rfl ?_
   refine wlm 0 1 rfl rfl rfl rfl rfl rfl rfl ?_
   refine wlm 1 2 rfl rfl rfl rfl rfl rfl rfl ?_
   refine wlo 2 3 rfl rfl rfl (wo_buildSlice1 (C := cdInt) (l := [_]) rfl rfl rfl rfl sl36 rfl rfl rfl rfl S3 ?_)
   intro gb3 w5 S5; clear S3
   have hr1 := S5.lendBox (C := cdInt) (z := (kk : Int)) (i := 0) rfl rfl (by decide)
   have hcall1 := Without_t d [(kk : Int)] (hsb12.mono (Hp.le_un _ _)) (hsc12.mono (Hp.le_un _ _)) (hsi12.mono (Hp.le_un _ _)) (hso12.mono (Hp.le_un _ _)) hr1 kk (by omega) rfl hn hab ⟨hlo0, hlo1⟩ S5.lend
   refine wlo 3 4 rfl rfl rfl (wo_ct rfl rfl rfl rfl rfl rfl rfl cf79 S5 (hcall1) ?_)
   intro vw6 w6 M2 hle2 S6 hRw6; clear S5
   replace hdcrs := hdcrs.mono (Hp.un_mono hle2 S6.mx)
   replace hsb12 := hsb12.mono hle2
   replace hsc12 := hsc12.mono hle2
   replace hsi12 := hsi12.mono hle2
   replace hso12 := hso12.mono hle2
   obtain ⟨A1, c1, rfl, hr2⟩ := hRw6
   refine wlo 4 5 rfl rfl rfl (wo_alloc (l := [_, _]) rfl rfl rfl zr51 rfl S6 ?_)
   intro gb4 w7 S7; clear S6
   refine wlo 5 6 rfl rfl rfl (wo_storeB (i := 0) (us := [_, _]) (l' := [_, _]) (H' := [_, _, _, _]) rfl rfl S7 rfl rfl rfl rfl sz51 rfl rfl rfl rfl ?_)
   intro w8 S8; clear S7
   refine wl_end rfl ?_
   refine nm_sub [(4, _), (8, _)] ⟨rfl, rfl, trivial⟩ ?_
   refine nm_thn ?_
   refine ws_seqN Smooth_n15 Smooth_n16 rfl rfl rfl ?_
   refine ws_seqN Smooth_n17 Smooth_n18 rfl rfl rfl ?_
   refine ws_region rfl ?_
   refine wlo 0 1 rfl rfl rfl (wo_run rfl rfl (run_fieldAddr rfl rfl Try.underlying51 rfl (ce3) (nf3)) ?_)
   refine wlo 1 2 rfl rfl rfl (wo_run rfl rfl (run_load1 rfl rfl Try.underlying3 rfl (S8.boxc (i := 0) rfl rfl)) ?_)
   refine wlo 2 3 rfl rfl rfl (wo_run rfl rfl (run_gtr rfl rfl rfl) ?_)
   refine wl_end rfl ?_
   refine nm_sub [(4, _), (8, _), (25, _)] ⟨rfl, rfl, rfl, trivial⟩ ?_
   refine nm_thn ?_
   refine ws_condN Smooth_n19 Smooth_n20 rfl rfl rfl rfl (fun hb25 => ?_) (fun hb25 => ?_)
   ·replace hb25 := of_decide_eq_true hb25
    refine ws_seqN Smooth_n21 Smooth_n22 rfl rfl rfl ?_
    refine ws_region rfl ?_
    refine wlo 0 1 rfl rfl rfl (wo_run rfl rfl (run_build (l := [_, _]) rfl rfl st51 rfl rfl) ?_)
    refine wlo 1 2 rfl rfl rfl (wo_storeB (i := 2) (us := [_, _]) (l' := [_, _]) (H' := [_, _, _, _]) rfl rfl S8 rfl rfl rfl rfl sz51 rfl rfl rfl rfl ?_)
    intro w9 S9; clear S8
    refine wla 2 3 rfl rfl rfl rfl rfl rfl rfl ?_
    refine wl_end rfl ?_
    refine nm_sub [(4, _), (5, _)] ⟨rfl, rfl, trivial⟩ ?_
    refine nm_thn ?_
    refine ws_ret hC [_, _] rfl rfl ⟨⟨_, rfl, loadVarN (us := [_, _]) Try.underlying51 rfl sz51 (S9.boxcs (i := 2) rfl ⟨rfl, rfl, trivial⟩)⟩, rfl, trivial⟩ ?_
    refine ⟨_, rfl, _, hle1.trans hle2, (S9.pick [] [] (by decide) trivial), ?_⟩
    have e0 : errS d (kk : Int) = 2 := by unfold errS; rw [if_pos herr12, if_pos (by show 16 < (smD d kk).loops; omega)]
    exact .inl ⟨by rw [e0]; decide, by rw [e0]; rfl⟩
   ·replace hb25 := of_decide_eq_false hb25
    refine ws_skip rfl ?_
    refine nm_sub [(4, _), (8, _)] ⟨rfl, rfl, trivial⟩ ?_
    refine nm_thn ?_
    refine ws_seqN Smooth_n23 Smooth_n24 rfl rfl rfl ?_
    refine ws_region rfl ?_
    refine wlo 0 1 rfl rfl rfl (wo_run rfl rfl (run_loadN (us := [_, _]) rfl rfl Try.underlying51 rfl sz51 (S8.boxcs (i := 0) rfl ⟨rfl, rfl, trivial⟩)) ?_)
    refine wlo 1 2 rfl rfl rfl (wo_storeB (i := 2) (us := [_, _]) (l' := [_, _]) (H' := [_, _, _, _]) rfl rfl S8 rfl rfl rfl rfl sz51 rfl rfl rfl rfl ?_)
    intro w10 S10; clear S8
    refine wla 2 3 rfl rfl rfl rfl rfl rfl rfl ?_
    refine wl_end rfl ?_
    refine nm_sub [(4, _), (5, _)] ⟨rfl, rfl, trivial⟩ ?_
    refine nm_thn ?_
    refine ws_ret hC [_, _] rfl rfl ⟨⟨_, rfl, loadVarN (us := [_, _]) Try.underlying51 rfl sz51 (S10.boxcs (i := 2) rfl ⟨rfl, rfl, trivial⟩)⟩, rfl, trivial⟩ ?_
    refine ⟨_, rfl, _, hle1.trans hle2, (S10.pick [] [] (by decide) trivial), ?_⟩
    have e0 : errS d (kk : Int) = 0 := by unfold errS; rw [if_pos herr12, if_neg (by show ¬ 16 < (smD d kk).loops; omega)]
    exact .inr ⟨e0, _, _, rfl, hr2⟩
end Go.Proofs.Ytkcighnochjlgaa
