/- Walks printed by eng.py. -/
import Derived.Test.YtlbpgnimpcflaaaP8
set_option linter.unusedSimpArgs false
set_option linter.unusedVariables false
namespace Go.Proofs.Ytlbpgnimpcflaaa
open Go.ChangeShapes Go.WideShapes Go.ChangeAt Go.RowKit
/-- What forbids that a diagram is opened to wind. -/
def errO (d : Dg) : Int := if mayB d = true then (if planP d = true then 0 else 5) else 7
theorem errO_ok {d : Dg} (h : errO d = 0) : mayB d = true ∧ planP d = true := by
  unfold errO at h
  split at h
  · split at h
    · exact ⟨by assumption, by assumption⟩
    · cases h
  · cases h
def OpenT (d : Dg) (v : Value) (N : Hp) : Prop :=
  (errO d ≠ 0 ∧ v = .tuple [.pointer none, .int .i64 (errO d)].toArray) ∨
  (errO d = 0 ∧ ∃ g cA iA oA cc ic oc, v = .tuple [.pointer (some ⟨g, 0, none⟩), .int .i64 0].toArray ∧ ShM N d g cA iA oA cc ic oc)
def sgn (x : Cr) : Int := if x.plus = true then 1 else -1
def turnN (d : Dg) : Nat → Int
  | 0 => 0
  | k + 1 => turnN d k + sgn (ga d.crs k)
theorem turnN_bd (d : Dg) (k : Nat) : -(k : Int) ≤ turnN d k ∧ turnN d k ≤ k := by
  induction k with
  | zero => simp [turnN]
  | succ k ih => rw [turnN]; unfold sgn; split <;> omega
def turns (d : Dg) : Int := turnN d d.crs.length
def writheR (d : Dg) : Int := if errO d = 0 then turns d else 0

noncomputable def Open_n0 : Code := Try.f71.body.getD .skip
noncomputable def Open_n1 : Code := cL Open_n0
noncomputable def Open_n2 : Code := cR Open_n0
noncomputable def Open_n3 : Code := cL Open_n2
noncomputable def Open_n4 : Code := cR Open_n2
noncomputable def Open_n5 : Code := cL Open_n4
noncomputable def Open_n6 : Code := cR Open_n4
noncomputable def Open_n7 : Code := cL Open_n5
noncomputable def Open_n8 : Code := cL Open_n7
noncomputable def Open_n9 : Code := cR Open_n7
noncomputable def Open_n10 : Code := cL Open_n9
noncomputable def Open_n11 : Code := cR Open_n9
noncomputable def Open_n12 : Code := cL Open_n10
noncomputable def Open_n13 : Code := cR Open_n10
noncomputable def Open_n14 : Code := cL Open_n11
noncomputable def Open_n15 : Code := cR Open_n11
noncomputable def Open_n16 : Code := cL Open_n15
noncomputable def Open_n17 : Code := cR Open_n15
noncomputable def Open_n18 : Code := cL Open_n16
noncomputable def Open_n19 : Code := cR Open_n16
noncomputable def Open_n20 : Code := cL Open_n6
noncomputable def Open_n21 : Code := cR Open_n6
set_option maxRecDepth 10000 in
theorem Open_t {w : World} {M : Hp} {X : Fr} (d : Dg) {dcrsA : Option Addr} {dcrsc : Nat} (hdcrs : RdA cdCr (M.un X.h) dcrsA dcrsc d.crs) (S : SH w M X []) : Ct Try.prog 71 [.agg [.slice dcrsA d.crs.length dcrsc, .int .i64 d.loops].toArray] w M X (OpenT d) := by
  unfold Ct
  have rmhdcrs : d.crs.length * 40 ≤ 140737488355328 := hdcrs.room
  refine calls_in (b := Open_n0) Try.func71 rfl Try.ntmps71 rfl (fun C hC => ?_)
  refine ws_sub [(0, _)] ⟨rfl, trivial⟩ ?_
  refine ws_seqN Open_n1 Open_n2 rfl rfl rfl ?_
  refine ws_region rfl ?_
  refine wl_op (k := 0) (k' := 1) rfl rfl rfl (wo_box (l := [_, _]) rfl rfl rfl rfl rfl S ?_)
  intro gb1 w1 S1; clear S
  refine wl_op (k := 1) (k' := 2) rfl rfl rfl (wo_run rfl rfl (run_assign rfl rfl) ?_)
  refine wl_op (k := 2) (k' := 3) rfl rfl rfl (wo_run rfl rfl (run_assign rfl rfl) ?_)
  refine wl_end rfl ?_
  refine nm_sub [(1, _)] ⟨rfl, trivial⟩ ?_
  refine nm_thn ?_
  refine ws_seqN Open_n3 Open_n4 rfl rfl rfl ?_
  refine ws_region rfl ?_
  refine wl_op (k := 0) (k' := 1) rfl rfl rfl (wo_run rfl rfl (run_loadN (us := [_, _]) rfl rfl Try.underlying27 rfl sz27 (S1.boxcs (i := 0) rfl ⟨rfl, rfl, trivial⟩)) ?_)
  refine wl_op (k := 1) (k' := 2) rfl rfl rfl (wo_ct rfl rfl rfl rfl rfl rfl rfl cf53 S1 (New_t d (hdcrs.mono S1.un_XH) S1.lend) ?_)
  intro vw2 w2 M1 hle1 S2 hRw2; clear S1
  replace hdcrs := hdcrs.mono (Hp.un_mono hle1 S2.mx)
  rcases hRw2 with ⟨hmay8, rfl⟩ | ⟨hmay8, g1, cA8, iA8, oA8, cc8, ic8, oc8, rfl, hsb8, hsc8, hsi8, hso8⟩
  · refine wl_op (k := 2) (k' := 3) rfl rfl rfl (wo_run rfl rfl (run_move rfl rfl) ?_)
    refine wl_op (k := 3) (k' := 4) rfl rfl rfl (wo_run rfl rfl (run_extract rfl rfl rfl) ?_)
    refine wl_op (k := 4) (k' := 5) rfl rfl rfl (wo_run rfl rfl (run_extract rfl rfl rfl) ?_)
    refine wl_op (k := 5) (k' := 6) rfl rfl rfl (wo_run rfl rfl (run_assign rfl rfl) ?_)
    refine wl_op (k := 6) (k' := 7) rfl rfl rfl (wo_run rfl rfl (run_assign rfl rfl) ?_)
    refine wl_end rfl ?_
    refine nm_sub [(4, _), (5, _)] ⟨rfl, rfl, trivial⟩ ?_
    refine nm_thn ?_
    refine ws_seqN Open_n5 Open_n6 rfl rfl rfl ?_
    refine ws_blockN Open_n7 0 rfl rfl rfl ?_
    refine ws_seqN Open_n8 Open_n9 rfl rfl rfl ?_
    refine ws_region rfl ?_
    refine wl_op (k := 0) (k' := 1) rfl rfl rfl (wo_run rfl rfl (run_move rfl rfl) ?_)
    refine wl_op (k := 1) (k' := 2) rfl rfl rfl (wo_run rfl rfl (run_not rfl rfl) ?_)
    refine wl_op (k := 2) (k' := 3) rfl rfl rfl (wo_run rfl rfl (run_assign rfl rfl) ?_)
    refine wl_end rfl ?_
    refine nm_sub [(4, _), (11, _)] ⟨rfl, rfl, trivial⟩ ?_
    refine nm_thn ?_
    refine ws_condTN Open_n10 rfl rfl rfl ?_
    refine ws_seqN Open_n12 Open_n13 rfl rfl rfl ?_
    refine ws_region rfl ?_
    refine wl_op (k := 0) (k' := 1) rfl rfl rfl (wo_run rfl rfl (run_assign rfl rfl) ?_)
    refine wl_op (k := 1) (k' := 2) rfl rfl rfl (wo_run rfl rfl (run_assign rfl rfl) ?_)
    refine wl_end rfl ?_
    refine nm_sub [(2, _), (3, _)] ⟨rfl, rfl, trivial⟩ ?_
    refine nm_thn ?_
    refine ws_ret hC [_, _] rfl rfl ⟨rfl, rfl, trivial⟩ ?_
    refine ⟨_, rfl, _, hle1, (S2.pick [] [] (by decide) trivial), ?_⟩
    have e0 : errO d = 7 := by unfold errO; rw [if_neg (by rw [hmay8]; exact Bool.false_ne_true)]
    exact .inl ⟨by rw [e0]; decide, by rw [e0]; rfl⟩
  · obtain ⟨hn, hab, hlo0, hlo1⟩ := mayO hmay8
    refine wl_op (k := 2) (k' := 3) rfl rfl rfl (wo_run rfl rfl (run_move rfl rfl) ?_)
    refine wl_op (k := 3) (k' := 4) rfl rfl rfl (wo_run rfl rfl (run_extract rfl rfl rfl) ?_)
    refine wl_op (k := 4) (k' := 5) rfl rfl rfl (wo_run rfl rfl (run_extract rfl rfl rfl) ?_)
    refine wl_op (k := 5) (k' := 6) rfl rfl rfl (wo_run rfl rfl (run_assign rfl rfl) ?_)
    refine wl_op (k := 6) (k' := 7) rfl rfl rfl (wo_run rfl rfl (run_assign rfl rfl) ?_)
    refine wl_end rfl ?_
    refine nm_sub [(4, _), (5, _)] ⟨rfl, rfl, trivial⟩ ?_
    refine nm_thn ?_
    refine ws_seqN Open_n5 Open_n6 rfl rfl rfl ?_
    refine ws_blockN Open_n7 0 rfl rfl rfl ?_
    refine ws_seqN Open_n8 Open_n9 rfl rfl rfl ?_
    refine ws_region rfl ?_
    refine wl_op (k := 0) (k' := 1) rfl rfl rfl (wo_run rfl rfl (run_move rfl rfl) ?_)
    refine wl_op (k := 1) (k' := 2) rfl rfl rfl (wo_run rfl rfl (run_not rfl rfl) ?_)
    refine wl_op (k := 2) (k' := 3) rfl rfl rfl (wo_run rfl rfl (run_assign rfl rfl) ?_)
    refine wl_end rfl ?_
    refine nm_sub [(4, _), (11, _)] ⟨rfl, rfl, trivial⟩ ?_
    refine nm_thn ?_
    refine ws_condFN Open_n11 rfl rfl rfl ?_
    refine ws_seqN Open_n14 Open_n15 rfl rfl rfl ?_
    refine ws_region rfl ?_
    refine wl_op (k := 0) (k' := 1) rfl rfl rfl (wo_run rfl rfl (run_move rfl rfl) ?_)
    refine wl_op (k := 1) (k' := 2) rfl rfl rfl (wo_ct rfl rfl rfl rfl rfl rfl rfl cf67 S2 (Planar_t d hsb8 hsc8 hsi8 hso8 hn hab S2.lend) ?_)
    intro vw3 w3 M2 hle2 S3 hRw3; clear S2
    replace hdcrs := hdcrs.mono (Hp.un_mono hle2 S3.mx)
    replace hsb8 := hsb8.mono hle2
    replace hsc8 := hsc8.mono hle2
    replace hsi8 := hsi8.mono hle2
    replace hso8 := hso8.mono hle2
    obtain rfl := hRw3
    refine wl_op (k := 2) (k' := 3) rfl rfl rfl (wo_run rfl rfl (run_not rfl rfl) ?_)
    refine wl_op (k := 3) (k' := 4) rfl rfl rfl (wo_run rfl rfl (run_assign rfl rfl) ?_)
    refine wl_end rfl ?_
    refine nm_sub [(4, _), (14, _)] ⟨rfl, rfl, trivial⟩ ?_
    refine nm_thn ?_
    refine ws_condN Open_n16 Open_n17 rfl rfl rfl rfl (fun hb14 => ?_) (fun hb14 => ?_)
    · simp only [Bool.and_eq_true, Bool.or_eq_true, Bool.and_eq_false_iff, Bool.or_eq_false_iff, decide_eq_true_eq, decide_eq_false_iff_not, Bool.not_eq_true', Bool.not_eq_false'] at hb14
      refine ws_seqN Open_n18 Open_n19 rfl rfl rfl ?_
      refine ws_region rfl ?_
      refine wl_op (k := 0) (k' := 1) rfl rfl rfl (wo_run rfl rfl (run_assign rfl rfl) ?_)
      refine wl_op (k := 1) (k' := 2) rfl rfl rfl (wo_run rfl rfl (run_assign rfl rfl) ?_)
      refine wl_end rfl ?_
      refine nm_sub [(2, _), (3, _)] ⟨rfl, rfl, trivial⟩ ?_
      refine nm_thn ?_
      refine ws_ret hC [_, _] rfl rfl ⟨rfl, rfl, trivial⟩ ?_
      refine ⟨_, rfl, _, hle1.trans hle2, (S3.pick [] [] (by decide) trivial), ?_⟩
      have e0 : errO d = 5 := by unfold errO; rw [if_pos hmay8, if_neg (by simp [*])]
      exact .inl ⟨by rw [e0]; decide, by rw [e0]; rfl⟩
    · simp only [Bool.and_eq_true, Bool.or_eq_true, Bool.and_eq_false_iff, Bool.or_eq_false_iff, decide_eq_true_eq, decide_eq_false_iff_not, Bool.not_eq_true', Bool.not_eq_false'] at hb14
      refine ws_skip rfl ?_
      refine nm_blk ?_
      refine nm_sub [(4, _)] ⟨rfl, trivial⟩ ?_
      refine nm_thn ?_
      refine ws_seqN Open_n20 Open_n21 rfl rfl rfl ?_
      refine ws_region rfl ?_
      refine wl_op (k := 0) (k' := 1) rfl rfl rfl (wo_run rfl rfl (run_move rfl rfl) ?_)
      refine wl_op (k := 1) (k' := 2) rfl rfl rfl (wo_run rfl rfl (run_assign rfl rfl) ?_)
      refine wl_op (k := 2) (k' := 3) rfl rfl rfl (wo_run rfl rfl (run_assign rfl rfl) ?_)
      refine wl_end rfl ?_
      refine nm_sub [(2, _), (3, _)] ⟨rfl, rfl, trivial⟩ ?_
      refine nm_thn ?_
      refine ws_ret hC [_, _] rfl rfl ⟨rfl, rfl, trivial⟩ ?_
      refine ⟨_, rfl, _, hle1.trans hle2, (S3.pick [] [] (by decide) trivial), ?_⟩
      have e0 : errO d = 0 := by unfold errO; rw [if_pos hmay8, if_pos (by simpa using hb14)]
      exact .inr ⟨e0, _, _, _, _, _, _, _, rfl, hsb8, hsc8, hsi8, hso8⟩

noncomputable def PlanarMay_n0 : Code := Try.f39.body.getD .skip
noncomputable def PlanarMay_n1 : Code := cL PlanarMay_n0
noncomputable def PlanarMay_n2 : Code := cR PlanarMay_n0
noncomputable def PlanarMay_n3 : Code := cL PlanarMay_n2
noncomputable def PlanarMay_n4 : Code := cR PlanarMay_n2
noncomputable def PlanarMay_n5 : Code := cL PlanarMay_n3
noncomputable def PlanarMay_n6 : Code := cR PlanarMay_n3
noncomputable def PlanarMay_n7 : Code := cL PlanarMay_n6
noncomputable def PlanarMay_n8 : Code := cR PlanarMay_n6
noncomputable def PlanarMay_n9 : Code := cL PlanarMay_n7
noncomputable def PlanarMay_n10 : Code := cR PlanarMay_n7
noncomputable def PlanarMay_n11 : Code := cL PlanarMay_n4
noncomputable def PlanarMay_n12 : Code := cR PlanarMay_n4
noncomputable def PlanarMay_n13 : Code := cL PlanarMay_n11
noncomputable def PlanarMay_n14 : Code := cR PlanarMay_n11
noncomputable def PlanarMay_n15 : Code := cL PlanarMay_n14
noncomputable def PlanarMay_n16 : Code := cR PlanarMay_n14
noncomputable def PlanarMay_n17 : Code := cL PlanarMay_n15
noncomputable def PlanarMay_n18 : Code := cR PlanarMay_n15
noncomputable def PlanarMay_n19 : Code := cL PlanarMay_n12
noncomputable def PlanarMay_n20 : Code := cR PlanarMay_n12
set_option maxRecDepth 10000 in
theorem PlanarMay_t {w : World} {M : Hp} {X : Fr} (d : Dg) {dcrsA : Option Addr} {dcrsc : Nat} (hdcrs : RdA cdCr (M.un X.h) dcrsA dcrsc d.crs) (S : SH w M X []) : Ct Try.prog 39 [.agg [.slice dcrsA d.crs.length dcrsc, .int .i64 d.loops].toArray] w M X (fun u _ => u = .int .i64 (errO d)) := by
  unfold Ct
  have rmhdcrs : d.crs.length * 40 ≤ 140737488355328 := hdcrs.room
  refine calls_in (b := PlanarMay_n0) Try.func39 rfl Try.ntmps39 rfl (fun C hC => ?_)
  refine ws_sub [(0, _)] ⟨rfl, trivial⟩ ?_
  refine ws_seqN PlanarMay_n1 PlanarMay_n2 rfl rfl rfl ?_
  refine ws_region rfl ?_
  refine wl_op (k := 0) (k' := 1) rfl rfl rfl (wo_box (l := [_, _]) rfl rfl rfl rfl rfl S ?_)
  intro gb1 w1 S1; clear S
  refine wl_op (k := 1) (k' := 2) rfl rfl rfl (wo_run rfl rfl (run_assign rfl rfl) ?_)
  refine wl_end rfl ?_
  refine nm_sub [(1, _)] ⟨rfl, trivial⟩ ?_
  refine nm_thn ?_
  refine ws_seqN PlanarMay_n3 PlanarMay_n4 rfl rfl rfl ?_
  refine ws_seqN PlanarMay_n5 PlanarMay_n6 rfl rfl rfl ?_
  refine ws_region rfl ?_
  refine wl_op (k := 0) (k' := 1) rfl rfl rfl (wo_run rfl rfl (run_loadN (us := [_, _]) rfl rfl Try.underlying27 rfl sz27 (S1.boxcs (i := 0) rfl ⟨rfl, rfl, trivial⟩)) ?_)
  refine wl_op (k := 1) (k' := 2) rfl rfl rfl (wo_cq rfl rfl rfl rfl rfl rfl rfl cf17 S1 (DiagramMay_q d (hdcrs.mono S1.un_XH) S1.lend) ?_)
  rintro _ w2 S2 rfl; clear S1
  refine wl_op (k := 2) (k' := 3) rfl rfl rfl (wo_run rfl rfl (run_not rfl rfl) ?_)
  refine wl_end rfl ?_
  refine nm_sub [(1, _), (5, _)] ⟨rfl, rfl, trivial⟩ ?_
  refine nm_thn ?_
  refine ws_condN PlanarMay_n7 PlanarMay_n8 rfl rfl rfl rfl (fun hb5 => ?_) (fun hb5 => ?_)
  · simp only [Bool.and_eq_true, Bool.or_eq_true, Bool.and_eq_false_iff, Bool.or_eq_false_iff, decide_eq_true_eq, decide_eq_false_iff_not, Bool.not_eq_true', Bool.not_eq_false'] at hb5
    refine ws_seqN PlanarMay_n9 PlanarMay_n10 rfl rfl rfl ?_
    refine ws_region rfl ?_
    refine wl_op (k := 0) (k' := 1) rfl rfl rfl (wo_run rfl rfl (run_assign rfl rfl) ?_)
    refine wl_end rfl ?_
    refine nm_sub [(2, _)] ⟨rfl, trivial⟩ ?_
    refine nm_thn ?_
    refine ws_ret hC [_] rfl rfl ⟨rfl, trivial⟩ ?_
    refine ⟨_, rfl, _, Hp.le_refl _, (S2.pick [] [] (by decide) trivial), ?_⟩
    have e0 : errO d = 7 := by unfold errO; rw [if_neg (by simp_all)]
    rw [e0]
    rfl
  · simp only [Bool.and_eq_true, Bool.or_eq_true, Bool.and_eq_false_iff, Bool.or_eq_false_iff, decide_eq_true_eq, decide_eq_false_iff_not, Bool.not_eq_true', Bool.not_eq_false'] at hb5
    have hm : mayB d = true := by simpa using hb5
    obtain ⟨hn, hab, _, _⟩ := mayO hm
    refine ws_skip rfl ?_
    refine nm_sub [(1, _)] ⟨rfl, trivial⟩ ?_
    refine nm_thn ?_
    refine ws_seqN PlanarMay_n11 PlanarMay_n12 rfl rfl rfl ?_
    refine ws_seqN PlanarMay_n13 PlanarMay_n14 rfl rfl rfl ?_
    refine ws_region rfl ?_
    refine wl_op (k := 0) (k' := 1) rfl rfl rfl (wo_run rfl rfl (run_loadN (us := [_, _]) rfl rfl Try.underlying27 rfl sz27 (S2.boxcs (i := 0) rfl ⟨rfl, rfl, trivial⟩)) ?_)
    refine wl_op (k := 1) (k' := 2) rfl rfl rfl (wo_ct rfl rfl rfl rfl rfl rfl rfl cf37 S2 (PlanarIs_t d (hdcrs.mono S2.un_XH) (hn) (hab) S2.lend) ?_)
    intro vw3 w3 M1 hle1 S3 hRw3; clear S2
    replace hdcrs := hdcrs.mono (Hp.un_mono hle1 S3.mx)
    obtain rfl := hRw3
    refine wl_op (k := 2) (k' := 3) rfl rfl rfl (wo_run rfl rfl (run_not rfl rfl) ?_)
    refine wl_end rfl ?_
    refine nm_sub [(8, _)] ⟨rfl, trivial⟩ ?_
    refine nm_thn ?_
    refine ws_condN PlanarMay_n15 PlanarMay_n16 rfl rfl rfl rfl (fun hb8 => ?_) (fun hb8 => ?_)
    · simp only [Bool.and_eq_true, Bool.or_eq_true, Bool.and_eq_false_iff, Bool.or_eq_false_iff, decide_eq_true_eq, decide_eq_false_iff_not, Bool.not_eq_true', Bool.not_eq_false'] at hb8
      refine ws_seqN PlanarMay_n17 PlanarMay_n18 rfl rfl rfl ?_
      refine ws_region rfl ?_
      refine wl_op (k := 0) (k' := 1) rfl rfl rfl (wo_run rfl rfl (run_assign rfl rfl) ?_)
      refine wl_end rfl ?_
      refine nm_sub [(2, _)] ⟨rfl, trivial⟩ ?_
      refine nm_thn ?_
      refine ws_ret hC [_] rfl rfl ⟨rfl, trivial⟩ ?_
      refine ⟨_, rfl, _, hle1, (S3.pick [] [] (by decide) trivial), ?_⟩
      have e1 := planar_law hab
      have e0 : errO d = 5 := by unfold errO; rw [if_pos hm, if_neg (by rw [← e1]; simp [*])]
      rw [e0]
      rfl
    · simp only [Bool.and_eq_true, Bool.or_eq_true, Bool.and_eq_false_iff, Bool.or_eq_false_iff, decide_eq_true_eq, decide_eq_false_iff_not, Bool.not_eq_true', Bool.not_eq_false'] at hb8
      refine ws_skip rfl ?_
      refine nm_sub [] trivial ?_
      refine nm_thn ?_
      refine ws_seqN PlanarMay_n19 PlanarMay_n20 rfl rfl rfl ?_
      refine ws_region rfl ?_
      refine wl_op (k := 0) (k' := 1) rfl rfl rfl (wo_run rfl rfl (run_assign rfl rfl) ?_)
      refine wl_end rfl ?_
      refine nm_thn ?_
      refine ws_ret hC [_] rfl rfl ⟨rfl, trivial⟩ ?_
      refine ⟨_, rfl, _, hle1, (S3.pick [] [] (by decide) trivial), ?_⟩
      have e1 := planar_law hab
      have e0 : errO d = 0 := by unfold errO; rw [if_pos hm, if_pos (by rw [← e1]; simpa using hb8)]
      rw [e0]
      rfl

noncomputable def Sign_n0 : Code := Try.f78.body.getD .skip
noncomputable def Sign_n1 : Code := cL Sign_n0
noncomputable def Sign_n2 : Code := cR Sign_n0
noncomputable def Sign_n3 : Code := cL Sign_n2
noncomputable def Sign_n4 : Code := cR Sign_n2
noncomputable def Sign_n5 : Code := cL Sign_n3
noncomputable def Sign_n6 : Code := cR Sign_n3
noncomputable def Sign_n7 : Code := cL Sign_n6
noncomputable def Sign_n8 : Code := cR Sign_n6
noncomputable def Sign_n9 : Code := cL Sign_n7
noncomputable def Sign_n10 : Code := cR Sign_n7
noncomputable def Sign_n11 : Code := cL Sign_n4
noncomputable def Sign_n12 : Code := cR Sign_n4
set_option maxRecDepth 10000 in
theorem Sign_q {w : World} {M : Hp} {X : Fr} (x : Cr) (S : SH w M X []) : Cq Try.prog 78 [.agg [.int .i64 x.a, .int .i64 x.b, .int .i64 x.c, .int .i64 x.d, .bool x.plus].toArray] w M X (fun u => u = .int .i64 (sgn x)) := by
  unfold Cq
  refine calls_in (b := Sign_n0) Try.func78 rfl Try.ntmps78 rfl (fun C hC => ?_)
  refine ws_sub [(0, _)] ⟨rfl, trivial⟩ ?_
  refine ws_seqN Sign_n1 Sign_n2 rfl rfl rfl ?_
  refine ws_region rfl ?_
  refine wl_op (k := 0) (k' := 1) rfl rfl rfl (wo_box (l := [_, _, _, _, _]) rfl rfl rfl rfl rfl S ?_)
  intro gb1 w1 S1; clear S
  refine wl_op (k := 1) (k' := 2) rfl rfl rfl (wo_run rfl rfl (run_assign rfl rfl) ?_)
  refine wl_end rfl ?_
  refine nm_sub [(1, _)] ⟨rfl, trivial⟩ ?_
  refine nm_thn ?_
  refine ws_seqN Sign_n3 Sign_n4 rfl rfl rfl ?_
  refine ws_seqN Sign_n5 Sign_n6 rfl rfl rfl ?_
  refine ws_region rfl ?_
  refine wl_op (k := 0) (k' := 1) rfl rfl rfl (wo_run rfl rfl (run_fieldAddr rfl rfl Try.underlying73 rfl (ce4) (nf4)) ?_)
  refine wl_op (k := 1) (k' := 2) rfl rfl rfl (wo_run rfl rfl (run_load1 rfl rfl Try.underlying4 rfl (S1.boxc (i := 0) rfl rfl)) ?_)
  refine wl_end rfl ?_
  refine nm_sub [(4, _)] ⟨rfl, trivial⟩ ?_
  refine nm_thn ?_
  refine ws_condN Sign_n7 Sign_n8 rfl rfl rfl rfl (fun hb4 => ?_) (fun hb4 => ?_)
  · refine ws_seqN Sign_n9 Sign_n10 rfl rfl rfl ?_
    refine ws_region rfl ?_
    refine wl_op (k := 0) (k' := 1) rfl rfl rfl (wo_run rfl rfl (run_assign rfl rfl) ?_)
    refine wl_end rfl ?_
    refine nm_sub [(2, _)] ⟨rfl, trivial⟩ ?_
    refine nm_thn ?_
    refine ws_ret hC [_] rfl rfl ⟨rfl, trivial⟩ ?_
    exact ⟨_, rfl, (S1.pick [] [] (by decide) trivial), (by show Value.int _ _ = _; unfold sgn; first | (rw [if_pos (by assumption)]) | (rw [if_neg (by simp [*])]))⟩
  · refine ws_skip rfl ?_
    refine nm_sub [] trivial ?_
    refine nm_thn ?_
    refine ws_seqN Sign_n11 Sign_n12 rfl rfl rfl ?_
    refine ws_region rfl ?_
    refine wl_op (k := 0) (k' := 1) rfl rfl rfl (wo_run rfl rfl (run_assign rfl rfl) ?_)
    refine wl_end rfl ?_
    refine nm_thn ?_
    refine ws_ret hC [_] rfl rfl ⟨rfl, trivial⟩ ?_
    exact ⟨_, rfl, (S1.pick [] [] (by decide) trivial), (by show Value.int _ _ = _; unfold sgn; first | (rw [if_pos (by assumption)]) | (rw [if_neg (by simp [*])]))⟩

noncomputable def signOf_n0 : Code := Try.f79.body.getD .skip
noncomputable def signOf_n1 : Code := cL signOf_n0
noncomputable def signOf_n2 : Code := cR signOf_n0
noncomputable def signOf_n3 : Code := cL signOf_n2
noncomputable def signOf_n4 : Code := cR signOf_n2
noncomputable def signOf_n5 : Code := cL signOf_n3
noncomputable def signOf_n6 : Code := cR signOf_n3
noncomputable def signOf_n7 : Code := cL signOf_n6
noncomputable def signOf_n8 : Code := cR signOf_n6
noncomputable def signOf_n9 : Code := cL signOf_n7
noncomputable def signOf_n10 : Code := cR signOf_n7
noncomputable def signOf_n11 : Code := cL signOf_n4
noncomputable def signOf_n12 : Code := cR signOf_n4
set_option maxRecDepth 10000 in
theorem signOf_q {w : World} {M : Hp} {X : Fr} (x : Cr) (S : SH w M X []) : Cq Try.prog 79 [.agg [.int .i64 x.a, .int .i64 x.b, .int .i64 x.c, .int .i64 x.d, .bool x.plus].toArray] w M X (fun u => u = .int .i64 (sgn x)) := by
  unfold Cq
  refine calls_in (b := signOf_n0) Try.func79 rfl Try.ntmps79 rfl (fun C hC => ?_)
  refine ws_sub [(0, _)] ⟨rfl, trivial⟩ ?_
  refine ws_seqN signOf_n1 signOf_n2 rfl rfl rfl ?_
  refine ws_region rfl ?_
  refine wl_op (k := 0) (k' := 1) rfl rfl rfl (wo_box (l := [_, _, _, _, _]) rfl rfl rfl rfl rfl S ?_)
  intro gb1 w1 S1; clear S
  refine wl_op (k := 1) (k' := 2) rfl rfl rfl (wo_run rfl rfl (run_assign rfl rfl) ?_)
  refine wl_end rfl ?_
  refine nm_sub [(1, _)] ⟨rfl, trivial⟩ ?_
  refine nm_thn ?_
  refine ws_seqN signOf_n3 signOf_n4 rfl rfl rfl ?_
  refine ws_seqN signOf_n5 signOf_n6 rfl rfl rfl ?_
  refine ws_region rfl ?_
  refine wl_op (k := 0) (k' := 1) rfl rfl rfl (wo_run rfl rfl (run_fieldAddr rfl rfl Try.underlying73 rfl (ce4) (nf4)) ?_)
  refine wl_op (k := 1) (k' := 2) rfl rfl rfl (wo_run rfl rfl (run_load1 rfl rfl Try.underlying4 rfl (S1.boxc (i := 0) rfl rfl)) ?_)
  refine wl_end rfl ?_
  refine nm_sub [(4, _)] ⟨rfl, trivial⟩ ?_
  refine nm_thn ?_
  refine ws_condN signOf_n7 signOf_n8 rfl rfl rfl rfl (fun hb4 => ?_) (fun hb4 => ?_)
  · refine ws_seqN signOf_n9 signOf_n10 rfl rfl rfl ?_
    refine ws_region rfl ?_
    refine wl_op (k := 0) (k' := 1) rfl rfl rfl (wo_run rfl rfl (run_assign rfl rfl) ?_)
    refine wl_end rfl ?_
    refine nm_sub [(2, _)] ⟨rfl, trivial⟩ ?_
    refine nm_thn ?_
    refine ws_ret hC [_] rfl rfl ⟨rfl, trivial⟩ ?_
    exact ⟨_, rfl, (S1.pick [] [] (by decide) trivial), (by show Value.int _ _ = _; unfold sgn; first | (rw [if_pos (by assumption)]) | (rw [if_neg (by simp [*])]))⟩
  · refine ws_skip rfl ?_
    refine nm_sub [] trivial ?_
    refine nm_thn ?_
    refine ws_seqN signOf_n11 signOf_n12 rfl rfl rfl ?_
    refine ws_region rfl ?_
    refine wl_op (k := 0) (k' := 1) rfl rfl rfl (wo_run rfl rfl (run_assign rfl rfl) ?_)
    refine wl_end rfl ?_
    refine nm_thn ?_
    refine ws_ret hC [_] rfl rfl ⟨rfl, trivial⟩ ?_
    exact ⟨_, rfl, (S1.pick [] [] (by decide) trivial), (by show Value.int _ _ = _; unfold sgn; first | (rw [if_pos (by assumption)]) | (rw [if_neg (by simp [*])]))⟩

noncomputable def Turns_n0 : Code := Try.f77.body.getD .skip
noncomputable def Turns_n1 : Code := cL Turns_n0
noncomputable def Turns_n2 : Code := cR Turns_n0
noncomputable def Turns_n3 : Code := cL Turns_n2
noncomputable def Turns_n4 : Code := cR Turns_n2
noncomputable def Turns_n5 : Code := cL Turns_n4
noncomputable def Turns_n6 : Code := cR Turns_n4
noncomputable def Turns_n7 : Code := cL Turns_n5
noncomputable def Turns_n8 : Code := cR Turns_n5
noncomputable def Turns_n9 : Code := cL Turns_n8
noncomputable def Turns_n10 : Code := cL Turns_n9
noncomputable def Turns_n11 : Code := cL Turns_n10
noncomputable def Turns_n12 : Code := cR Turns_n10
noncomputable def Turns_n13 : Code := cL Turns_n12
noncomputable def Turns_n14 : Code := cR Turns_n12
noncomputable def Turns_n15 : Code := cL Turns_n13
noncomputable def Turns_n16 : Code := cR Turns_n13
noncomputable def Turns_n17 : Code := cL Turns_n14
noncomputable def Turns_n18 : Code := cR Turns_n14
noncomputable def Turns_n19 : Code := cL Turns_n17
noncomputable def Turns_n20 : Code := cL Turns_n19
noncomputable def Turns_n21 : Code := cR Turns_n19
noncomputable def Turns_n22 : Code := cL Turns_n6
noncomputable def Turns_n23 : Code := cR Turns_n6
set_option maxRecDepth 10000 in
theorem Turns_q {w : World} {M : Hp} {X : Fr} (d : Dg) {gsh : Nat} {cA iA oA : Option Addr} {cc ic oc : Nat} (hsb : BxM (M.un X.h) gsh 81 [.slice cA d.crs.length cc, .int .i64 d.loops, .slice iA (tabL d false (4 * d.crs.length)).length ic, .slice oA (tabL d true (4 * d.crs.length)).length oc]) (hsc : RdA cdCr (M.un X.h) cA cc d.crs) (hsi : RdA cdPl (M.un X.h) iA ic (tabL d false (4 * d.crs.length))) (hso : RdA cdPl (M.un X.h) oA oc (tabL d true (4 * d.crs.length))) (hn : d.crs.length ≤ 16) (S : SH w M X []) : Cq Try.prog 77 [.pointer (some ⟨gsh, 0, none⟩)] w M X (fun u => u = .int .i64 (turns d)) := by
  unfold Cq
  refine calls_in (b := Turns_n0) Try.func77 rfl Try.ntmps77 rfl (fun C hC => ?_)
  refine ws_sub [(0, _)] ⟨rfl, trivial⟩ ?_
  refine ws_seqN Turns_n1 Turns_n2 rfl rfl rfl ?_
  refine ws_region rfl ?_
  refine wl_op (k := 0) (k' := 1) rfl rfl rfl (wo_run rfl rfl (run_assign rfl rfl) ?_)
  refine wl_end rfl ?_
  refine nm_sub [(0, _)] ⟨rfl, trivial⟩ ?_
  refine nm_thn ?_
  refine ws_seqN Turns_n3 Turns_n4 rfl rfl rfl ?_
  refine ws_region rfl ?_
  refine wl_op (k := 0) (k' := 1) rfl rfl rfl (wo_run rfl rfl (run_assign rfl rfl) ?_)
  refine wl_end rfl ?_
  refine nm_thn ?_
  refine ws_seqN Turns_n5 Turns_n6 rfl rfl rfl ?_
  refine ws_seqN Turns_n7 Turns_n8 rfl rfl rfl ?_
  refine ws_region rfl ?_
  refine wl_op (k := 0) (k' := 1) rfl rfl rfl (wo_run rfl rfl (run_move rfl rfl) ?_)
  refine wl_op (k := 1) (k' := 2) rfl rfl rfl (wo_run rfl rfl (run_nilCheck rfl rfl) ?_)
  refine wl_op (k := 2) (k' := 3) rfl rfl rfl (wo_run rfl rfl (run_fieldAddr rfl rfl Try.underlying81 rfl (ce27) (nf27)) ?_)
  refine wl_op (k := 3) (k' := 4) rfl rfl rfl (wo_run rfl rfl (run_fieldAddr rfl rfl Try.underlying27 rfl (ce25) (nf25)) ?_)
  refine wl_op (k := 4) (k' := 5) rfl rfl rfl (wo_run rfl rfl (run_load1 rfl rfl Try.underlying25 rfl (hsb.cell S.um rfl)) ?_)
  refine wl_op (k := 5) (k' := 6) rfl rfl rfl (wo_run rfl rfl (run_len rfl rfl rfl rfl rfl rfl Try.underlying25) ?_)
  refine wl_op (k := 6) (k' := 7) rfl rfl rfl (wo_run rfl rfl (run_move rfl rfl) ?_)
  refine wl_end rfl ?_
  refine nm_sub [(3, _), (10, _), (11, _), (12, _)] ⟨rfl, rfl, rfl, rfl, trivial⟩ ?_
  refine nm_thn ?_
  refine ws_blockN Turns_n9 0 rfl rfl rfl ?_
  refine ws_loopE (fun mx_ ax_ wx_ => ∃ (k : Nat) (m : Int), mx_ = d.crs.length - k ∧ Env 22 [(3, .int .i64 m), (10, .slice cA d.crs.length cc), (11, .int .i64 (d.crs.length : Int)), (12, .int .i64 (k : Int))] ax_ ∧ SH wx_ M X [] ∧ k ≤ d.crs.length ∧ m = turnN d k) rfl ?_ ?_
  · intro ax_ hax_
    refine ⟨_, ⟨0, _, rfl, hax_.sub ⟨rfl, rfl, rfl, rfl, trivial⟩, S.pick [] [] (by decide) trivial, ?hq1f0, ?hq1f1⟩⟩
    case hq1f0 => omega
    case hq1f1 => rfl
  · rintro m1 a1 w1 ⟨k, m, rfl, he1, S1, hk, hm⟩
    clear S
    refine ws_in he1 (c := Turns_n10) rfl ?_
    clear he1 a1
    have hbd := turnN_bd d k
    have hbd2 := turnN_bd d (k + 1)
    rw [turnN] at hbd2
    refine ws_seqN Turns_n11 Turns_n12 rfl rfl rfl ?_
    refine ws_region rfl ?_
    refine wl_op (k := 0) (k' := 1) rfl rfl rfl (wo_run rfl rfl (run_lss rfl rfl rfl) ?_)
    refine wl_end rfl ?_
    refine nm_thn ?_
    refine ws_seqN Turns_n13 Turns_n14 rfl rfl rfl ?_
    refine ws_condN Turns_n15 Turns_n16 rfl rfl rfl rfl (fun hb13 => ?_) (fun hb13 => ?_)
    · have hb13 := of_decide_eq_true hb13
      refine ws_skip rfl ?_
      refine nm_sub [(3, _), (10, _), (11, _), (12, _)] ⟨rfl, rfl, rfl, rfl, trivial⟩ ?_
      refine nm_thn ?_
      refine ws_seqN Turns_n17 Turns_n18 rfl rfl rfl ?_
      refine ws_blockN Turns_n19 1 rfl rfl rfl ?_
      refine ws_seqN Turns_n20 Turns_n21 rfl rfl rfl ?_
      refine ws_region rfl ?_
      refine wl_op (k := 0) (k' := 1) rfl rfl rfl (wo_run rfl rfl (run_indexM (C := cdCr) k rfl rfl rfl sl25 (by first | rfl | omega) hsc (by first | omega | (simp only [List.length_set, List.length_append, List.length_replicate, List.length_singleton, List.length_cons, List.length_nil]; omega))) ?_)
      refine wl_op (k := 1) (k' := 2) rfl rfl rfl (wo_run rfl rfl (run_loadN (us := [_, _, _, _, _]) rfl rfl Try.underlying73 rfl sz73 (hsc.cellsAt S1.um (e := k) (by first | omega | (simp only [List.length_set, List.length_append, List.length_replicate, List.length_singleton, List.length_cons, List.length_nil]; omega)) (j := 0) ⟨rfl, rfl, rfl, rfl, rfl, trivial⟩)) ?_)
      refine wl_op (k := 2) (k' := 3) rfl rfl rfl (wo_alloc (l := [_, _, _, _, _]) rfl rfl rfl zr73 rfl S1 ?_)
      intro gb1 w2 S2; clear S1
      refine wl_op (k := 3) (k' := 4) rfl rfl rfl (wo_storeB (i := 0) (us := [_, _, _, _, _]) (l' := [_, _, _, _, _]) (H' := [_]) rfl rfl S2 rfl rfl rfl rfl sz73 rfl rfl rfl rfl ?_)
      intro w3 S3; clear S2
      refine wl_end rfl ?_
      refine nm_sub [(3, _), (10, _), (11, _), (12, _), (5, _)] ⟨rfl, rfl, rfl, rfl, rfl, trivial⟩ ?_
      refine nm_thn ?_
      refine ws_region rfl ?_
      refine wl_op (k := 0) (k' := 1) rfl rfl rfl (wo_run rfl rfl (run_move rfl rfl) ?_)
      refine wl_op (k := 1) (k' := 2) rfl rfl rfl (wo_run rfl rfl (run_loadN (us := [_, _, _, _, _]) rfl rfl Try.underlying73 rfl sz73 (S3.boxcs (i := 0) rfl ⟨rfl, rfl, rfl, rfl, rfl, trivial⟩)) ?_)
      refine wl_op (k := 2) (k' := 3) rfl rfl rfl (wo_cq rfl rfl rfl rfl rfl rfl rfl cf78 S3 (Sign_q (ga d.crs k)  S3.lend) ?_)
      rintro _ w4 S4 rfl; clear S3
      refine wl_op (k := 3) (k' := 4) rfl rfl rfl (wo_run rfl rfl (run_add rfl rfl rfl (by first | omega | (simp only [List.length_set, List.length_append, List.length_replicate, List.length_singleton, List.length_cons, List.length_nil]; omega))) ?_)
      refine wl_op (k := 4) (k' := 5) rfl rfl rfl (wo_run rfl rfl (run_assign rfl rfl) ?_)
      refine wl_end rfl ?_
      refine nm_blk ?_
      refine nm_sub [(3, _), (10, _), (11, _), (12, _)] ⟨rfl, rfl, rfl, rfl, trivial⟩ ?_
      refine nm_thn ?_
      refine ws_region rfl ?_
      refine wl_op (k := 0) (k' := 1) rfl rfl rfl (wo_run rfl rfl (run_add rfl rfl rfl (by first | omega | (simp only [List.length_set, List.length_append, List.length_replicate, List.length_singleton, List.length_cons, List.length_nil]; omega))) ?_)
      refine wl_op (k := 1) (k' := 2) rfl rfl rfl (wo_run rfl rfl (run_move rfl rfl) ?_)
      refine wl_end rfl ?_
      refine nm_lp ?_
      intro ax_ hax_
      refine ⟨_, ?hq2m, ⟨k + 1, _, rfl, hax_.sub ⟨rfl, rfl, rfl, rfl, trivial⟩, S4.pick [] [] (by decide) trivial, ?hq2f0, ?hq2f1⟩⟩
      case hq2f0 => omega
      case hq2f1 => (rw [hm]; rfl)
      case hq2m => omega
    · have hb13 := of_decide_eq_false hb13
      refine ws_exit rfl rfl ?_
      refine nm_sub [(3, _)] ⟨rfl, trivial⟩ ?_
      refine nm_thn ?_
      refine ws_seqN Turns_n22 Turns_n23 rfl rfl rfl ?_
      refine ws_region rfl ?_
      refine wl_op (k := 0) (k' := 1) rfl rfl rfl (wo_run rfl rfl (run_move rfl rfl) ?_)
      refine wl_op (k := 1) (k' := 2) rfl rfl rfl (wo_run rfl rfl (run_assign rfl rfl) ?_)
      refine wl_end rfl ?_
      refine nm_sub [(2, _)] ⟨rfl, trivial⟩ ?_
      refine nm_thn ?_
      refine ws_ret hC [_] rfl rfl ⟨rfl, trivial⟩ ?_
      exact ⟨_, rfl, (S1.pick [] [] (by decide) trivial), (by obtain rfl : k = d.crs.length := (by omega); rw [hm]; rfl)⟩

noncomputable def WritheOf_n0 : Code := Try.f47.body.getD .skip
noncomputable def WritheOf_n1 : Code := cL WritheOf_n0
noncomputable def WritheOf_n2 : Code := cR WritheOf_n0
noncomputable def WritheOf_n3 : Code := cL WritheOf_n2
noncomputable def WritheOf_n4 : Code := cR WritheOf_n2
noncomputable def WritheOf_n5 : Code := cL WritheOf_n4
noncomputable def WritheOf_n6 : Code := cR WritheOf_n4
noncomputable def WritheOf_n7 : Code := cL WritheOf_n5
noncomputable def WritheOf_n8 : Code := cR WritheOf_n5
noncomputable def WritheOf_n9 : Code := cL WritheOf_n8
noncomputable def WritheOf_n10 : Code := cL WritheOf_n9
noncomputable def WritheOf_n11 : Code := cL WritheOf_n10
noncomputable def WritheOf_n12 : Code := cR WritheOf_n10
noncomputable def WritheOf_n13 : Code := cL WritheOf_n11
noncomputable def WritheOf_n14 : Code := cR WritheOf_n11
noncomputable def WritheOf_n15 : Code := cL WritheOf_n14
noncomputable def WritheOf_n16 : Code := cR WritheOf_n14
noncomputable def WritheOf_n17 : Code := cL WritheOf_n12
noncomputable def WritheOf_n18 : Code := cR WritheOf_n12
noncomputable def WritheOf_n19 : Code := cL WritheOf_n17
noncomputable def WritheOf_n20 : Code := cL WritheOf_n6
noncomputable def WritheOf_n21 : Code := cR WritheOf_n6
set_option maxRecDepth 10000 in
theorem WritheOf_q {w : World} {M : Hp} {X : Fr} (d : Dg) {dcrsA : Option Addr} {dcrsc : Nat} (hdcrs : RdA cdCr (M.un X.h) dcrsA dcrsc d.crs) (hn : d.crs.length ≤ 16) (S : SH w M X []) : Cq Try.prog 47 [.agg [.slice dcrsA d.crs.length dcrsc, .int .i64 d.loops].toArray] w M X (fun u => u = .int .i64 (turns d)) := by
  unfold Cq
  have rmhdcrs : d.crs.length * 40 ≤ 140737488355328 := hdcrs.room
  refine calls_in (b := WritheOf_n0) Try.func47 rfl Try.ntmps47 rfl (fun C hC => ?_)
  refine ws_sub [(0, _)] ⟨rfl, trivial⟩ ?_
  refine ws_seqN WritheOf_n1 WritheOf_n2 rfl rfl rfl ?_
  refine ws_region rfl ?_
  refine wl_op (k := 0) (k' := 1) rfl rfl rfl (wo_box (l := [_, _]) rfl rfl rfl rfl rfl S ?_)
  intro gb1 w1 S1; clear S
  refine wl_op (k := 1) (k' := 2) rfl rfl rfl (wo_run rfl rfl (run_assign rfl rfl) ?_)
  refine wl_end rfl ?_
  refine nm_sub [(1, _)] ⟨rfl, trivial⟩ ?_
  refine nm_thn ?_
  refine ws_seqN WritheOf_n3 WritheOf_n4 rfl rfl rfl ?_
  refine ws_region rfl ?_
  refine wl_op (k := 0) (k' := 1) rfl rfl rfl (wo_run rfl rfl (run_assign rfl rfl) ?_)
  refine wl_end rfl ?_
  refine nm_thn ?_
  refine ws_seqN WritheOf_n5 WritheOf_n6 rfl rfl rfl ?_
  refine ws_seqN WritheOf_n7 WritheOf_n8 rfl rfl rfl ?_
  refine ws_region rfl ?_
  refine wl_op (k := 0) (k' := 1) rfl rfl rfl (wo_run rfl rfl (run_assign rfl rfl) ?_)
  refine wl_end rfl ?_
  refine nm_thn ?_
  refine ws_blockN WritheOf_n9 0 rfl rfl rfl ?_
  refine ws_loopE (fun mx_ ax_ wx_ => ∃ (k : Nat) (m : Int), mx_ = d.crs.length - k ∧ Env 21 [(1, .pointer (some ⟨gb1, 0, none⟩)), (3, .int .i64 m), (4, .int .i64 (k : Int))] ax_ ∧ SH wx_ M X [Rs.box gb1 27 [.slice dcrsA d.crs.length dcrsc, .int .i64 d.loops]] ∧ k ≤ d.crs.length ∧ m = turnN d k) rfl ?_ ?_
  · intro ax_ hax_
    refine ⟨_, ⟨0, _, rfl, hax_.sub ⟨rfl, rfl, rfl, trivial⟩, S1.pick [0] [_] (by decide) ⟨rfl, trivial⟩, ?hq1f0, ?hq1f1⟩⟩
    case hq1f0 => omega
    case hq1f1 => rfl
  · rintro m1 a1 w2 ⟨k, m, rfl, he1, S2, hk, hm⟩
    clear S1
    refine ws_in he1 (c := WritheOf_n10) rfl ?_
    clear he1 a1
    have hbd := turnN_bd d k
    have hbd2 := turnN_bd d (k + 1)
    rw [turnN] at hbd2
    refine ws_seqN WritheOf_n11 WritheOf_n12 rfl rfl rfl ?_
    refine ws_seqN WritheOf_n13 WritheOf_n14 rfl rfl rfl ?_
    refine ws_region rfl ?_
    refine wl_op (k := 0) (k' := 1) rfl rfl rfl (wo_run rfl rfl (run_move rfl rfl) ?_)
    refine wl_op (k := 1) (k' := 2) rfl rfl rfl (wo_run rfl rfl (run_fieldAddr rfl rfl Try.underlying27 rfl (ce25) (nf25)) ?_)
    refine wl_op (k := 2) (k' := 3) rfl rfl rfl (wo_run rfl rfl (run_load1 rfl rfl Try.underlying25 rfl (S2.boxc (i := 0) rfl rfl)) ?_)
    refine wl_op (k := 3) (k' := 4) rfl rfl rfl (wo_run rfl rfl (run_len rfl rfl rfl rfl rfl rfl Try.underlying25) ?_)
    refine wl_op (k := 4) (k' := 5) rfl rfl rfl (wo_run rfl rfl (run_lss rfl rfl rfl) ?_)
    refine wl_end rfl ?_
    refine nm_sub [(1, _), (3, _), (4, _), (9, _)] ⟨rfl, rfl, rfl, rfl, trivial⟩ ?_
    refine nm_thn ?_
    refine ws_condN WritheOf_n15 WritheOf_n16 rfl rfl rfl rfl (fun hb9 => ?_) (fun hb9 => ?_)
    · have hb9 := of_decide_eq_true hb9
      refine ws_skip rfl ?_
      refine nm_sub [(1, _), (3, _), (4, _)] ⟨rfl, rfl, rfl, trivial⟩ ?_
      refine nm_thn ?_
      refine ws_seqN WritheOf_n17 WritheOf_n18 rfl rfl rfl ?_
      refine ws_blockN WritheOf_n19 1 rfl rfl rfl ?_
      refine ws_region rfl ?_
      refine wl_op (k := 0) (k' := 1) rfl rfl rfl (wo_run rfl rfl (run_move rfl rfl) ?_)
      refine wl_op (k := 1) (k' := 2) rfl rfl rfl (wo_run rfl rfl (run_fieldAddr rfl rfl Try.underlying27 rfl (ce25) (nf25)) ?_)
      refine wl_op (k := 2) (k' := 3) rfl rfl rfl (wo_run rfl rfl (run_load1 rfl rfl Try.underlying25 rfl (S2.boxc (i := 0) rfl rfl)) ?_)
      refine wl_op (k := 3) (k' := 4) rfl rfl rfl (wo_run rfl rfl (run_move rfl rfl) ?_)
      refine wl_op (k := 4) (k' := 5) rfl rfl rfl (wo_run rfl rfl (run_indexM (C := cdCr) k rfl rfl rfl sl25 (by first | rfl | omega) hdcrs (by first | omega | (simp only [List.length_set, List.length_append, List.length_replicate, List.length_singleton, List.length_cons, List.length_nil]; omega))) ?_)
      refine wl_op (k := 5) (k' := 6) rfl rfl rfl (wo_run rfl rfl (run_loadN (us := [_, _, _, _, _]) rfl rfl Try.underlying73 rfl sz73 (hdcrs.cellsAt S2.um (e := k) (by first | omega | (simp only [List.length_set, List.length_append, List.length_replicate, List.length_singleton, List.length_cons, List.length_nil]; omega)) (j := 0) ⟨rfl, rfl, rfl, rfl, rfl, trivial⟩)) ?_)
      refine wl_op (k := 6) (k' := 7) rfl rfl rfl (wo_cq rfl rfl rfl rfl rfl rfl rfl cf79 S2 (signOf_q (ga d.crs k)  S2.lend) ?_)
      rintro _ w3 S3 rfl; clear S2
      refine wl_op (k := 7) (k' := 8) rfl rfl rfl (wo_run rfl rfl (run_add rfl rfl rfl (by first | omega | (simp only [List.length_set, List.length_append, List.length_replicate, List.length_singleton, List.length_cons, List.length_nil]; omega))) ?_)
      refine wl_op (k := 8) (k' := 9) rfl rfl rfl (wo_run rfl rfl (run_assign rfl rfl) ?_)
      refine wl_end rfl ?_
      refine nm_blk ?_
      refine nm_sub [(1, _), (3, _), (4, _)] ⟨rfl, rfl, rfl, trivial⟩ ?_
      refine nm_thn ?_
      refine ws_region rfl ?_
      refine wl_op (k := 0) (k' := 1) rfl rfl rfl (wo_run rfl rfl (run_move rfl rfl) ?_)
      refine wl_op (k := 1) (k' := 2) rfl rfl rfl (wo_run rfl rfl (run_add rfl rfl rfl (by first | omega | (simp only [List.length_set, List.length_append, List.length_replicate, List.length_singleton, List.length_cons, List.length_nil]; omega))) ?_)
      refine wl_op (k := 2) (k' := 3) rfl rfl rfl (wo_run rfl rfl (run_assign rfl rfl) ?_)
      refine wl_end rfl ?_
      refine nm_lp ?_
      intro ax_ hax_
      refine ⟨_, ?hq2m, ⟨k + 1, _, rfl, hax_.sub ⟨rfl, rfl, rfl, trivial⟩, S3.pick [0] [_] (by decide) ⟨rfl, trivial⟩, ?hq2f0, ?hq2f1⟩⟩
      case hq2f0 => omega
      case hq2f1 => (rw [hm]; rfl)
      case hq2m => omega
    · have hb9 := of_decide_eq_false hb9
      refine ws_exit rfl rfl ?_
      refine nm_sub [(3, _)] ⟨rfl, trivial⟩ ?_
      refine nm_thn ?_
      refine ws_seqN WritheOf_n20 WritheOf_n21 rfl rfl rfl ?_
      refine ws_region rfl ?_
      refine wl_op (k := 0) (k' := 1) rfl rfl rfl (wo_run rfl rfl (run_move rfl rfl) ?_)
      refine wl_op (k := 1) (k' := 2) rfl rfl rfl (wo_run rfl rfl (run_assign rfl rfl) ?_)
      refine wl_end rfl ?_
      refine nm_sub [(2, _)] ⟨rfl, trivial⟩ ?_
      refine nm_thn ?_
      refine ws_ret hC [_] rfl rfl ⟨rfl, trivial⟩ ?_
      exact ⟨_, rfl, (S2.pick [] [] (by decide) trivial), (by obtain rfl : k = d.crs.length := (by omega); rw [hm]; rfl)⟩

noncomputable def Writhe_n0 : Code := Try.f44.body.getD .skip
noncomputable def Writhe_n1 : Code := cL Writhe_n0
noncomputable def Writhe_n2 : Code := cR Writhe_n0
noncomputable def Writhe_n3 : Code := cL Writhe_n2
noncomputable def Writhe_n4 : Code := cR Writhe_n2
noncomputable def Writhe_n5 : Code := cL Writhe_n4
noncomputable def Writhe_n6 : Code := cR Writhe_n4
noncomputable def Writhe_n7 : Code := cL Writhe_n5
noncomputable def Writhe_n8 : Code := cR Writhe_n5
noncomputable def Writhe_n9 : Code := cL Writhe_n8
noncomputable def Writhe_n10 : Code := cR Writhe_n8
noncomputable def Writhe_n11 : Code := cL Writhe_n9
noncomputable def Writhe_n12 : Code := cR Writhe_n9
noncomputable def Writhe_n13 : Code := cL Writhe_n6
noncomputable def Writhe_n14 : Code := cR Writhe_n6
set_option maxRecDepth 10000 in
theorem Writhe_t {w : World} {M : Hp} {X : Fr} (d : Dg) {dcrsA : Option Addr} {dcrsc : Nat} (hdcrs : RdA cdCr (M.un X.h) dcrsA dcrsc d.crs) (S : SH w M X []) : Ct Try.prog 44 [.agg [.slice dcrsA d.crs.length dcrsc, .int .i64 d.loops].toArray] w M X (fun u _ => u = .tuple [.int .i64 (writheR d), .int .i64 (errO d)].toArray) := by
  unfold Ct
  have rmhdcrs : d.crs.length * 40 ≤ 140737488355328 := hdcrs.room
  refine calls_in (b := Writhe_n0) Try.func44 rfl Try.ntmps44 rfl (fun C hC => ?_)
  refine ws_sub [(0, _)] ⟨rfl, trivial⟩ ?_
  refine ws_seqN Writhe_n1 Writhe_n2 rfl rfl rfl ?_
  refine ws_region rfl ?_
  refine wl_op (k := 0) (k' := 1) rfl rfl rfl (wo_box (l := [_, _]) rfl rfl rfl rfl rfl S ?_)
  intro gb1 w1 S1; clear S
  refine wl_op (k := 1) (k' := 2) rfl rfl rfl (wo_run rfl rfl (run_assign rfl rfl) ?_)
  refine wl_op (k := 2) (k' := 3) rfl rfl rfl (wo_run rfl rfl (run_assign rfl rfl) ?_)
  refine wl_end rfl ?_
  refine nm_sub [(1, _)] ⟨rfl, trivial⟩ ?_
  refine nm_thn ?_
  refine ws_seqN Writhe_n3 Writhe_n4 rfl rfl rfl ?_
  refine ws_region rfl ?_
  refine wl_op (k := 0) (k' := 1) rfl rfl rfl (wo_run rfl rfl (run_loadN (us := [_, _]) rfl rfl Try.underlying27 rfl sz27 (S1.boxcs (i := 0) rfl ⟨rfl, rfl, trivial⟩)) ?_)
  refine wl_op (k := 1) (k' := 2) rfl rfl rfl (wo_ct rfl rfl rfl rfl rfl rfl rfl cf71 S1 (Open_t d (hdcrs.mono S1.un_XH) S1.lend) ?_)
  intro vw2 w2 M1 hle1 S2 hRw2; clear S1
  replace hdcrs := hdcrs.mono (Hp.un_mono hle1 S2.mx)
  rcases hRw2 with ⟨hopn8, rfl⟩ | ⟨hopn8, g1, cA8, iA8, oA8, cc8, ic8, oc8, rfl, hsb8, hsc8, hsi8, hso8⟩
  · refine wl_op (k := 2) (k' := 3) rfl rfl rfl (wo_run rfl rfl (run_move rfl rfl) ?_)
    refine wl_op (k := 3) (k' := 4) rfl rfl rfl (wo_run rfl rfl (run_extract rfl rfl rfl) ?_)
    refine wl_op (k := 4) (k' := 5) rfl rfl rfl (wo_run rfl rfl (run_extract rfl rfl rfl) ?_)
    refine wl_op (k := 5) (k' := 6) rfl rfl rfl (wo_run rfl rfl (run_assign rfl rfl) ?_)
    refine wl_op (k := 6) (k' := 7) rfl rfl rfl (wo_run rfl rfl (run_assign rfl rfl) ?_)
    refine wl_end rfl ?_
    refine nm_sub [(4, _), (5, _)] ⟨rfl, rfl, trivial⟩ ?_
    refine nm_thn ?_
    refine ws_seqN Writhe_n5 Writhe_n6 rfl rfl rfl ?_
    refine ws_seqN Writhe_n7 Writhe_n8 rfl rfl rfl ?_
    refine ws_region rfl ?_
    refine wl_op (k := 0) (k' := 1) rfl rfl rfl (wo_run rfl rfl (run_move rfl rfl) ?_)
    refine wl_op (k := 1) (k' := 2) rfl rfl rfl (wo_run rfl rfl (run_neq rfl rfl rfl) ?_)
    refine wl_end rfl ?_
    refine nm_sub [(4, _), (5, _), (12, _)] ⟨rfl, rfl, rfl, trivial⟩ ?_
    refine nm_thn ?_
    refine ws_condN Writhe_n9 Writhe_n10 rfl rfl rfl rfl (fun hb12 => ?_) (fun hb12 => ?_)
    · have hb12 := of_decide_eq_true hb12
      refine ws_seqN Writhe_n11 Writhe_n12 rfl rfl rfl ?_
      refine ws_region rfl ?_
      refine wl_op (k := 0) (k' := 1) rfl rfl rfl (wo_run rfl rfl (run_move rfl rfl) ?_)
      refine wl_op (k := 1) (k' := 2) rfl rfl rfl (wo_run rfl rfl (run_assign rfl rfl) ?_)
      refine wl_op (k := 2) (k' := 3) rfl rfl rfl (wo_run rfl rfl (run_assign rfl rfl) ?_)
      refine wl_end rfl ?_
      refine nm_sub [(2, _), (3, _)] ⟨rfl, rfl, trivial⟩ ?_
      refine nm_thn ?_
      refine ws_ret hC [_, _] rfl rfl ⟨rfl, rfl, trivial⟩ ?_
      refine ⟨_, rfl, _, hle1, (S2.pick [] [] (by decide) trivial), ?_⟩
      have e1 : writheR d = 0 := by unfold writheR; rw [if_neg hopn8]
      rw [e1]
      rfl
    · have hb12 := of_decide_eq_false hb12
      exfalso; omega
  · obtain ⟨hmo, hpl⟩ := errO_ok hopn8
    obtain ⟨hn, hab, hlo0, hlo1⟩ := mayO hmo
    refine wl_op (k := 2) (k' := 3) rfl rfl rfl (wo_run rfl rfl (run_move rfl rfl) ?_)
    refine wl_op (k := 3) (k' := 4) rfl rfl rfl (wo_run rfl rfl (run_extract rfl rfl rfl) ?_)
    refine wl_op (k := 4) (k' := 5) rfl rfl rfl (wo_run rfl rfl (run_extract rfl rfl rfl) ?_)
    refine wl_op (k := 5) (k' := 6) rfl rfl rfl (wo_run rfl rfl (run_assign rfl rfl) ?_)
    refine wl_op (k := 6) (k' := 7) rfl rfl rfl (wo_run rfl rfl (run_assign rfl rfl) ?_)
    refine wl_end rfl ?_
    refine nm_sub [(4, _), (5, _)] ⟨rfl, rfl, trivial⟩ ?_
    refine nm_thn ?_
    refine ws_seqN Writhe_n5 Writhe_n6 rfl rfl rfl ?_
    refine ws_seqN Writhe_n7 Writhe_n8 rfl rfl rfl ?_
    refine ws_region rfl ?_
    refine wl_op (k := 0) (k' := 1) rfl rfl rfl (wo_run rfl rfl (run_move rfl rfl) ?_)
    refine wl_op (k := 1) (k' := 2) rfl rfl rfl (wo_run rfl rfl (run_neq rfl rfl rfl) ?_)
    refine wl_end rfl ?_
    refine nm_sub [(4, _), (5, _), (12, _)] ⟨rfl, rfl, rfl, trivial⟩ ?_
    refine nm_thn ?_
    refine ws_condN Writhe_n9 Writhe_n10 rfl rfl rfl rfl (fun hb12 => ?_) (fun hb12 => ?_)
    · have hb12 := of_decide_eq_true hb12
      exfalso; omega
    · have hb12 := of_decide_eq_false hb12
      refine ws_skip rfl ?_
      refine nm_sub [(4, _)] ⟨rfl, trivial⟩ ?_
      refine nm_thn ?_
      refine ws_seqN Writhe_n13 Writhe_n14 rfl rfl rfl ?_
      refine ws_region rfl ?_
      refine wl_op (k := 0) (k' := 1) rfl rfl rfl (wo_run rfl rfl (run_move rfl rfl) ?_)
      refine wl_op (k := 1) (k' := 2) rfl rfl rfl (wo_cq rfl rfl rfl rfl rfl rfl rfl cf77 S2 (Turns_q d (hsb8.mono (Hp.le_un _ _)) (hsc8.mono (Hp.le_un _ _)) (hsi8.mono (Hp.le_un _ _)) (hso8.mono (Hp.le_un _ _)) hn S2.lend) ?_)
      rintro _ w3 S3 rfl; clear S2
      refine wl_op (k := 2) (k' := 3) rfl rfl rfl (wo_run rfl rfl (run_assign rfl rfl) ?_)
      refine wl_op (k := 3) (k' := 4) rfl rfl rfl (wo_run rfl rfl (run_assign rfl rfl) ?_)
      refine wl_end rfl ?_
      refine nm_sub [(2, _), (3, _)] ⟨rfl, rfl, trivial⟩ ?_
      refine nm_thn ?_
      refine ws_ret hC [_, _] rfl rfl ⟨rfl, rfl, trivial⟩ ?_
      refine ⟨_, rfl, _, hle1, (S3.pick [] [] (by decide) trivial), ?_⟩
      have e1 : writheR d = turns d := by unfold writheR; rw [if_pos hopn8]
      rw [e1, hopn8]
      rfl

end Go.Proofs.Ytlbpgnimpcflaaa
