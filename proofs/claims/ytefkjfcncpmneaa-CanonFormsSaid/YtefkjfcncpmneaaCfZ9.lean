/- Part 9 of the proof of the law CanonForms: the walks through its functions and the plain laws that they need. -/
import Derived.Test.YtefkjfcncpmneaaCfZ8
import Derived.Lib.SmallJoins
import Derived.Deep.Slices
import Derived.Deep.Fields
import Derived.ChangeSame
set_option linter.unusedSimpArgs false
set_option linter.unusedVariables false
namespace Go.Proofs.Ytefkjfcncpmneaa
open Go.ChangeShapes Go.WideShapes Go.ChangeAt Go.RowKit
def CanT (d : Dg) (v : Value) (N : Hp) : Prop :=
 (mayB d = false ∧ v = .tuple [.agg [.slice none 0 0, .int .i64 0].toArray, .int .i64 7].toArray) ∨
 (mayB d = true ∧ ∃ A c, v = .tuple [.agg [.slice A (canD d).crs.length c, .int .i64 (canD d).loops].toArray, .int .i64 0].toArray ∧ RdA cdCr N A c (canD d).crs)
def SameT (a b : Dg) (v : Value) : Prop :=
 ((mayB a = false ∨ mayB b = false) ∧ v = .tuple [.bool false, .int .i64 7].toArray) ∨
 (mayB a = true ∧ mayB b = true ∧ v = .tuple [.bool (sameB (canD a) (canD b)), .int .i64 0].toArray)
theorem sameB_refl (a : Dg) : sameB a a = true := by unfold sameB; simp
theorem pcs_few {d : Dg} (hab : arcsB d = true) (hn : d.crs.length ≤ 16) : (pcsL d).length ≤ 16 := by
 rw [← rtC_all hab]; have := cn_le (isRt d) d.crs.length; unfold rtC; omega
noncomputable def Canon_n0 : Code := Try.f8.body.getD .skip
noncomputable def Canon_n1 : Code := cL Canon_n0
noncomputable def Canon_n2 : Code := cR Canon_n0
noncomputable def Canon_n3 : Code := cL Canon_n2
noncomputable def Canon_n4 : Code := cR Canon_n2
noncomputable def Canon_n5 : Code := cL Canon_n4
noncomputable def Canon_n6 : Code := cR Canon_n4
noncomputable def Canon_n7 : Code := cL Canon_n5
noncomputable def Canon_n8 : Code := cR Canon_n5
noncomputable def Canon_n9 : Code := cL Canon_n8
noncomputable def Canon_n10 : Code := cR Canon_n8
noncomputable def Canon_n11 : Code := cL Canon_n9
noncomputable def Canon_n12 : Code := cR Canon_n9
noncomputable def Canon_n13 : Code := cL Canon_n6
noncomputable def Canon_n14 : Code := cR Canon_n6
set_option maxRecDepth 10000 in
theorem Canon_t {w : World} {M : Hp} {X : Fr} (d : Dg) {dcrsA : Option Addr} {dcrsc : Nat} (hdcrs : RdA cdCr (M.un X.h) dcrsA dcrsc d.crs) (S : SH w M X []) : Ct Try.prog 8 [.agg [.slice dcrsA d.crs.length dcrsc, .int .i64 d.loops].toArray] w M X (CanT d) := by
 unfold Ct
 have rmhdcrs : d.crs.length * 40 ≤ 140737488355328 := hdcrs.room
 refine calls_in (b := Canon_n0) Try.func8 rfl Try.ntmps8 rfl (fun C hC => ?_)
 refine ws_sub [(0, _)] ⟨rfl, trivial⟩ ?_
 refine ws_seqN Canon_n1 Canon_n2 rfl rfl rfl ?_
 refine ws_region rfl ?_
 refine wlo 0 1 rfl rfl rfl (wo_box (l := [_, _]) rfl rfl rfl rfl rfl S ?_)
 intro gb1 w1 S1; clear S
 refine wlo 1 2 rfl rfl rfl (wo_alloc (l := [_, _]) rfl rfl rfl zr24 rfl S1 ?_)
 intro gb2 w2 S2; clear S1
 refine wla 2 3 rfl rfl rfl rfl rfl rfl rfl ?_
 refine wl_end rfl ?_
 refine nm_sub [(1, _), (2, _)] ⟨rfl, rfl, trivial⟩ ?_
 refine nm_thn ?_
 refine ws_seqN Canon_n3 Canon_n4 rfl rfl rfl ?_
 refine ws_region rfl ?_
 refine wlo 0 1 rfl rfl rfl (wo_run rfl rfl (run_loadN (us := [_, _]) rfl rfl Try.underlying24 rfl sz24 (S2.boxcs (i := 1) rfl ⟨rfl, rfl, trivial⟩)) ?_)
 refine wlo 1 2 rfl rfl rfl (wo_ct rfl rfl rfl rfl rfl rfl rfl cf27 S2 (New_t d (hdcrs.mono S2.un_XH) S2.lend) ?_)
 intro vw3 w3 M1 hle1 S3 hRw3; clear S2
 replace hdcrs := hdcrs.mono (Hp.un_mono hle1 S3.mx)
 rcases hRw3 with ⟨hmay8, rfl⟩ | ⟨hmay8, g1, cA8, iA8, oA8, cc8, ic8, oc8, rfl, hsb8, hsc8, hsi8, hso8⟩
 ·refine wlm 2 3 rfl rfl rfl rfl rfl rfl rfl ?_
  refine wlo 3 4 rfl rfl rfl (wo_run rfl rfl (run_extract rfl rfl rfl) ?_)
  refine wlo 4 5 rfl rfl rfl (wo_run rfl rfl (run_extract rfl rfl rfl) ?_)
  refine wla 5 6 rfl rfl rfl rfl rfl rfl rfl ?_
  refine wla 6 7 rfl rfl rfl rfl rfl rfl rfl ?_
  refine wl_end rfl ?_
  refine nm_sub [(2, _), (4, _), (5, _)] ⟨rfl, rfl, rfl, trivial⟩ ?_
  refine nm_thn ?_
  refine ws_seqN Canon_n5 Canon_n6 rfl rfl rfl ?_
  refine ws_seqN Canon_n7 Canon_n8 rfl rfl rfl ?_
  refine ws_region rfl ?_
  refine wlm 0 1 rfl rfl rfl rfl rfl rfl rfl ?_
  refine wlo 1 2 rfl rfl rfl (wo_run rfl rfl (run_not rfl rfl) ?_)
  refine wl_end rfl ?_
  refine nm_sub [(2, _), (4, _), (12, _)] ⟨rfl, rfl, rfl, trivial⟩ ?_
  refine nm_thn ?_
  refine ws_condTN Canon_n9 rfl rfl rfl ?_
  refine ws_seqN Canon_n11 Canon_n12 rfl rfl rfl ?_
  refine ws_region rfl ?_
  refine wlo 0 1 rfl rfl rfl (wo_run rfl rfl (run_build (l := [_, _]) rfl rfl st24 rfl rfl) ?_)
  refine wlo 1 2 rfl rfl rfl (wo_storeB (i := 0) (us := [_, _]) (l' := [_, _]) (H' := [_, _]) rfl rfl S3 rfl rfl rfl rfl sz24 rfl rfl rfl rfl ?_)
  intro w4 S4; clear S3
  refine wla 2 3 rfl rfl rfl rfl rfl rfl rfl ?_
  refine wl_end rfl ?_
  refine nm_sub [(2, _), (3, _)] ⟨rfl, rfl, trivial⟩ ?_
  refine nm_thn ?_
  refine ws_ret hC [_, _] rfl rfl ⟨⟨_, rfl, loadVarN (us := [_, _]) Try.underlying24 rfl sz24 (S4.boxcs (i := 0) rfl ⟨rfl, rfl, trivial⟩)⟩, rfl, trivial⟩ ?_
  refine ⟨_, rfl, _, hle1, (S4.pick [] [] (by decide) trivial), ?_⟩
  exact .inl ⟨hmay8, rfl⟩
 ·obtain ⟨hn, hab, hlo0, hlo1⟩ := mayO hmay8
  refine wlm 2 3 rfl rfl rfl rfl rfl rfl rfl ?_
  refine wlo 3 4 rfl rfl rfl (wo_run rfl rfl (run_extract rfl rfl rfl) ?_)
  refine wlo 4 5 rfl rfl rfl (wo_run rfl rfl (run_extract rfl rfl rfl) ?_)
  refine wla 5 6 rfl rfl rfl rfl rfl rfl rfl ?_
  refine wla 6 7 rfl rfl rfl rfl rfl rfl rfl ?_
  refine wl_end rfl ?_
  refine nm_sub [(2, _), (4, _), (5, _)] ⟨rfl, rfl, rfl, trivial⟩ ?_
  refine nm_thn ?_
  refine ws_seqN Canon_n5 Canon_n6 rfl rfl rfl ?_
  refine ws_seqN Canon_n7 Canon_n8 rfl rfl rfl ?_
  refine ws_region rfl ?_
  refine wlm 0 1 rfl rfl rfl rfl rfl rfl rfl ?_
  refine wlo 1 2 rfl rfl rfl (wo_run rfl rfl (run_not rfl rfl) ?_)
  refine wl_end rfl ?_
  refine nm_sub [(2, _), (4, _), (12, _)] ⟨rfl, rfl, rfl, trivial⟩ ?_
  refine nm_thn ?_
  refine ws_condFN Canon_n10 rfl rfl rfl ?_
  refine ws_skip rfl ?_
  refine nm_sub [(2, _), (4, _)] ⟨rfl, rfl, trivial⟩ ?_
  refine nm_thn ?_
  refine ws_seqN Canon_n13 Canon_n14 rfl rfl rfl ?_
  refine ws_region rfl ?_
  refine wlm 0 1 rfl rfl rfl rfl rfl rfl rfl ?_
  refine wlo 1 2 rfl rfl rfl (wo_ct rfl rfl rfl rfl rfl rfl rfl cf28 S3 (Form_t d (hsb8.mono (Hp.le_un _ _)) (hsc8.mono (Hp.le_un _ _)) (hsi8.mono (Hp.le_un _ _)) (hso8.mono (Hp.le_un _ _)) hn hab (pcs_few hab hn) S3.lend) ?_)
  intro vw5 w5 M2 hle2 S5 hRw5; clear S3
  replace hdcrs := hdcrs.mono (Hp.un_mono hle2 S5.mx)
  replace hsb8 := hsb8.mono hle2
  replace hsc8 := hsc8.mono hle2
  replace hsi8 := hsi8.mono hle2
  replace hso8 := hso8.mono hle2
  obtain ⟨A1, c1, rfl, hr1⟩ := hRw5
  refine wlo 2 3 rfl rfl rfl (wo_storeB (i := 0) (us := [_, _]) (l' := [_, _]) (H' := [_, _]) rfl rfl S5 rfl rfl rfl rfl sz24 rfl rfl rfl rfl ?_)
  intro w6 S6; clear S5
  refine wla 3 4 rfl rfl rfl rfl rfl rfl rfl ?_
  refine wl_end rfl ?_
  refine nm_sub [(2, _), (3, _)] ⟨rfl, rfl, trivial⟩ ?_
  refine nm_thn ?_
  refine ws_ret hC [_, _] rfl rfl ⟨⟨_, rfl, loadVarN (us := [_, _]) Try.underlying24 rfl sz24 (S6.boxcs (i := 0) rfl ⟨rfl, rfl, trivial⟩)⟩, rfl, trivial⟩ ?_
  refine ⟨_, rfl, _, hle1.trans hle2, (S6.pick [] [] (by decide) trivial), ?_⟩
  exact .inr ⟨hmay8, _, _, rfl, hr1⟩
noncomputable def Same_n0 : Code := Try.f10.body.getD .skip
noncomputable def Same_n1 : Code := cL Same_n0
noncomputable def Same_n2 : Code := cR Same_n0
noncomputable def Same_n3 : Code := cL Same_n2
noncomputable def Same_n4 : Code := cR Same_n2
noncomputable def Same_n5 : Code := cL Same_n4
noncomputable def Same_n6 : Code := cR Same_n4
noncomputable def Same_n7 : Code := cL Same_n6
noncomputable def Same_n8 : Code := cR Same_n6
noncomputable def Same_n9 : Code := cL Same_n7
noncomputable def Same_n10 : Code := cR Same_n7
noncomputable def Same_n11 : Code := cL Same_n10
noncomputable def Same_n12 : Code := cR Same_n10
noncomputable def Same_n13 : Code := cL Same_n11
noncomputable def Same_n14 : Code := cR Same_n11
noncomputable def Same_n15 : Code := cL Same_n8
noncomputable def Same_n16 : Code := cR Same_n8
set_option maxRecDepth 10000 in
theorem Same_t {w : World} {M : Hp} {X : Fr} (a : Dg) {acrsA : Option Addr} {acrsc : Nat} (b : Dg) {bcrsA : Option Addr} {bcrsc : Nat} (hacrs : RdA cdCr (M.un X.h) acrsA acrsc a.crs) (hbcrs : RdA cdCr (M.un X.h) bcrsA bcrsc b.crs) (S : SH w M X []) : Ct Try.prog 10 [.agg [.slice acrsA a.crs.length acrsc, .int .i64 a.loops].toArray, .agg [.slice bcrsA b.crs.length bcrsc, .int .i64 b.loops].toArray] w M X (fun u _ => SameT a b u) := by
 unfold Ct
 have rmhacrs : a.crs.length * 40 ≤ 140737488355328 := hacrs.room
 have rmhbcrs : b.crs.length * 40 ≤ 140737488355328 := hbcrs.room
 refine calls_in (b := Same_n0) Try.func10 rfl Try.ntmps10 rfl (fun C hC => ?_)
 refine ws_sub [(0, _), (1, _)] ⟨rfl, rfl, trivial⟩ ?_
 refine ws_seqN Same_n1 Same_n2 rfl rfl rfl ?_
 refine ws_region rfl ?_
 refine wlo 0 1 rfl rfl rfl (wo_box (l := [_, _]) rfl rfl rfl rfl rfl S ?_)
 intro gb1 w1 S1; clear S
 refine wlo 1 2 rfl rfl rfl (wo_box (l := [_, _]) rfl rfl rfl rfl rfl S1 ?_)
 intro gb2 w2 S2; clear S1
 refine wla 2 3 rfl rfl rfl rfl rfl rfl rfl ?_
 refine wla 3 4 rfl rfl rfl rfl rfl rfl rfl ?_
 refine wl_end rfl ?_
 refine nm_sub [(2, _), (3, _)] ⟨rfl, rfl, trivial⟩ ?_
 refine nm_thn ?_
 refine ws_seqN Same_n3 Same_n4 rfl rfl rfl ?_
 refine ws_region rfl ?_
 refine wlo 0 1 rfl rfl rfl (wo_run rfl rfl (run_loadN (us := [_, _]) rfl rfl Try.underlying24 rfl sz24 (S2.boxcs (i := 1) rfl ⟨rfl, rfl, trivial⟩)) ?_)
 refine wlo 1 2 rfl rfl rfl (wo_ct rfl rfl rfl rfl rfl rfl rfl cf8 S2 (Canon_t a (hacrs.mono S2.un_XH) S2.lend) ?_)
 intro vw3 w3 M1 hle1 S3 hRw3; clear S2
 replace hacrs := hacrs.mono (Hp.un_mono hle1 S3.mx)
 replace hbcrs := hbcrs.mono (Hp.un_mono hle1 S3.mx)
 rcases hRw3 with ⟨hcana, rfl⟩ | ⟨hcana, A1, c1, rfl, hr1⟩
 ·refine wlm 2 3 rfl rfl rfl rfl rfl rfl rfl ?_
  refine wlo 3 4 rfl rfl rfl (wo_run rfl rfl (run_extract rfl rfl rfl) ?_)
  refine wlo 4 5 rfl rfl rfl (wo_run rfl rfl (run_extract rfl rfl rfl) ?_)
  refine wlo 5 6 rfl rfl rfl (wo_alloc (l := [_, _]) rfl rfl rfl zr24 rfl S3 ?_)
  intro gb3 w4 S4; clear S3
  refine wlo 6 7 rfl rfl rfl (wo_storeB (i := 0) (us := [_, _]) (l' := [_, _]) (H' := [_, _, _]) rfl rfl S4 rfl rfl rfl rfl sz24 rfl rfl rfl rfl ?_)
  intro w5 S5; clear S4
  refine wla 7 8 rfl rfl rfl rfl rfl rfl rfl ?_
  refine wl_end rfl ?_
  refine nm_sub [(3, _), (6, _), (7, _)] ⟨rfl, rfl, rfl, trivial⟩ ?_
  refine nm_thn ?_
  refine ws_seqN Same_n5 Same_n6 rfl rfl rfl ?_
  refine ws_region rfl ?_
  refine wlo 0 1 rfl rfl rfl (wo_run rfl rfl (run_loadN (us := [_, _]) rfl rfl Try.underlying24 rfl sz24 (S5.boxcs (i := 1) rfl ⟨rfl, rfl, trivial⟩)) ?_)
  refine wlo 1 2 rfl rfl rfl (wo_ct rfl rfl rfl rfl rfl rfl rfl cf8 S5 (Canon_t b (hbcrs.mono S5.un_XH) S5.lend) ?_)
  intro vw6 w6 M2 hle2 S6 hRw6; clear S5
  replace hacrs := hacrs.mono (Hp.un_mono hle2 S6.mx)
  replace hbcrs := hbcrs.mono (Hp.un_mono hle2 S6.mx)
  rcases hRw6 with ⟨hcanb, rfl⟩ | ⟨hcanb, A2, c2, rfl, hr2⟩
  ·refine wlm 2 3 rfl rfl rfl rfl rfl rfl rfl ?_
   refine wlo 3 4 rfl rfl rfl (wo_run rfl rfl (run_extract rfl rfl rfl) ?_)
   refine wlo 4 5 rfl rfl rfl (wo_run rfl rfl (run_extract rfl rfl rfl) ?_)
   refine wlo 5 6 rfl rfl rfl (wo_alloc (l := [_, _]) rfl rfl rfl zr24 rfl S6 ?_)
   intro gb4 w7 S7; clear S6
   refine wlo 6 7 rfl rfl rfl (wo_storeB (i := 0) (us := [_, _]) (l' := [_, _]) (H' := [_, _, _, _]) rfl rfl S7 rfl rfl rfl rfl sz24 rfl rfl rfl rfl ?_)
   intro w8 S8; clear S7
   refine wla 7 8 rfl rfl rfl rfl rfl rfl rfl ?_
   refine wl_end rfl ?_
   refine nm_sub [(6, _), (7, _), (8, _), (9, _)] ⟨rfl, rfl, rfl, rfl, trivial⟩ ?_
   refine nm_thn ?_
   refine ws_seqN Same_n7 Same_n8 rfl rfl rfl ?_
   refine ws_seqN Same_n9 Same_n10 rfl rfl rfl ?_
   refine ws_region rfl ?_
   refine wlm 0 1 rfl rfl rfl rfl rfl rfl rfl ?_
   refine wlo 1 2 rfl rfl rfl (wo_run rfl rfl (run_neq rfl rfl rfl) ?_)
   refine wlm 2 3 rfl rfl rfl rfl rfl rfl rfl ?_
   refine wl_split (t := 22) rfl (fun hg22 => ?_) (fun hg22 => ?_)
   ·replace hg22 := of_decide_eq_true hg22
    refine wl_no (k := 3) (k' := 4) (d := 23) rfl rfl ⟨_, _, _, rfl, rfl, rfl, rfl⟩ rfl rfl ?_
    refine wl_no (k := 4) (k' := 5) (d := 24) rfl rfl ⟨_, _, _, rfl, rfl, rfl, rfl⟩ rfl rfl ?_
    refine wlo 5 6 rfl rfl rfl (wo_run rfl rfl (run_pickT rfl rfl rfl) ?_)
    refine wl_end rfl ?_
    refine nm_sub [(6, _), (8, _), (25, _)] ⟨rfl, rfl, rfl, trivial⟩ ?_
    refine nm_thn ?_
    refine ws_condTN Same_n11 rfl rfl rfl ?_
    refine ws_seqN Same_n13 Same_n14 rfl rfl rfl ?_
    refine ws_region rfl ?_
    refine wla 0 1 rfl rfl rfl rfl rfl rfl rfl ?_
    refine wla 1 2 rfl rfl rfl rfl rfl rfl rfl ?_
    refine wl_end rfl ?_
    refine nm_sub [(4, _), (5, _)] ⟨rfl, rfl, trivial⟩ ?_
    refine nm_thn ?_
    refine ws_ret hC [_, _] rfl rfl ⟨rfl, rfl, trivial⟩ ?_
    refine ⟨_, rfl, _, hle1.trans hle2, (S8.pick [] [] (by decide) trivial), ?_⟩
    exact .inl ⟨by first | exact .inl hcana | exact .inr hcanb, rfl⟩
   ·replace hg22 := of_decide_eq_false hg22
    exfalso; omega
  ·obtain ⟨hnb, habb, _, _⟩ := mayO hcanb
   refine wlm 2 3 rfl rfl rfl rfl rfl rfl rfl ?_
   refine wlo 3 4 rfl rfl rfl (wo_run rfl rfl (run_extract rfl rfl rfl) ?_)
   refine wlo 4 5 rfl rfl rfl (wo_run rfl rfl (run_extract rfl rfl rfl) ?_)
   refine wlo 5 6 rfl rfl rfl (wo_alloc (l := [_, _]) rfl rfl rfl zr24 rfl S6 ?_)
   intro gb5 w9 S9; clear S6
   refine wlo 6 7 rfl rfl rfl (wo_storeB (i := 0) (us := [_, _]) (l' := [_, _]) (H' := [_, _, _, _]) rfl rfl S9 rfl rfl rfl rfl sz24 rfl rfl rfl rfl ?_)
   intro w10 S10; clear S9
   refine wla 7 8 rfl rfl rfl rfl rfl rfl rfl ?_
   refine wl_end rfl ?_
   refine nm_sub [(6, _), (7, _), (8, _), (9, _)] ⟨rfl, rfl, rfl, rfl, trivial⟩ ?_
   refine nm_thn ?_
   refine ws_seqN Same_n7 Same_n8 rfl rfl rfl ?_
   refine ws_seqN Same_n9 Same_n10 rfl rfl rfl ?_
   refine ws_region rfl ?_
   refine wlm 0 1 rfl rfl rfl rfl rfl rfl rfl ?_
   refine wlo 1 2 rfl rfl rfl (wo_run rfl rfl (run_neq rfl rfl rfl) ?_)
   refine wlm 2 3 rfl rfl rfl rfl rfl rfl rfl ?_
   refine wl_split (t := 22) rfl (fun hg22 => ?_) (fun hg22 => ?_)
   ·replace hg22 := of_decide_eq_true hg22
    refine wl_no (k := 3) (k' := 4) (d := 23) rfl rfl ⟨_, _, _, rfl, rfl, rfl, rfl⟩ rfl rfl ?_
    refine wl_no (k := 4) (k' := 5) (d := 24) rfl rfl ⟨_, _, _, rfl, rfl, rfl, rfl⟩ rfl rfl ?_
    refine wlo 5 6 rfl rfl rfl (wo_run rfl rfl (run_pickT rfl rfl rfl) ?_)
    refine wl_end rfl ?_
    refine nm_sub [(6, _), (8, _), (25, _)] ⟨rfl, rfl, rfl, trivial⟩ ?_
    refine nm_thn ?_
    refine ws_condTN Same_n11 rfl rfl rfl ?_
    refine ws_seqN Same_n13 Same_n14 rfl rfl rfl ?_
    refine ws_region rfl ?_
    refine wla 0 1 rfl rfl rfl rfl rfl rfl rfl ?_
    refine wla 1 2 rfl rfl rfl rfl rfl rfl rfl ?_
    refine wl_end rfl ?_
    refine nm_sub [(4, _), (5, _)] ⟨rfl, rfl, trivial⟩ ?_
    refine nm_thn ?_
    refine ws_ret hC [_, _] rfl rfl ⟨rfl, rfl, trivial⟩ ?_
    refine ⟨_, rfl, _, hle1.trans hle2, (S10.pick [] [] (by decide) trivial), ?_⟩
    exact .inl ⟨by first | exact .inl hcana | exact .inr hcanb, rfl⟩
   ·replace hg22 := of_decide_eq_false hg22
    exfalso; omega
 ·obtain ⟨hna, haba, _, _⟩ := mayO hcana
  refine wlm 2 3 rfl rfl rfl rfl rfl rfl rfl ?_
  refine wlo 3 4 rfl rfl rfl (wo_run rfl rfl (run_extract rfl rfl rfl) ?_)
  refine wlo 4 5 rfl rfl rfl (wo_run rfl rfl (run_extract rfl rfl rfl) ?_)
  refine wlo 5 6 rfl rfl rfl (wo_alloc (l := [_, _]) rfl rfl rfl zr24 rfl S3 ?_)
  intro gb6 w11 S11; clear S3
  refine wlo 6 7 rfl rfl rfl (wo_storeB (i := 0) (us := [_, _]) (l' := [_, _]) (H' := [_, _, _]) rfl rfl S11 rfl rfl rfl rfl sz24 rfl rfl rfl rfl ?_)
  intro w12 S12; clear S11
  refine wla 7 8 rfl rfl rfl rfl rfl rfl rfl ?_
  refine wl_end rfl ?_
  refine nm_sub [(3, _), (6, _), (7, _)] ⟨rfl, rfl, rfl, trivial⟩ ?_
  refine nm_thn ?_
  refine ws_seqN Same_n5 Same_n6 rfl rfl rfl ?_
  refine ws_region rfl ?_
  refine wlo 0 1 rfl rfl rfl (wo_run rfl rfl (run_loadN (us := [_, _]) rfl rfl Try.underlying24 rfl sz24 (S12.boxcs (i := 1) rfl ⟨rfl, rfl, trivial⟩)) ?_)
  refine wlo 1 2 rfl rfl rfl (wo_ct rfl rfl rfl rfl rfl rfl rfl cf8 S12 (Canon_t b (hbcrs.mono S12.un_XH) S12.lend) ?_)
  intro vw13 w13 M3 hle3 S13 hRw13; clear S12
  replace hacrs := hacrs.mono (Hp.un_mono hle3 S13.mx)
  replace hbcrs := hbcrs.mono (Hp.un_mono hle3 S13.mx)
  replace hr1 := hr1.mono hle3
  rcases hRw13 with ⟨hcanb, rfl⟩ | ⟨hcanb, A3, c3, rfl, hr3⟩
  ·refine wlm 2 3 rfl rfl rfl rfl rfl rfl rfl ?_
   refine wlo 3 4 rfl rfl rfl (wo_run rfl rfl (run_extract rfl rfl rfl) ?_)
   refine wlo 4 5 rfl rfl rfl (wo_run rfl rfl (run_extract rfl rfl rfl) ?_)
   refine wlo 5 6 rfl rfl rfl (wo_alloc (l := [_, _]) rfl rfl rfl zr24 rfl S13 ?_)
   intro gb7 w14 S14; clear S13
   refine wlo 6 7 rfl rfl rfl (wo_storeB (i := 0) (us := [_, _]) (l' := [_, _]) (H' := [_, _, _, _]) rfl rfl S14 rfl rfl rfl rfl sz24 rfl rfl rfl rfl ?_)
   intro w15 S15; clear S14
   refine wla 7 8 rfl rfl rfl rfl rfl rfl rfl ?_
   refine wl_end rfl ?_
   refine nm_sub [(6, _), (7, _), (8, _), (9, _)] ⟨rfl, rfl, rfl, rfl, trivial⟩ ?_
   refine nm_thn ?_
   refine ws_seqN Same_n7 Same_n8 rfl rfl rfl ?_
   refine ws_seqN Same_n9 Same_n10 rfl rfl rfl ?_
   refine ws_region rfl ?_
   refine wlm 0 1 rfl rfl rfl rfl rfl rfl rfl ?_
   refine wlo 1 2 rfl rfl rfl (wo_run rfl rfl (run_neq rfl rfl rfl) ?_)
   refine wlm 2 3 rfl rfl rfl rfl rfl rfl rfl ?_
   refine wl_split (t := 22) rfl (fun hg22 => ?_) (fun hg22 => ?_)
   ·replace hg22 := of_decide_eq_true hg22
    exfalso; omega
   ·replace hg22 := of_decide_eq_false hg22
    refine wl_opG (k := 3) (k' := 4) rfl rfl ⟨_, _, _, rfl, rfl, rfl, rfl⟩ rfl (wo_run rfl rfl (run_move rfl rfl) ?_)
    refine wl_opG (k := 4) (k' := 5) rfl rfl ⟨_, _, _, rfl, rfl, rfl, rfl⟩ rfl (wo_run rfl rfl (run_neq rfl rfl rfl) ?_)
    refine wlo 5 6 rfl rfl rfl (wo_run rfl rfl (run_pickF rfl rfl rfl) ?_)
    refine wl_end rfl ?_
    refine nm_sub [(6, _), (8, _), (25, _)] ⟨rfl, rfl, rfl, trivial⟩ ?_
    refine nm_thn ?_
    refine ws_condN Same_n11 Same_n12 rfl rfl rfl rfl (fun hb25 => ?_) (fun hb25 => ?_)
    ·replace hb25 := of_decide_eq_true hb25
     refine ws_seqN Same_n13 Same_n14 rfl rfl rfl ?_
     refine ws_region rfl ?_
     refine wla 0 1 rfl rfl rfl rfl rfl rfl rfl ?_
     refine wla 1 2 rfl rfl rfl rfl rfl rfl rfl ?_
     refine wl_end rfl ?_
     refine nm_sub [(4, _), (5, _)] ⟨rfl, rfl, trivial⟩ ?_
     refine nm_thn ?_
     refine ws_ret hC [_, _] rfl rfl ⟨rfl, rfl, trivial⟩ ?_
     refine ⟨_, rfl, _, hle1.trans hle3, (S15.pick [] [] (by decide) trivial), ?_⟩
     exact .inl ⟨by first | exact .inl hcana | exact .inr hcanb, rfl⟩
    ·replace hb25 := of_decide_eq_false hb25
     exfalso; omega
  ·obtain ⟨hnb, habb, _, _⟩ := mayO hcanb
   refine wlm 2 3 rfl rfl rfl rfl rfl rfl rfl ?_
   refine wlo 3 4 rfl rfl rfl (wo_run rfl rfl (run_extract rfl rfl rfl) ?_)
   refine wlo 4 5 rfl rfl rfl (wo_run rfl rfl (run_extract rfl rfl rfl) ?_)
   refine wlo 5 6 rfl rfl rfl (wo_alloc (l := [_, _]) rfl rfl rfl zr24 rfl S13 ?_)
   intro gb8 w16 S16; clear S13
   refine wlo 6 7 rfl rfl rfl (wo_storeB (i := 0) (us := [_, _]) (l' := [_, _]) (H' := [_, _, _, _]) rfl rfl S16 rfl rfl rfl rfl sz24 rfl rfl rfl rfl ?_)
   intro w17 S17; clear S16
   refine wla 7 8 rfl rfl rfl rfl rfl rfl rfl ?_
   refine wl_end rfl ?_
   refine nm_sub [(6, _), (7, _), (8, _), (9, _)] ⟨rfl, rfl, rfl, rfl, trivial⟩ ?_
   refine nm_thn ?_
   refine ws_seqN Same_n7 Same_n8 rfl rfl rfl ?_
   refine ws_seqN Same_n9 Same_n10 rfl rfl rfl ?_
   refine ws_region rfl ?_
   refine wlm 0 1 rfl rfl rfl rfl rfl rfl rfl ?_
   refine wlo 1 2 rfl rfl rfl (wo_run rfl rfl (run_neq rfl rfl rfl) ?_)
   refine wlm 2 3 rfl rfl rfl rfl rfl rfl rfl ?_
   refine wl_split (t := 22) rfl (fun hg22 => ?_) (fun hg22 => ?_)
   ·replace hg22 := of_decide_eq_true hg22
    exfalso; omega
   ·replace hg22 := of_decide_eq_false hg22
    refine wl_opG (k := 3) (k' := 4) rfl rfl ⟨_, _, _, rfl, rfl, rfl, rfl⟩ rfl (wo_run rfl rfl (run_move rfl rfl) ?_)
    refine wl_opG (k := 4) (k' := 5) rfl rfl ⟨_, _, _, rfl, rfl, rfl, rfl⟩ rfl (wo_run rfl rfl (run_neq rfl rfl rfl) ?_)
    refine wlo 5 6 rfl rfl rfl (wo_run rfl rfl (run_pickF rfl rfl rfl) ?_)
    refine wl_end rfl ?_
    refine nm_sub [(6, _), (8, _), (25, _)] ⟨rfl, rfl, rfl, trivial⟩ ?_
    refine nm_thn ?_
    refine ws_condN Same_n11 Same_n12 rfl rfl rfl rfl (fun hb25 => ?_) (fun hb25 => ?_)
    ·replace hb25 := of_decide_eq_true hb25
     exfalso; omega
    ·replace hb25 := of_decide_eq_false hb25
     refine ws_skip rfl ?_
     refine nm_sub [(6, _), (8, _)] ⟨rfl, rfl, trivial⟩ ?_
     refine nm_thn ?_
     refine ws_seqN Same_n15 Same_n16 rfl rfl rfl ?_
     refine ws_region rfl ?_
     refine wlo 0 1 rfl rfl rfl (wo_run rfl rfl (run_fieldAddr rfl rfl Try.underlying24 rfl (ce3) (nf3)) ?_)
     refine wlo 1 2 rfl rfl rfl (wo_run rfl rfl (run_load1 rfl rfl Try.underlying3 rfl (S17.boxc (i := 1) rfl rfl)) ?_)
     refine wlo 2 3 rfl rfl rfl (wo_run rfl rfl (run_fieldAddr rfl rfl Try.underlying24 rfl (ce3) (nf3)) ?_)
     refine wlo 3 4 rfl rfl rfl (wo_run rfl rfl (run_load1 rfl rfl Try.underlying3 rfl (S17.boxc (i := 0) rfl rfl)) ?_)
     refine wlo 4 5 rfl rfl rfl (wo_run rfl rfl (run_eql rfl rfl rfl) ?_)
     refine wlm 5 6 rfl rfl rfl rfl rfl rfl rfl ?_
     refine wl_split (t := 31) rfl (fun hg31 => ?_) (fun hg31 => ?_)
     ·replace hg31 := of_decide_eq_true hg31
      refine wl_opG (k := 6) (k' := 7) rfl rfl ⟨_, _, _, rfl, rfl, rfl, rfl⟩ rfl (wo_run rfl rfl (run_fieldAddr rfl rfl Try.underlying24 rfl (ce22) (nf22)) ?_)
      refine wl_opG (k := 7) (k' := 8) rfl rfl ⟨_, _, _, rfl, rfl, rfl, rfl⟩ rfl (wo_run rfl rfl (run_load1 rfl rfl Try.underlying22 rfl (S17.boxc (i := 1) rfl rfl)) ?_)
      refine wl_opG (k := 8) (k' := 9) rfl rfl ⟨_, _, _, rfl, rfl, rfl, rfl⟩ rfl (wo_run rfl rfl (run_fieldAddr rfl rfl Try.underlying24 rfl (ce22) (nf22)) ?_)
      refine wl_opG (k := 9) (k' := 10) rfl rfl ⟨_, _, _, rfl, rfl, rfl, rfl⟩ rfl (wo_run rfl rfl (run_load1 rfl rfl Try.underlying22 rfl (S17.boxc (i := 0) rfl rfl)) ?_)
      refine wl_opG (k := 10) (k' := 11) rfl rfl ⟨_, _, _, rfl, rfl, rfl, rfl⟩ rfl (wo_cq rfl rfl rfl rfl rfl rfl rfl cf29 S17 (EqualC_q ((canD a).crs) ((canD b).crs) (hr1.mono (Hp.le_un _ _)) (hr3.mono (Hp.le_un _ _)) S17.lend) ?_)
      rintro _ w18 S18 rfl; clear S17
      refine wlo 11 12 rfl rfl rfl (wo_run rfl rfl (run_pickT rfl rfl rfl) ?_)
      refine wla 12 13 rfl rfl rfl rfl rfl rfl rfl ?_
      refine wla 13 14 rfl rfl rfl rfl rfl rfl rfl ?_
      refine wl_end rfl ?_
      refine nm_sub [(4, _), (5, _)] ⟨rfl, rfl, trivial⟩ ?_
      refine nm_thn ?_
      refine ws_ret hC [_, _] rfl rfl ⟨rfl, rfl, trivial⟩ ?_
      refine ⟨_, rfl, _, hle1.trans hle3, (S18.pick [] [] (by decide) trivial), ?_⟩
      refine .inr ⟨hcana, hcanb, ?_⟩
      refine congrArg (fun q => Value.tuple [Value.bool q, .int .i64 0].toArray) ?_
      unfold sameB
      first | (rw [decide_eq_true (show (canD a).loops = (canD b).loops by assumption)]; rfl) | (rw [decide_eq_false (show ¬ (canD a).loops = (canD b).loops by assumption)]; rfl)
     ·replace hg31 := of_decide_eq_false hg31
      refine wl_no (k := 6) (k' := 7) (d := 32) rfl rfl ⟨_, _, _, rfl, rfl, rfl, rfl⟩ rfl rfl ?_
      refine wl_no (k := 7) (k' := 8) (d := 33) rfl rfl ⟨_, _, _, rfl, rfl, rfl, rfl⟩ rfl rfl ?_
      refine wl_no (k := 8) (k' := 9) (d := 34) rfl rfl ⟨_, _, _, rfl, rfl, rfl, rfl⟩ rfl rfl ?_
      refine wl_no (k := 9) (k' := 10) (d := 35) rfl rfl ⟨_, _, _, rfl, rfl, rfl, rfl⟩ rfl rfl ?_
      refine wl_no (k := 10) (k' := 11) (d := 36) rfl rfl ⟨_, _, _, rfl, rfl, rfl, rfl⟩ rfl rfl ?_
      refine wlo 11 12 rfl rfl rfl (wo_run rfl rfl (run_pickF rfl rfl rfl) ?_)
      refine wla 12 13 rfl rfl rfl rfl rfl rfl rfl ?_
      refine wla 13 14 rfl rfl rfl rfl rfl rfl rfl ?_
      refine wl_end rfl ?_
      refine nm_sub [(4, _), (5, _)] ⟨rfl, rfl, trivial⟩ ?_
      refine nm_thn ?_
      refine ws_ret hC [_, _] rfl rfl ⟨rfl, rfl, trivial⟩ ?_
      refine ⟨_, rfl, _, hle1.trans hle3, (S17.pick [] [] (by decide) trivial), ?_⟩
      refine .inr ⟨hcana, hcanb, ?_⟩
      refine congrArg (fun q => Value.tuple [Value.bool q, .int .i64 0].toArray) ?_
      unfold sameB
      first | (rw [decide_eq_true (show (canD a).loops = (canD b).loops by assumption)]; rfl) | (rw [decide_eq_false (show ¬ (canD a).loops = (canD b).loops by assumption)]; rfl)
noncomputable def CanonForms_n0 : Code := Try.f3.body.getD .skip
noncomputable def CanonForms_n1 : Code := cL CanonForms_n0
noncomputable def CanonForms_n2 : Code := cR CanonForms_n0
noncomputable def CanonForms_n3 : Code := cL CanonForms_n2
noncomputable def CanonForms_n4 : Code := cR CanonForms_n2
noncomputable def CanonForms_n5 : Code := cL CanonForms_n4
noncomputable def CanonForms_n6 : Code := cR CanonForms_n4
noncomputable def CanonForms_n7 : Code := cL CanonForms_n6
noncomputable def CanonForms_n8 : Code := cR CanonForms_n6
noncomputable def CanonForms_n9 : Code := cL CanonForms_n7
noncomputable def CanonForms_n10 : Code := cR CanonForms_n7
noncomputable def CanonForms_n11 : Code := cL CanonForms_n10
noncomputable def CanonForms_n12 : Code := cR CanonForms_n10
noncomputable def CanonForms_n13 : Code := cL CanonForms_n11
noncomputable def CanonForms_n14 : Code := cR CanonForms_n11
noncomputable def CanonForms_n15 : Code := cL CanonForms_n8
noncomputable def CanonForms_n16 : Code := cR CanonForms_n8
noncomputable def CanonForms_n17 : Code := cL CanonForms_n15
noncomputable def CanonForms_n18 : Code := cR CanonForms_n15
noncomputable def CanonForms_n19 : Code := cL CanonForms_n18
noncomputable def CanonForms_n20 : Code := cR CanonForms_n18
noncomputable def CanonForms_n21 : Code := cL CanonForms_n19
noncomputable def CanonForms_n22 : Code := cR CanonForms_n19
noncomputable def CanonForms_n23 : Code := cL CanonForms_n16
noncomputable def CanonForms_n24 : Code := cR CanonForms_n16
noncomputable def CanonForms_n25 : Code := cL CanonForms_n23
noncomputable def CanonForms_n26 : Code := cR CanonForms_n23
noncomputable def CanonForms_n27 : Code := cL CanonForms_n26
noncomputable def CanonForms_n28 : Code := cR CanonForms_n26
noncomputable def CanonForms_n29 : Code := cL CanonForms_n27
noncomputable def CanonForms_n30 : Code := cR CanonForms_n27
noncomputable def CanonForms_n31 : Code := cL CanonForms_n24
noncomputable def CanonForms_n32 : Code := cR CanonForms_n24
set_option maxHeartbeats 4000000 in
set_option maxRecDepth 10000 in
theorem CanonForms_t {w : World} {M : Hp} {X : Fr} (a : Dg) {acrsA : Option Addr} {acrsc : Nat} (b : Dg) {bcrsA : Option Addr} {bcrsc : Nat} (hacrs : RdA cdCr M acrsA acrsc a.crs) (hbcrs : RdA cdCr M bcrsA bcrsc b.crs) (S : SH w M X []) : Ct Try.prog 3 [.agg [.slice acrsA a.crs.length acrsc, .int .i64 a.loops].toArray, .agg [.slice bcrsA b.crs.length bcrsc, .int .i64 b.loops].toArray] w M X (fun u _ => u = .bool true) := by
 unfold Ct
 have rmhacrs : a.crs.length * 40 ≤ 140737488355328 := hacrs.room
 have rmhbcrs : b.crs.length * 40 ≤ 140737488355328 := hbcrs.room
 refine calls_in (b := CanonForms_n0) Try.func3 rfl Try.ntmps3 rfl (fun C hC => ?_)
 refine ws_sub [(0, _), (1, _)] ⟨rfl, rfl, trivial⟩ ?_
 refine ws_seqN CanonForms_n1 CanonForms_n2 rfl rfl rfl ?_
 refine ws_region rfl ?_
 refine wlo 0 1 rfl rfl rfl (wo_box (l := [_, _]) rfl rfl rfl rfl rfl S ?_)
 intro gb1 w1 S1; clear S
 refine wlo 1 2 rfl rfl rfl (wo_box (l := [_, _]) rfl rfl rfl rfl rfl S1 ?_)
 intro gb2 w2 S2; clear S1
 refine wla 2 3 rfl rfl rfl rfl rfl rfl rfl ?_
 refine wl_end rfl ?_
 refine nm_sub [(2, _), (3, _)] ⟨rfl, rfl, trivial⟩ ?_
 refine nm_thn ?_
 refine ws_seqN CanonForms_n3 CanonForms_n4 rfl rfl rfl ?_
 refine ws_region rfl ?_
 refine wlo 0 1 rfl rfl rfl (wo_run rfl rfl (run_loadN (us := [_, _]) rfl rfl Try.underlying24 rfl sz24 (S2.boxcs (i := 1) rfl ⟨rfl, rfl, trivial⟩)) ?_)
 refine wlo 1 2 rfl rfl rfl (wo_ct rfl rfl rfl rfl rfl rfl rfl cf9 S2 (DiagramOf_t a (hacrs.mono (Hp.le_un _ _)) S2.lend) ?_)
 intro vw3 w3 M1 hle1 S3 hRw3; clear S2
 replace hacrs := hacrs.mono hle1
 replace hbcrs := hbcrs.mono hle1
 obtain ⟨A1, c1, rfl, hr1⟩ := hRw3
 refine wlo 2 3 rfl rfl rfl (wo_ct rfl rfl rfl rfl rfl rfl rfl cf8 S3 (Canon_t a (hr1.mono (Hp.le_un _ _)) S3.lend) ?_)
 intro vw4 w4 M2 hle2 S4 hRw4; clear S3
 replace hacrs := hacrs.mono hle2
 replace hbcrs := hbcrs.mono hle2
 replace hr1 := hr1.mono hle2
 rcases hRw4 with ⟨hcana, rfl⟩ | ⟨hcana, A2, c2, rfl, hr2⟩
 ·refine wlm 3 4 rfl rfl rfl rfl rfl rfl rfl ?_
  refine wlo 4 5 rfl rfl rfl (wo_run rfl rfl (run_extract rfl rfl rfl) ?_)
  refine wlo 5 6 rfl rfl rfl (wo_run rfl rfl (run_extract rfl rfl rfl) ?_)
  refine wlo 6 7 rfl rfl rfl (wo_alloc (l := [_, _]) rfl rfl rfl zr24 rfl S4 ?_)
  intro gb3 w5 S5; clear S4
  refine wlo 7 8 rfl rfl rfl (wo_storeB (i := 0) (us := [_, _]) (l' := [_, _]) (H' := [_, _, _]) rfl rfl S5 rfl rfl rfl rfl sz24 rfl rfl rfl rfl ?_)
  intro w6 S6; clear S5
  refine wla 8 9 rfl rfl rfl rfl rfl rfl rfl ?_
  refine wl_end rfl ?_
  refine nm_sub [(2, _), (3, _), (5, _), (6, _)] ⟨rfl, rfl, rfl, rfl, trivial⟩ ?_
  refine nm_thn ?_
  refine ws_seqN CanonForms_n5 CanonForms_n6 rfl rfl rfl ?_
  refine ws_draw rfl (by kernel_rfl) S6 10 rfl ?_
  clear S6
  refine wa_take (i := 0) (d := 16) 9 rfl (by kernel_rfl) (by kernel_rfl) (by kernel_rfl) rfl rfl rfl (fun M3 N1 w7 hle3 S7 => .inl (run_loadN (us := [_, _]) rfl rfl Try.underlying24 rfl sz24 (S7.suf.boxcs (i := 2) rfl ⟨rfl, rfl, trivial⟩))) ?_
  refine wa_take (i := 2) (d := 18) 8 rfl (by kernel_rfl) (by kernel_rfl) (by kernel_rfl) rfl rfl rfl (fun M5 N3 w9 hle5 S9 => .inl (run_loadN (us := [_, _]) rfl rfl Try.underlying24 rfl sz24 (S9.suf.boxcs (i := 1) rfl ⟨rfl, rfl, trivial⟩))) ?_
  refine wa_only (i := 1) 7 rfl (by kernel_rfl) rfl rfl (fun w11 S11 => ?_)
  refine (wo_ct rfl rfl rfl rfl rfl rfl rfl cf9 S11 (DiagramOf_t a (hacrs.mono (Hp.le_un _ _)) S11.lend) ?_)
  intro vw12 w12 M7 hle7 S12 hRw12; clear S11
  replace hacrs := hacrs.mono hle7
  replace hbcrs := hbcrs.mono hle7
  replace hr1 := hr1.mono hle7
  obtain ⟨A3, c3, rfl, hr3⟩ := hRw12
  refine LeftW.grow [] (hle7) S12 ?_; clear S12
  change WA _ _ _ _ _ _ _ _ _ _ _ _ [_, _, _]
  refine wa_base ?_
  refine wa_only (i := 3) 6 rfl (by kernel_rfl) rfl rfl (fun w14 S14 => ?_)
  refine (wo_ct rfl rfl rfl rfl rfl rfl rfl cf9 S14 (DiagramOf_t b (hbcrs.mono (Hp.le_un _ _)) S14.lend) ?_)
  intro vw15 w15 M9 hle9 S15 hRw15; clear S14
  replace hacrs := hacrs.mono hle9
  replace hbcrs := hbcrs.mono hle9
  replace hr1 := hr1.mono hle9
  replace hr3 := hr3.mono hle9
  obtain ⟨A4, c4, rfl, hr4⟩ := hRw15
  refine LeftW.grow [] (hle9) S15 ?_; clear S15
  change WA _ _ _ _ _ _ _ _ _ _ _ _ [_, _, _]
  refine wa_base ?_
  refine wa_only (i := 4) 5 rfl (by kernel_rfl) rfl rfl (fun w17 S17 => ?_)
  refine (wo_ct rfl rfl rfl rfl rfl rfl rfl cf10 S17 (Same_t a b (hr3.mono (Hp.le_un _ _)) (hr4.mono (Hp.le_un _ _)) S17.lend) ?_)
  intro vw18 w18 M11 hle11 S18 hRw18; clear S17
  replace hacrs := hacrs.mono hle11
  replace hbcrs := hbcrs.mono hle11
  replace hr1 := hr1.mono hle11
  replace hr3 := hr3.mono hle11
  replace hr4 := hr4.mono hle11
  rcases hRw18 with ⟨hsm, rfl⟩ | ⟨hsa, hsb, rfl⟩
  ·refine LeftW.grow [] (hle11) S18 ?_; clear S18
   change WA _ _ _ _ _ _ _ _ _ _ _ _ [_, _, _]
   refine wa_base ?_
   refine wa_takeP (i := 5) (d := 15) 4 rfl (by kernel_rfl) (by kernel_rfl) (by kernel_rfl) rfl rfl rfl (fun w19 => run_move rfl rfl) ?_
   refine wa_takeP (i := 6) (d := 21) 3 rfl (by kernel_rfl) (by kernel_rfl) (by kernel_rfl) rfl rfl rfl (fun w20 => run_extract rfl rfl rfl) ?_
   refine wa_takeP (i := 7) (d := 22) 2 rfl (by kernel_rfl) (by kernel_rfl) (by kernel_rfl) rfl rfl rfl (fun w21 => run_extract rfl rfl rfl) ?_
   refine wa_takeP (i := 8) (d := 7) 1 rfl (by kernel_rfl) (by kernel_rfl) (by kernel_rfl) rfl rfl rfl (fun w22 => run_assign rfl rfl) ?_
   refine wa_takeP (i := 9) (d := 8) 0 rfl (by kernel_rfl) (by kernel_rfl) (by kernel_rfl) rfl rfl rfl (fun w23 => run_assign rfl rfl) ?_
   refine wa_end (by kernel_rfl) (fun w24 S24 => ?_)
   refine nm_sub [(2, _), (3, _), (5, _), (6, _), (7, _), (8, _)] ⟨rfl, rfl, rfl, rfl, rfl, rfl, trivial⟩ ?_
   refine nm_thn ?_
   refine ws_seqN CanonForms_n7 CanonForms_n8 rfl rfl rfl ?_
   refine ws_seqN CanonForms_n9 CanonForms_n10 rfl rfl rfl ?_
   refine ws_region rfl ?_
   refine wlo 0 1 rfl rfl rfl (wo_run rfl rfl (run_loadN (us := [_, _]) rfl rfl Try.underlying24 rfl sz24 (S24.boxcs (i := 2) rfl ⟨rfl, rfl, trivial⟩)) ?_)
   refine wlo 1 2 rfl rfl rfl (wo_cq rfl rfl rfl rfl rfl rfl rfl cf11 S24 (DiagramMay_q a (hacrs.mono (Hp.le_un _ _)) S24.lend) ?_)
   rintro _ w25 S25 rfl; clear S24
   refine wlo 2 3 rfl rfl rfl (wo_run rfl rfl (run_not rfl rfl) ?_)
   refine wl_end rfl ?_
   refine nm_sub [(2, _), (3, _), (5, _), (6, _), (7, _), (8, _), (25, _)] ⟨rfl, rfl, rfl, rfl, rfl, rfl, rfl, trivial⟩ ?_
   refine nm_thn ?_
   refine ws_condN CanonForms_n11 CanonForms_n12 rfl rfl rfl rfl (fun hb25 => ?_) (fun hb25 => ?_)
   ·simp only [Bool.and_eq_true, Bool.or_eq_true, Bool.and_eq_false_iff, Bool.or_eq_false_iff, decide_eq_true_eq, decide_eq_false_iff_not, Bool.not_eq_true', Bool.not_eq_false'] at hb25
    refine ws_seqN CanonForms_n13 CanonForms_n14 rfl rfl rfl ?_
    refine ws_region rfl ?_
    refine wlm 0 1 rfl rfl rfl rfl rfl rfl rfl ?_
    refine wlo 1 2 rfl rfl rfl (wo_run rfl rfl (run_eql rfl rfl rfl) ?_)
    refine wlm 2 3 rfl rfl rfl rfl rfl rfl rfl ?_
    refine wl_split (t := 28) rfl (fun hg28 => ?_) (fun hg28 => ?_)
    ·replace hg28 := of_decide_eq_true hg28
     refine wl_opG (k := 3) (k' := 4) rfl rfl ⟨_, _, _, rfl, rfl, rfl, rfl⟩ rfl (wo_run rfl rfl (run_move rfl rfl) ?_)
     refine wl_opG (k := 4) (k' := 5) rfl rfl ⟨_, _, _, rfl, rfl, rfl, rfl⟩ rfl (wo_run rfl rfl (run_eql rfl rfl rfl) ?_)
     refine wlo 5 6 rfl rfl rfl (wo_run rfl rfl (run_pickT rfl rfl rfl) ?_)
     refine wlm 6 7 rfl rfl rfl rfl rfl rfl rfl ?_
     refine wl_split (t := 32) rfl (fun hg32 => ?_) (fun hg32 => ?_)
     ·replace hg32 := of_decide_eq_true hg32
      refine wl_opG (k := 7) (k' := 8) rfl rfl ⟨_, _, _, rfl, rfl, rfl, rfl⟩ rfl (wo_run rfl rfl (run_move rfl rfl) ?_)
      refine wl_opG (k := 8) (k' := 9) rfl rfl ⟨_, _, _, rfl, rfl, rfl, rfl⟩ rfl (wo_run rfl rfl (run_not rfl rfl) ?_)
      refine wlo 9 10 rfl rfl rfl (wo_run rfl rfl (run_pickT rfl rfl rfl) ?_)
      refine wlm 10 11 rfl rfl rfl rfl rfl rfl rfl ?_
      refine wl_opG (k := 11) (k' := 12) rfl rfl ⟨_, _, _, rfl, rfl, rfl, rfl⟩ rfl (wo_run rfl rfl (run_fieldAddr rfl rfl Try.underlying24 rfl (ce22) (nf22)) ?_)
      refine wl_opG (k := 12) (k' := 13) rfl rfl ⟨_, _, _, rfl, rfl, rfl, rfl⟩ rfl (wo_run rfl rfl (run_load1 rfl rfl Try.underlying22 rfl (S25.boxc (i := 0) rfl rfl)) ?_)
      refine wl_opG (k := 13) (k' := 14) rfl rfl ⟨_, _, _, rfl, rfl, rfl, rfl⟩ rfl (wo_run rfl rfl (run_len rfl rfl rfl rfl rfl rfl Try.underlying22) ?_)
      refine wl_opG (k := 14) (k' := 15) rfl rfl ⟨_, _, _, rfl, rfl, rfl, rfl⟩ rfl (wo_run rfl rfl (run_eql rfl rfl rfl) ?_)
      refine wlo 15 16 rfl rfl rfl (wo_run rfl rfl (run_pickT rfl rfl rfl) ?_)
      refine wlm 16 17 rfl rfl rfl rfl rfl rfl rfl ?_
      refine wl_split (t := 42) rfl (fun hg42 => ?_) (fun hg42 => ?_)
      ·replace hg42 := of_decide_eq_true hg42
       refine wl_opG (k := 17) (k' := 18) rfl rfl ⟨_, _, _, rfl, rfl, rfl, rfl⟩ rfl (wo_run rfl rfl (run_fieldAddr rfl rfl Try.underlying24 rfl (ce3) (nf3)) ?_)
       refine wl_opG (k := 18) (k' := 19) rfl rfl ⟨_, _, _, rfl, rfl, rfl, rfl⟩ rfl (wo_run rfl rfl (run_load1 rfl rfl Try.underlying3 rfl (S25.boxc (i := 0) rfl rfl)) ?_)
       refine wl_opG (k := 19) (k' := 20) rfl rfl ⟨_, _, _, rfl, rfl, rfl, rfl⟩ rfl (wo_run rfl rfl (run_eql rfl rfl rfl) ?_)
       refine wlo 20 21 rfl rfl rfl (wo_run rfl rfl (run_pickT rfl rfl rfl) ?_)
       refine wla 21 22 rfl rfl rfl rfl rfl rfl rfl ?_
       refine wl_end rfl ?_
       refine nm_sub [(4, _)] ⟨rfl, trivial⟩ ?_
       refine nm_thn ?_
       refine ws_ret hC [_] rfl rfl ⟨rfl, trivial⟩ ?_
       refine ⟨_, rfl, _, (((hle1.trans hle2).trans hle7).trans hle9).trans hle11, (S25.pick [] [] (by decide) trivial), ?_⟩
       show Value.bool _ = _
       refine congrArg Value.bool ?_
       first | rfl | (rw [decide_eq_true_iff]; omega) | (simp_all; done)
      ·replace hg42 := of_decide_eq_false hg42
       refine wl_no (k := 17) (k' := 18) (d := 43) rfl rfl ⟨_, _, _, rfl, rfl, rfl, rfl⟩ rfl rfl ?_
       refine wl_no (k := 18) (k' := 19) (d := 44) rfl rfl ⟨_, _, _, rfl, rfl, rfl, rfl⟩ rfl rfl ?_
       refine wl_no (k := 19) (k' := 20) (d := 45) rfl rfl ⟨_, _, _, rfl, rfl, rfl, rfl⟩ rfl rfl ?_
       refine wlo 20 21 rfl rfl rfl (wo_run rfl rfl (run_pickF rfl rfl rfl) ?_)
       refine wla 21 22 rfl rfl rfl rfl rfl rfl rfl ?_
       refine wl_end rfl ?_
       refine nm_sub [(4, _)] ⟨rfl, trivial⟩ ?_
       refine nm_thn ?_
       refine ws_ret hC [_] rfl rfl ⟨rfl, trivial⟩ ?_
       refine ⟨_, rfl, _, (((hle1.trans hle2).trans hle7).trans hle9).trans hle11, (S25.pick [] [] (by decide) trivial), ?_⟩
       show Value.bool _ = _
       refine congrArg Value.bool ?_
       first | rfl | (rw [decide_eq_true_iff]; omega) | (simp_all; done)
     ·replace hg32 := of_decide_eq_false hg32
      refine wl_no (k := 7) (k' := 8) (d := 33) rfl rfl ⟨_, _, _, rfl, rfl, rfl, rfl⟩ rfl rfl ?_
      refine wl_no (k := 8) (k' := 9) (d := 34) rfl rfl ⟨_, _, _, rfl, rfl, rfl, rfl⟩ rfl rfl ?_
      refine wlo 9 10 rfl rfl rfl (wo_run rfl rfl (run_pickF rfl rfl rfl) ?_)
      refine wlm 10 11 rfl rfl rfl rfl rfl rfl rfl ?_
      refine wl_no (k := 11) (k' := 12) (d := 37) rfl rfl ⟨_, _, _, rfl, rfl, rfl, rfl⟩ rfl rfl ?_
      refine wl_no (k := 12) (k' := 13) (d := 38) rfl rfl ⟨_, _, _, rfl, rfl, rfl, rfl⟩ rfl rfl ?_
      refine wl_no (k := 13) (k' := 14) (d := 39) rfl rfl ⟨_, _, _, rfl, rfl, rfl, rfl⟩ rfl rfl ?_
      refine wl_no (k := 14) (k' := 15) (d := 40) rfl rfl ⟨_, _, _, rfl, rfl, rfl, rfl⟩ rfl rfl ?_
      refine wlo 15 16 rfl rfl rfl (wo_run rfl rfl (run_pickF rfl rfl rfl) ?_)
      refine wlm 16 17 rfl rfl rfl rfl rfl rfl rfl ?_
      refine wl_no (k := 17) (k' := 18) (d := 43) rfl rfl ⟨_, _, _, rfl, rfl, rfl, rfl⟩ rfl rfl ?_
      refine wl_no (k := 18) (k' := 19) (d := 44) rfl rfl ⟨_, _, _, rfl, rfl, rfl, rfl⟩ rfl rfl ?_
      refine wl_no (k := 19) (k' := 20) (d := 45) rfl rfl ⟨_, _, _, rfl, rfl, rfl, rfl⟩ rfl rfl ?_
      refine wlo 20 21 rfl rfl rfl (wo_run rfl rfl (run_pickF rfl rfl rfl) ?_)
      refine wla 21 22 rfl rfl rfl rfl rfl rfl rfl ?_
      refine wl_end rfl ?_
      refine nm_sub [(4, _)] ⟨rfl, trivial⟩ ?_
      refine nm_thn ?_
      refine ws_ret hC [_] rfl rfl ⟨rfl, trivial⟩ ?_
      refine ⟨_, rfl, _, (((hle1.trans hle2).trans hle7).trans hle9).trans hle11, (S25.pick [] [] (by decide) trivial), ?_⟩
      show Value.bool _ = _
      refine congrArg Value.bool ?_
      first | rfl | (rw [decide_eq_true_iff]; omega) | (simp_all; done)
    ·replace hg28 := of_decide_eq_false hg28
     refine wl_no (k := 3) (k' := 4) (d := 29) rfl rfl ⟨_, _, _, rfl, rfl, rfl, rfl⟩ rfl rfl ?_
     refine wl_no (k := 4) (k' := 5) (d := 30) rfl rfl ⟨_, _, _, rfl, rfl, rfl, rfl⟩ rfl rfl ?_
     refine wlo 5 6 rfl rfl rfl (wo_run rfl rfl (run_pickF rfl rfl rfl) ?_)
     refine wlm 6 7 rfl rfl rfl rfl rfl rfl rfl ?_
     refine wl_no (k := 7) (k' := 8) (d := 33) rfl rfl ⟨_, _, _, rfl, rfl, rfl, rfl⟩ rfl rfl ?_
     refine wl_no (k := 8) (k' := 9) (d := 34) rfl rfl ⟨_, _, _, rfl, rfl, rfl, rfl⟩ rfl rfl ?_
     refine wlo 9 10 rfl rfl rfl (wo_run rfl rfl (run_pickF rfl rfl rfl) ?_)
     refine wlm 10 11 rfl rfl rfl rfl rfl rfl rfl ?_
     refine wl_no (k := 11) (k' := 12) (d := 37) rfl rfl ⟨_, _, _, rfl, rfl, rfl, rfl⟩ rfl rfl ?_
     refine wl_no (k := 12) (k' := 13) (d := 38) rfl rfl ⟨_, _, _, rfl, rfl, rfl, rfl⟩ rfl rfl ?_
     refine wl_no (k := 13) (k' := 14) (d := 39) rfl rfl ⟨_, _, _, rfl, rfl, rfl, rfl⟩ rfl rfl ?_
     refine wl_no (k := 14) (k' := 15) (d := 40) rfl rfl ⟨_, _, _, rfl, rfl, rfl, rfl⟩ rfl rfl ?_
     refine wlo 15 16 rfl rfl rfl (wo_run rfl rfl (run_pickF rfl rfl rfl) ?_)
     refine wlm 16 17 rfl rfl rfl rfl rfl rfl rfl ?_
     refine wl_no (k := 17) (k' := 18) (d := 43) rfl rfl ⟨_, _, _, rfl, rfl, rfl, rfl⟩ rfl rfl ?_
     refine wl_no (k := 18) (k' := 19) (d := 44) rfl rfl ⟨_, _, _, rfl, rfl, rfl, rfl⟩ rfl rfl ?_
     refine wl_no (k := 19) (k' := 20) (d := 45) rfl rfl ⟨_, _, _, rfl, rfl, rfl, rfl⟩ rfl rfl ?_
     refine wlo 20 21 rfl rfl rfl (wo_run rfl rfl (run_pickF rfl rfl rfl) ?_)
     refine wla 21 22 rfl rfl rfl rfl rfl rfl rfl ?_
     refine wl_end rfl ?_
     refine nm_sub [(4, _)] ⟨rfl, trivial⟩ ?_
     refine nm_thn ?_
     refine ws_ret hC [_] rfl rfl ⟨rfl, trivial⟩ ?_
     refine ⟨_, rfl, _, (((hle1.trans hle2).trans hle7).trans hle9).trans hle11, (S25.pick [] [] (by decide) trivial), ?_⟩
     show Value.bool _ = _
     refine congrArg Value.bool ?_
     first | rfl | (rw [decide_eq_true_iff]; omega) | (simp_all; done)
   ·simp only [Bool.and_eq_true, Bool.or_eq_true, Bool.and_eq_false_iff, Bool.or_eq_false_iff, decide_eq_true_eq, decide_eq_false_iff_not, Bool.not_eq_true', Bool.not_eq_false'] at hb25
    exfalso; rw [hcana] at hb25; cases hb25
  ·rw [hsa] at hcana; cases hcana
 ·obtain ⟨hna, haba, _, _⟩ := mayO hcana
  refine wlm 3 4 rfl rfl rfl rfl rfl rfl rfl ?_
  refine wlo 4 5 rfl rfl rfl (wo_run rfl rfl (run_extract rfl rfl rfl) ?_)
  refine wlo 5 6 rfl rfl rfl (wo_run rfl rfl (run_extract rfl rfl rfl) ?_)
  refine wlo 6 7 rfl rfl rfl (wo_alloc (l := [_, _]) rfl rfl rfl zr24 rfl S4 ?_)
  intro gb4 w26 S26; clear S4
  refine wlo 7 8 rfl rfl rfl (wo_storeB (i := 0) (us := [_, _]) (l' := [_, _]) (H' := [_, _, _]) rfl rfl S26 rfl rfl rfl rfl sz24 rfl rfl rfl rfl ?_)
  intro w27 S27; clear S26
  refine wla 8 9 rfl rfl rfl rfl rfl rfl rfl ?_
  refine wl_end rfl ?_
  refine nm_sub [(2, _), (3, _), (5, _), (6, _)] ⟨rfl, rfl, rfl, rfl, trivial⟩ ?_
  refine nm_thn ?_
  refine ws_seqN CanonForms_n5 CanonForms_n6 rfl rfl rfl ?_
  refine ws_draw rfl (by kernel_rfl) S27 10 rfl ?_
  clear S27
  refine wa_take (i := 0) (d := 16) 9 rfl (by kernel_rfl) (by kernel_rfl) (by kernel_rfl) rfl rfl rfl (fun M17 N12 w28 hle17 S28 => .inl (run_loadN (us := [_, _]) rfl rfl Try.underlying24 rfl sz24 (S28.suf.boxcs (i := 2) rfl ⟨rfl, rfl, trivial⟩))) ?_
  refine wa_take (i := 2) (d := 18) 8 rfl (by kernel_rfl) (by kernel_rfl) (by kernel_rfl) rfl rfl rfl (fun M19 N14 w30 hle19 S30 => .inl (run_loadN (us := [_, _]) rfl rfl Try.underlying24 rfl sz24 (S30.suf.boxcs (i := 1) rfl ⟨rfl, rfl, trivial⟩))) ?_
  refine wa_only (i := 1) 7 rfl (by kernel_rfl) rfl rfl (fun w32 S32 => ?_)
  refine (wo_ct rfl rfl rfl rfl rfl rfl rfl cf9 S32 (DiagramOf_t a (hacrs.mono (Hp.le_un _ _)) S32.lend) ?_)
  intro vw33 w33 M21 hle21 S33 hRw33; clear S32
  replace hacrs := hacrs.mono hle21
  replace hbcrs := hbcrs.mono hle21
  replace hr1 := hr1.mono hle21
  replace hr2 := hr2.mono hle21
  obtain ⟨A5, c5, rfl, hr5⟩ := hRw33
  refine LeftW.grow [] (hle21) S33 ?_; clear S33
  change WA _ _ _ _ _ _ _ _ _ _ _ _ [_, _, _]
  refine wa_base ?_
  refine wa_only (i := 3) 6 rfl (by kernel_rfl) rfl rfl (fun w35 S35 => ?_)
  refine (wo_ct rfl rfl rfl rfl rfl rfl rfl cf9 S35 (DiagramOf_t b (hbcrs.mono (Hp.le_un _ _)) S35.lend) ?_)
  intro vw36 w36 M23 hle23 S36 hRw36; clear S35
  replace hacrs := hacrs.mono hle23
  replace hbcrs := hbcrs.mono hle23
  replace hr1 := hr1.mono hle23
  replace hr2 := hr2.mono hle23
  replace hr5 := hr5.mono hle23
  obtain ⟨A6, c6, rfl, hr6⟩ := hRw36
  refine LeftW.grow [] (hle23) S36 ?_; clear S36
  change WA _ _ _ _ _ _ _ _ _ _ _ _ [_, _, _]
  refine wa_base ?_
  refine wa_only (i := 4) 5 rfl (by kernel_rfl) rfl rfl (fun w38 S38 => ?_)
  refine (wo_ct rfl rfl rfl rfl rfl rfl rfl cf10 S38 (Same_t a b (hr5.mono (Hp.le_un _ _)) (hr6.mono (Hp.le_un _ _)) S38.lend) ?_)
  intro vw39 w39 M25 hle25 S39 hRw39; clear S38
  replace hacrs := hacrs.mono hle25
  replace hbcrs := hbcrs.mono hle25
  replace hr1 := hr1.mono hle25
  replace hr2 := hr2.mono hle25
  replace hr5 := hr5.mono hle25
  replace hr6 := hr6.mono hle25
  rcases hRw39 with ⟨hsm, rfl⟩ | ⟨hsa, hsb, rfl⟩
  ·refine LeftW.grow [] (hle25) S39 ?_; clear S39
   change WA _ _ _ _ _ _ _ _ _ _ _ _ [_, _, _]
   refine wa_base ?_
   refine wa_takeP (i := 5) (d := 15) 4 rfl (by kernel_rfl) (by kernel_rfl) (by kernel_rfl) rfl rfl rfl (fun w40 => run_move rfl rfl) ?_
   refine wa_takeP (i := 6) (d := 21) 3 rfl (by kernel_rfl) (by kernel_rfl) (by kernel_rfl) rfl rfl rfl (fun w41 => run_extract rfl rfl rfl) ?_
   refine wa_takeP (i := 7) (d := 22) 2 rfl (by kernel_rfl) (by kernel_rfl) (by kernel_rfl) rfl rfl rfl (fun w42 => run_extract rfl rfl rfl) ?_
   refine wa_takeP (i := 8) (d := 7) 1 rfl (by kernel_rfl) (by kernel_rfl) (by kernel_rfl) rfl rfl rfl (fun w43 => run_assign rfl rfl) ?_
   refine wa_takeP (i := 9) (d := 8) 0 rfl (by kernel_rfl) (by kernel_rfl) (by kernel_rfl) rfl rfl rfl (fun w44 => run_assign rfl rfl) ?_
   refine wa_end (by kernel_rfl) (fun w45 S45 => ?_)
   refine nm_sub [(2, _), (3, _), (5, _), (6, _), (7, _), (8, _)] ⟨rfl, rfl, rfl, rfl, rfl, rfl, trivial⟩ ?_
   refine nm_thn ?_
   refine ws_seqN CanonForms_n7 CanonForms_n8 rfl rfl rfl ?_
   refine ws_seqN CanonForms_n9 CanonForms_n10 rfl rfl rfl ?_
   refine ws_region rfl ?_
   refine wlo 0 1 rfl rfl rfl (wo_run rfl rfl (run_loadN (us := [_, _]) rfl rfl Try.underlying24 rfl sz24 (S45.boxcs (i := 2) rfl ⟨rfl, rfl, trivial⟩)) ?_)
   refine wlo 1 2 rfl rfl rfl (wo_cq rfl rfl rfl rfl rfl rfl rfl cf11 S45 (DiagramMay_q a (hacrs.mono (Hp.le_un _ _)) S45.lend) ?_)
   rintro _ w46 S46 rfl; clear S45
   refine wlo 2 3 rfl rfl rfl (wo_run rfl rfl (run_not rfl rfl) ?_)
   refine wl_end rfl ?_
   refine nm_sub [(2, _), (3, _), (5, _), (6, _), (7, _), (8, _), (25, _)] ⟨rfl, rfl, rfl, rfl, rfl, rfl, rfl, trivial⟩ ?_
   refine nm_thn ?_
   refine ws_condN CanonForms_n11 CanonForms_n12 rfl rfl rfl rfl (fun hb25 => ?_) (fun hb25 => ?_)
   ·simp only [Bool.and_eq_true, Bool.or_eq_true, Bool.and_eq_false_iff, Bool.or_eq_false_iff, decide_eq_true_eq, decide_eq_false_iff_not, Bool.not_eq_true', Bool.not_eq_false'] at hb25
    exfalso; rw [hcana] at hb25; cases hb25
   ·simp only [Bool.and_eq_true, Bool.or_eq_true, Bool.and_eq_false_iff, Bool.or_eq_false_iff, decide_eq_true_eq, decide_eq_false_iff_not, Bool.not_eq_true', Bool.not_eq_false'] at hb25
    refine ws_skip rfl ?_
    refine nm_sub [(2, _), (3, _), (5, _), (6, _), (7, _), (8, _)] ⟨rfl, rfl, rfl, rfl, rfl, rfl, trivial⟩ ?_
    refine nm_thn ?_
    refine ws_seqN CanonForms_n15 CanonForms_n16 rfl rfl rfl ?_
    refine ws_seqN CanonForms_n17 CanonForms_n18 rfl rfl rfl ?_
    refine ws_draw rfl (by kernel_rfl) S46 9 rfl ?_
    clear S46
    refine wa_takeP (i := 0) (d := 47) 8 rfl (by kernel_rfl) (by kernel_rfl) (by kernel_rfl) rfl rfl rfl (fun w47 => run_move rfl rfl) ?_
    refine wa_takeP (i := 1) (d := 48) 7 rfl (by kernel_rfl) (by kernel_rfl) (by kernel_rfl) rfl rfl rfl (fun w48 => run_neq rfl rfl rfl) ?_
    refine wa_takeP (i := 2) (d := 49) 6 rfl (by kernel_rfl) (by kernel_rfl) (by kernel_rfl) rfl rfl rfl (fun w49 => run_move rfl rfl) ?_
    refine wa_split (t := 49) rfl (fun hg49 => ?_) (fun hg49 => ?_)
    ·replace hg49 := of_decide_eq_true hg49
     refine wa_no (i := 3) (d := 50) 5 rfl (by kernel_rfl) (by kernel_rfl) (by kernel_rfl) ⟨_, _, _, rfl, rfl, rfl, rfl⟩ rfl rfl ?_
     refine wa_no (i := 4) (d := 51) 4 rfl (by kernel_rfl) (by kernel_rfl) (by kernel_rfl) ⟨_, _, _, rfl, rfl, rfl, rfl⟩ rfl rfl ?_
     refine wa_no (i := 5) (d := 52) 3 rfl (by kernel_rfl) (by kernel_rfl) (by kernel_rfl) ⟨_, _, _, rfl, rfl, rfl, rfl⟩ rfl rfl ?_
     refine wa_no (i := 6) (d := 53) 2 rfl (by kernel_rfl) (by kernel_rfl) (by kernel_rfl) ⟨_, _, _, rfl, rfl, rfl, rfl⟩ rfl rfl ?_
     refine wa_no (i := 7) (d := 54) 1 rfl (by kernel_rfl) (by kernel_rfl) (by kernel_rfl) ⟨_, _, _, rfl, rfl, rfl, rfl⟩ rfl rfl ?_
     refine wa_takeP (i := 8) (d := 55) 0 rfl (by kernel_rfl) (by kernel_rfl) (by kernel_rfl) rfl rfl rfl (fun w50 => run_pickT rfl rfl rfl) ?_
     refine wa_end (by kernel_rfl) (fun w51 S51 => ?_)
     refine nm_sub [(2, _), (3, _), (7, _), (8, _), (55, _)] ⟨rfl, rfl, rfl, rfl, rfl, trivial⟩ ?_
     refine nm_thn ?_
     refine ws_condTN CanonForms_n19 rfl rfl rfl ?_
     refine ws_seqN CanonForms_n21 CanonForms_n22 rfl rfl rfl ?_
     refine ws_region rfl ?_
     refine wla 0 1 rfl rfl rfl rfl rfl rfl rfl ?_
     refine wl_end rfl ?_
     refine nm_sub [(4, _)] ⟨rfl, trivial⟩ ?_
     refine nm_thn ?_
     refine ws_ret hC [_] rfl rfl ⟨rfl, trivial⟩ ?_
     refine ⟨_, rfl, _, (((hle1.trans hle2).trans hle21).trans hle23).trans hle25, (S51.pick [] [] (by decide) trivial), ?_⟩
     show Value.bool _ = _
     refine congrArg Value.bool ?_
     first | rfl | (rw [decide_eq_true_iff]; omega) | (simp_all; done)
    ·replace hg49 := of_decide_eq_false hg49
     refine wa_take (i := 3) (d := 50) 5 rfl (by kernel_rfl) (by kernel_rfl) (by kernel_rfl) ⟨_, _, _, rfl, rfl, rfl, rfl⟩ rfl rfl (fun M35 N27 w52 hle35 S52 => .inl (run_loadN (us := [_, _]) rfl rfl Try.underlying24 rfl sz24 (S52.suf.boxcs (i := 0) rfl ⟨rfl, rfl, trivial⟩))) ?_
     refine wa_take (i := 4) (d := 51) 4 rfl (by kernel_rfl) (by kernel_rfl) (by kernel_rfl) ⟨_, _, _, rfl, rfl, rfl, rfl⟩ rfl rfl (fun M36 N28 w53 hle36 S53 => .inl (run_loadN (us := [_, _]) rfl rfl Try.underlying24 rfl sz24 (S53.suf.boxcs (i := 2) rfl ⟨rfl, rfl, trivial⟩))) ?_
     refine wa_only (i := 5) 3 rfl (by kernel_rfl) ⟨_, _, _, rfl, rfl, rfl, rfl⟩ rfl (fun w55 S55 => ?_)
     refine (wo_ct rfl rfl rfl rfl rfl rfl rfl cf13 S55 (CanonForm_t a (hacrs.mono (Hp.le_un _ _)) (hna) (haba) S55.lend) ?_)
     intro vw56 w56 M38 hle38 S56 hRw56; clear S55
     replace hacrs := hacrs.mono hle38
     replace hbcrs := hbcrs.mono hle38
     replace hr1 := hr1.mono hle38
     replace hr2 := hr2.mono hle38
     replace hr5 := hr5.mono hle38
     replace hr6 := hr6.mono hle38
     obtain ⟨A7, c7, rfl, hr7⟩ := hRw56
     refine LeftW.grow [] (hle38) S56 ?_; clear S56
     change WA _ _ _ _ _ _ _ _ _ _ _ _ [_, _, _]
     refine wa_base ?_
     refine wa_take (i := 6) (d := 53) 2 rfl (by kernel_rfl) (by kernel_rfl) (by kernel_rfl) ⟨_, _, _, rfl, rfl, rfl, rfl⟩ rfl rfl (fun M39 N30 w57 hle39 S57 => yield_cq rfl rfl rfl rfl rfl cf12 S57 (SameDg_q (canD a) (canD a) ((hr2.mono hle39).mono (Hp.le_un _ _)) ((hr7.mono hle39).mono (Hp.le_un _ _)) S57.lend)) ?_
     refine wa_takeP (i := 7) (d := 54) 1 rfl (by kernel_rfl) (by kernel_rfl) (by kernel_rfl) ⟨_, _, _, rfl, rfl, rfl, rfl⟩ rfl rfl (fun w58 => run_not rfl rfl) ?_
     refine wa_takeP (i := 8) (d := 55) 0 rfl (by kernel_rfl) (by kernel_rfl) (by kernel_rfl) rfl rfl rfl (fun w59 => run_pickF rfl rfl rfl) ?_
     refine wa_end (by kernel_rfl) (fun w60 S60 => ?_)
     refine nm_sub [(2, _), (3, _), (7, _), (8, _), (55, _)] ⟨rfl, rfl, rfl, rfl, rfl, trivial⟩ ?_
     refine nm_thn ?_
     refine ws_condN CanonForms_n19 CanonForms_n20 rfl rfl rfl rfl (fun hb55 => ?_) (fun hb55 => ?_)
     ·simp only [Bool.and_eq_true, Bool.or_eq_true, Bool.and_eq_false_iff, Bool.or_eq_false_iff, decide_eq_true_eq, decide_eq_false_iff_not, Bool.not_eq_true', Bool.not_eq_false'] at hb55
      exfalso; rw [sameB_refl] at hb55; simp at hb55
     ·simp only [Bool.and_eq_true, Bool.or_eq_true, Bool.and_eq_false_iff, Bool.or_eq_false_iff, decide_eq_true_eq, decide_eq_false_iff_not, Bool.not_eq_true', Bool.not_eq_false'] at hb55
      refine ws_skip rfl ?_
      refine nm_sub [(2, _), (3, _), (7, _), (8, _)] ⟨rfl, rfl, rfl, rfl, trivial⟩ ?_
      refine nm_thn ?_
      refine ws_seqN CanonForms_n23 CanonForms_n24 rfl rfl rfl ?_
      refine ws_seqN CanonForms_n25 CanonForms_n26 rfl rfl rfl ?_
      refine ws_region rfl ?_
      refine wlo 0 1 rfl rfl rfl (wo_run rfl rfl (run_loadN (us := [_, _]) rfl rfl Try.underlying24 rfl sz24 (S60.boxcs (i := 1) rfl ⟨rfl, rfl, trivial⟩)) ?_)
      refine wlo 1 2 rfl rfl rfl (wo_cq rfl rfl rfl rfl rfl rfl rfl cf11 S60 (DiagramMay_q b (hbcrs.mono (Hp.le_un _ _)) S60.lend) ?_)
      rintro _ w61 S61 rfl; clear S60
      refine wlo 2 3 rfl rfl rfl (wo_run rfl rfl (run_not rfl rfl) ?_)
      refine wl_end rfl ?_
      refine nm_sub [(2, _), (3, _), (7, _), (8, _), (58, _)] ⟨rfl, rfl, rfl, rfl, rfl, trivial⟩ ?_
      refine nm_thn ?_
      refine ws_condN CanonForms_n27 CanonForms_n28 rfl rfl rfl rfl (fun hb58 => ?_) (fun hb58 => ?_)
      ·simp only [Bool.and_eq_true, Bool.or_eq_true, Bool.and_eq_false_iff, Bool.or_eq_false_iff, decide_eq_true_eq, decide_eq_false_iff_not, Bool.not_eq_true', Bool.not_eq_false'] at hb58
       refine ws_seqN CanonForms_n29 CanonForms_n30 rfl rfl rfl ?_
       refine ws_region rfl ?_
       refine wlm 0 1 rfl rfl rfl rfl rfl rfl rfl ?_
       refine wlo 1 2 rfl rfl rfl (wo_run rfl rfl (run_eql rfl rfl rfl) ?_)
       refine wlm 2 3 rfl rfl rfl rfl rfl rfl rfl ?_
       refine wl_split (t := 61) rfl (fun hg61 => ?_) (fun hg61 => ?_)
       ·replace hg61 := of_decide_eq_true hg61
        refine wl_opG (k := 3) (k' := 4) rfl rfl ⟨_, _, _, rfl, rfl, rfl, rfl⟩ rfl (wo_run rfl rfl (run_move rfl rfl) ?_)
        refine wl_opG (k := 4) (k' := 5) rfl rfl ⟨_, _, _, rfl, rfl, rfl, rfl⟩ rfl (wo_run rfl rfl (run_not rfl rfl) ?_)
        refine wlo 5 6 rfl rfl rfl (wo_run rfl rfl (run_pickT rfl rfl rfl) ?_)
        refine wla 6 7 rfl rfl rfl rfl rfl rfl rfl ?_
        refine wl_end rfl ?_
        refine nm_sub [(4, _)] ⟨rfl, trivial⟩ ?_
        refine nm_thn ?_
        refine ws_ret hC [_] rfl rfl ⟨rfl, trivial⟩ ?_
        refine ⟨_, rfl, _, ((((hle1.trans hle2).trans hle21).trans hle23).trans hle25).trans hle38, (S61.pick [] [] (by decide) trivial), ?_⟩
        show Value.bool _ = _
        refine congrArg Value.bool ?_
        first | rfl | (rw [decide_eq_true_iff]; omega) | (simp_all; done)
       ·replace hg61 := of_decide_eq_false hg61
        refine wl_no (k := 3) (k' := 4) (d := 62) rfl rfl ⟨_, _, _, rfl, rfl, rfl, rfl⟩ rfl rfl ?_
        refine wl_no (k := 4) (k' := 5) (d := 63) rfl rfl ⟨_, _, _, rfl, rfl, rfl, rfl⟩ rfl rfl ?_
        refine wlo 5 6 rfl rfl rfl (wo_run rfl rfl (run_pickF rfl rfl rfl) ?_)
        refine wla 6 7 rfl rfl rfl rfl rfl rfl rfl ?_
        refine wl_end rfl ?_
        refine nm_sub [(4, _)] ⟨rfl, trivial⟩ ?_
        refine nm_thn ?_
        refine ws_ret hC [_] rfl rfl ⟨rfl, trivial⟩ ?_
        refine ⟨_, rfl, _, ((((hle1.trans hle2).trans hle21).trans hle23).trans hle25).trans hle38, (S61.pick [] [] (by decide) trivial), ?_⟩
        show Value.bool _ = _
        refine congrArg Value.bool ?_
        first | rfl | (rw [decide_eq_true_iff]; omega) | (simp_all; done)
      ·simp only [Bool.and_eq_true, Bool.or_eq_true, Bool.and_eq_false_iff, Bool.or_eq_false_iff, decide_eq_true_eq, decide_eq_false_iff_not, Bool.not_eq_true', Bool.not_eq_false'] at hb58
       exfalso; (rw [hcana] at hsm; rcases hsm with h | h; cases h; rw [h] at hb58; cases hb58)
  ·obtain ⟨hnb, habb, _, _⟩ := mayO hsb
   refine LeftW.grow [] (hle25) S39 ?_; clear S39
   change WA _ _ _ _ _ _ _ _ _ _ _ _ [_, _, _]
   refine wa_base ?_
   refine wa_takeP (i := 5) (d := 15) 4 rfl (by kernel_rfl) (by kernel_rfl) (by kernel_rfl) rfl rfl rfl (fun w62 => run_move rfl rfl) ?_
   refine wa_takeP (i := 6) (d := 21) 3 rfl (by kernel_rfl) (by kernel_rfl) (by kernel_rfl) rfl rfl rfl (fun w63 => run_extract rfl rfl rfl) ?_
   refine wa_takeP (i := 7) (d := 22) 2 rfl (by kernel_rfl) (by kernel_rfl) (by kernel_rfl) rfl rfl rfl (fun w64 => run_extract rfl rfl rfl) ?_
   refine wa_takeP (i := 8) (d := 7) 1 rfl (by kernel_rfl) (by kernel_rfl) (by kernel_rfl) rfl rfl rfl (fun w65 => run_assign rfl rfl) ?_
   refine wa_takeP (i := 9) (d := 8) 0 rfl (by kernel_rfl) (by kernel_rfl) (by kernel_rfl) rfl rfl rfl (fun w66 => run_assign rfl rfl) ?_
   refine wa_end (by kernel_rfl) (fun w67 S67 => ?_)
   refine nm_sub [(2, _), (3, _), (5, _), (6, _), (7, _), (8, _)] ⟨rfl, rfl, rfl, rfl, rfl, rfl, trivial⟩ ?_
   refine nm_thn ?_
   refine ws_seqN CanonForms_n7 CanonForms_n8 rfl rfl rfl ?_
   refine ws_seqN CanonForms_n9 CanonForms_n10 rfl rfl rfl ?_
   refine ws_region rfl ?_
   refine wlo 0 1 rfl rfl rfl (wo_run rfl rfl (run_loadN (us := [_, _]) rfl rfl Try.underlying24 rfl sz24 (S67.boxcs (i := 2) rfl ⟨rfl, rfl, trivial⟩)) ?_)
   refine wlo 1 2 rfl rfl rfl (wo_cq rfl rfl rfl rfl rfl rfl rfl cf11 S67 (DiagramMay_q a (hacrs.mono (Hp.le_un _ _)) S67.lend) ?_)
   rintro _ w68 S68 rfl; clear S67
   refine wlo 2 3 rfl rfl rfl (wo_run rfl rfl (run_not rfl rfl) ?_)
   refine wl_end rfl ?_
   refine nm_sub [(2, _), (3, _), (5, _), (6, _), (7, _), (8, _), (25, _)] ⟨rfl, rfl, rfl, rfl, rfl, rfl, rfl, trivial⟩ ?_
   refine nm_thn ?_
   refine ws_condN CanonForms_n11 CanonForms_n12 rfl rfl rfl rfl (fun hb25 => ?_) (fun hb25 => ?_)
   ·simp only [Bool.and_eq_true, Bool.or_eq_true, Bool.and_eq_false_iff, Bool.or_eq_false_iff, decide_eq_true_eq, decide_eq_false_iff_not, Bool.not_eq_true', Bool.not_eq_false'] at hb25
    exfalso; rw [hcana] at hb25; cases hb25
   ·simp only [Bool.and_eq_true, Bool.or_eq_true, Bool.and_eq_false_iff, Bool.or_eq_false_iff, decide_eq_true_eq, decide_eq_false_iff_not, Bool.not_eq_true', Bool.not_eq_false'] at hb25
    refine ws_skip rfl ?_
    refine nm_sub [(2, _), (3, _), (5, _), (6, _), (7, _), (8, _)] ⟨rfl, rfl, rfl, rfl, rfl, rfl, trivial⟩ ?_
    refine nm_thn ?_
    refine ws_seqN CanonForms_n15 CanonForms_n16 rfl rfl rfl ?_
    refine ws_seqN CanonForms_n17 CanonForms_n18 rfl rfl rfl ?_
    refine ws_draw rfl (by kernel_rfl) S68 9 rfl ?_
    clear S68
    refine wa_takeP (i := 0) (d := 47) 8 rfl (by kernel_rfl) (by kernel_rfl) (by kernel_rfl) rfl rfl rfl (fun w69 => run_move rfl rfl) ?_
    refine wa_takeP (i := 1) (d := 48) 7 rfl (by kernel_rfl) (by kernel_rfl) (by kernel_rfl) rfl rfl rfl (fun w70 => run_neq rfl rfl rfl) ?_
    refine wa_takeP (i := 2) (d := 49) 6 rfl (by kernel_rfl) (by kernel_rfl) (by kernel_rfl) rfl rfl rfl (fun w71 => run_move rfl rfl) ?_
    refine wa_split (t := 49) rfl (fun hg49 => ?_) (fun hg49 => ?_)
    ·replace hg49 := of_decide_eq_true hg49
     refine wa_no (i := 3) (d := 50) 5 rfl (by kernel_rfl) (by kernel_rfl) (by kernel_rfl) ⟨_, _, _, rfl, rfl, rfl, rfl⟩ rfl rfl ?_
     refine wa_no (i := 4) (d := 51) 4 rfl (by kernel_rfl) (by kernel_rfl) (by kernel_rfl) ⟨_, _, _, rfl, rfl, rfl, rfl⟩ rfl rfl ?_
     refine wa_no (i := 5) (d := 52) 3 rfl (by kernel_rfl) (by kernel_rfl) (by kernel_rfl) ⟨_, _, _, rfl, rfl, rfl, rfl⟩ rfl rfl ?_
     refine wa_no (i := 6) (d := 53) 2 rfl (by kernel_rfl) (by kernel_rfl) (by kernel_rfl) ⟨_, _, _, rfl, rfl, rfl, rfl⟩ rfl rfl ?_
     refine wa_no (i := 7) (d := 54) 1 rfl (by kernel_rfl) (by kernel_rfl) (by kernel_rfl) ⟨_, _, _, rfl, rfl, rfl, rfl⟩ rfl rfl ?_
     refine wa_takeP (i := 8) (d := 55) 0 rfl (by kernel_rfl) (by kernel_rfl) (by kernel_rfl) rfl rfl rfl (fun w72 => run_pickT rfl rfl rfl) ?_
     refine wa_end (by kernel_rfl) (fun w73 S73 => ?_)
     refine nm_sub [(2, _), (3, _), (7, _), (8, _), (55, _)] ⟨rfl, rfl, rfl, rfl, rfl, trivial⟩ ?_
     refine nm_thn ?_
     refine ws_condTN CanonForms_n19 rfl rfl rfl ?_
     refine ws_seqN CanonForms_n21 CanonForms_n22 rfl rfl rfl ?_
     refine ws_region rfl ?_
     refine wla 0 1 rfl rfl rfl rfl rfl rfl rfl ?_
     refine wl_end rfl ?_
     refine nm_sub [(4, _)] ⟨rfl, trivial⟩ ?_
     refine nm_thn ?_
     refine ws_ret hC [_] rfl rfl ⟨rfl, trivial⟩ ?_
     refine ⟨_, rfl, _, (((hle1.trans hle2).trans hle21).trans hle23).trans hle25, (S73.pick [] [] (by decide) trivial), ?_⟩
     show Value.bool _ = _
     refine congrArg Value.bool ?_
     first | rfl | (rw [decide_eq_true_iff]; omega) | (simp_all; done)
    ·replace hg49 := of_decide_eq_false hg49
     refine wa_take (i := 3) (d := 50) 5 rfl (by kernel_rfl) (by kernel_rfl) (by kernel_rfl) ⟨_, _, _, rfl, rfl, rfl, rfl⟩ rfl rfl (fun M51 N42 w74 hle51 S74 => .inl (run_loadN (us := [_, _]) rfl rfl Try.underlying24 rfl sz24 (S74.suf.boxcs (i := 0) rfl ⟨rfl, rfl, trivial⟩))) ?_
     refine wa_take (i := 4) (d := 51) 4 rfl (by kernel_rfl) (by kernel_rfl) (by kernel_rfl) ⟨_, _, _, rfl, rfl, rfl, rfl⟩ rfl rfl (fun M52 N43 w75 hle52 S75 => .inl (run_loadN (us := [_, _]) rfl rfl Try.underlying24 rfl sz24 (S75.suf.boxcs (i := 2) rfl ⟨rfl, rfl, trivial⟩))) ?_
     refine wa_only (i := 5) 3 rfl (by kernel_rfl) ⟨_, _, _, rfl, rfl, rfl, rfl⟩ rfl (fun w77 S77 => ?_)
     refine (wo_ct rfl rfl rfl rfl rfl rfl rfl cf13 S77 (CanonForm_t a (hacrs.mono (Hp.le_un _ _)) (hna) (haba) S77.lend) ?_)
     intro vw78 w78 M54 hle54 S78 hRw78; clear S77
     replace hacrs := hacrs.mono hle54
     replace hbcrs := hbcrs.mono hle54
     replace hr1 := hr1.mono hle54
     replace hr2 := hr2.mono hle54
     replace hr5 := hr5.mono hle54
     replace hr6 := hr6.mono hle54
     obtain ⟨A8, c8, rfl, hr8⟩ := hRw78
     refine LeftW.grow [] (hle54) S78 ?_; clear S78
     change WA _ _ _ _ _ _ _ _ _ _ _ _ [_, _, _]
     refine wa_base ?_
     refine wa_take (i := 6) (d := 53) 2 rfl (by kernel_rfl) (by kernel_rfl) (by kernel_rfl) ⟨_, _, _, rfl, rfl, rfl, rfl⟩ rfl rfl (fun M55 N45 w79 hle55 S79 => yield_cq rfl rfl rfl rfl rfl cf12 S79 (SameDg_q (canD a) (canD a) ((hr2.mono hle55).mono (Hp.le_un _ _)) ((hr8.mono hle55).mono (Hp.le_un _ _)) S79.lend)) ?_
     refine wa_takeP (i := 7) (d := 54) 1 rfl (by kernel_rfl) (by kernel_rfl) (by kernel_rfl) ⟨_, _, _, rfl, rfl, rfl, rfl⟩ rfl rfl (fun w80 => run_not rfl rfl) ?_
     refine wa_takeP (i := 8) (d := 55) 0 rfl (by kernel_rfl) (by kernel_rfl) (by kernel_rfl) rfl rfl rfl (fun w81 => run_pickF rfl rfl rfl) ?_
     refine wa_end (by kernel_rfl) (fun w82 S82 => ?_)
     refine nm_sub [(2, _), (3, _), (7, _), (8, _), (55, _)] ⟨rfl, rfl, rfl, rfl, rfl, trivial⟩ ?_
     refine nm_thn ?_
     refine ws_condN CanonForms_n19 CanonForms_n20 rfl rfl rfl rfl (fun hb55 => ?_) (fun hb55 => ?_)
     ·simp only [Bool.and_eq_true, Bool.or_eq_true, Bool.and_eq_false_iff, Bool.or_eq_false_iff, decide_eq_true_eq, decide_eq_false_iff_not, Bool.not_eq_true', Bool.not_eq_false'] at hb55
      exfalso; rw [sameB_refl] at hb55; simp at hb55
     ·simp only [Bool.and_eq_true, Bool.or_eq_true, Bool.and_eq_false_iff, Bool.or_eq_false_iff, decide_eq_true_eq, decide_eq_false_iff_not, Bool.not_eq_true', Bool.not_eq_false'] at hb55
      refine ws_skip rfl ?_
      refine nm_sub [(2, _), (3, _), (7, _), (8, _)] ⟨rfl, rfl, rfl, rfl, trivial⟩ ?_
      refine nm_thn ?_
      refine ws_seqN CanonForms_n23 CanonForms_n24 rfl rfl rfl ?_
      refine ws_seqN CanonForms_n25 CanonForms_n26 rfl rfl rfl ?_
      refine ws_region rfl ?_
      refine wlo 0 1 rfl rfl rfl (wo_run rfl rfl (run_loadN (us := [_, _]) rfl rfl Try.underlying24 rfl sz24 (S82.boxcs (i := 1) rfl ⟨rfl, rfl, trivial⟩)) ?_)
      refine wlo 1 2 rfl rfl rfl (wo_cq rfl rfl rfl rfl rfl rfl rfl cf11 S82 (DiagramMay_q b (hbcrs.mono (Hp.le_un _ _)) S82.lend) ?_)
      rintro _ w83 S83 rfl; clear S82
      refine wlo 2 3 rfl rfl rfl (wo_run rfl rfl (run_not rfl rfl) ?_)
      refine wl_end rfl ?_
      refine nm_sub [(2, _), (3, _), (7, _), (8, _), (58, _)] ⟨rfl, rfl, rfl, rfl, rfl, trivial⟩ ?_
      refine nm_thn ?_
      refine ws_condN CanonForms_n27 CanonForms_n28 rfl rfl rfl rfl (fun hb58 => ?_) (fun hb58 => ?_)
      ·simp only [Bool.and_eq_true, Bool.or_eq_true, Bool.and_eq_false_iff, Bool.or_eq_false_iff, decide_eq_true_eq, decide_eq_false_iff_not, Bool.not_eq_true', Bool.not_eq_false'] at hb58
       exfalso; rw [hsb] at hb58; cases hb58
      ·simp only [Bool.and_eq_true, Bool.or_eq_true, Bool.and_eq_false_iff, Bool.or_eq_false_iff, decide_eq_true_eq, decide_eq_false_iff_not, Bool.not_eq_true', Bool.not_eq_false'] at hb58
       refine ws_skip rfl ?_
       refine nm_sub [(2, _), (3, _), (7, _), (8, _)] ⟨rfl, rfl, rfl, rfl, trivial⟩ ?_
       refine nm_thn ?_
       refine ws_seqN CanonForms_n31 CanonForms_n32 rfl rfl rfl ?_
       refine ws_draw rfl (by kernel_rfl) S83 12 rfl ?_
       clear S83
       refine wa_takeP (i := 0) (d := 65) 11 rfl (by kernel_rfl) (by kernel_rfl) (by kernel_rfl) rfl rfl rfl (fun w84 => run_move rfl rfl) ?_
       refine wa_takeP (i := 1) (d := 66) 10 rfl (by kernel_rfl) (by kernel_rfl) (by kernel_rfl) rfl rfl rfl (fun w85 => run_eql rfl rfl rfl) ?_
       refine wa_takeP (i := 2) (d := 67) 9 rfl (by kernel_rfl) (by kernel_rfl) (by kernel_rfl) rfl rfl rfl (fun w86 => run_move rfl rfl) ?_
       refine wa_split (t := 67) rfl (fun hg67 => ?_) (fun hg67 => ?_)
       ·replace hg67 := of_decide_eq_true hg67
        refine wa_takeP (i := 3) (d := 68) 8 rfl (by kernel_rfl) (by kernel_rfl) (by kernel_rfl) ⟨_, _, _, rfl, rfl, rfl, rfl⟩ rfl rfl (fun w87 => run_move rfl rfl) ?_
        refine wa_take (i := 4) (d := 69) 7 rfl (by kernel_rfl) (by kernel_rfl) (by kernel_rfl) ⟨_, _, _, rfl, rfl, rfl, rfl⟩ rfl rfl (fun M62 N52 w88 hle62 S88 => .inl (run_loadN (us := [_, _]) rfl rfl Try.underlying24 rfl sz24 (S88.suf.boxcs (i := 2) rfl ⟨rfl, rfl, trivial⟩))) ?_
        refine wa_take (i := 6) (d := 71) 6 rfl (by kernel_rfl) (by kernel_rfl) (by kernel_rfl) ⟨_, _, _, rfl, rfl, rfl, rfl⟩ rfl rfl (fun M64 N54 w90 hle64 S90 => .inl (run_loadN (us := [_, _]) rfl rfl Try.underlying24 rfl sz24 (S90.suf.boxcs (i := 1) rfl ⟨rfl, rfl, trivial⟩))) ?_
        refine wa_only (i := 5) 5 rfl (by kernel_rfl) ⟨_, _, _, rfl, rfl, rfl, rfl⟩ rfl (fun w92 S92 => ?_)
        refine (wo_ct rfl rfl rfl rfl rfl rfl rfl cf13 S92 (CanonForm_t a (hacrs.mono (Hp.le_un _ _)) (hna) (haba) S92.lend) ?_)
        intro vw93 w93 M66 hle66 S93 hRw93; clear S92
        replace hacrs := hacrs.mono hle66
        replace hbcrs := hbcrs.mono hle66
        replace hr1 := hr1.mono hle66
        replace hr2 := hr2.mono hle66
        replace hr5 := hr5.mono hle66
        replace hr6 := hr6.mono hle66
        replace hr8 := hr8.mono hle66
        obtain ⟨A9, c9, rfl, hr9⟩ := hRw93
        refine LeftW.grow [] (hle66) S93 ?_; clear S93
        change WA _ _ _ _ _ _ _ _ _ _ _ _ [_, _, _]
        refine wa_base ?_
        refine wa_only (i := 7) 4 rfl (by kernel_rfl) ⟨_, _, _, rfl, rfl, rfl, rfl⟩ rfl (fun w95 S95 => ?_)
        refine (wo_ct rfl rfl rfl rfl rfl rfl rfl cf13 S95 (CanonForm_t b (hbcrs.mono (Hp.le_un _ _)) (hnb) (habb) S95.lend) ?_)
        intro vw96 w96 M68 hle68 S96 hRw96; clear S95
        replace hacrs := hacrs.mono hle68
        replace hbcrs := hbcrs.mono hle68
        replace hr1 := hr1.mono hle68
        replace hr2 := hr2.mono hle68
        replace hr5 := hr5.mono hle68
        replace hr6 := hr6.mono hle68
        replace hr8 := hr8.mono hle68
        replace hr9 := hr9.mono hle68
        obtain ⟨A10, c10, rfl, hr10⟩ := hRw96
        refine LeftW.grow [] (hle68) S96 ?_; clear S96
        change WA _ _ _ _ _ _ _ _ _ _ _ _ [_, _, _]
        refine wa_base ?_
        refine wa_take (i := 8) (d := 73) 3 rfl (by kernel_rfl) (by kernel_rfl) (by kernel_rfl) ⟨_, _, _, rfl, rfl, rfl, rfl⟩ rfl rfl (fun M69 N57 w97 hle69 S97 => yield_cq rfl rfl rfl rfl rfl cf12 S97 (SameDg_q (canD a) (canD b) ((hr9.mono hle69).mono (Hp.le_un _ _)) ((hr10.mono hle69).mono (Hp.le_un _ _)) S97.lend)) ?_
        refine wa_takeP (i := 9) (d := 74) 2 rfl (by kernel_rfl) (by kernel_rfl) (by kernel_rfl) ⟨_, _, _, rfl, rfl, rfl, rfl⟩ rfl rfl (fun w98 => run_beq rfl rfl rfl Try.underlying4) ?_
        refine wa_takeP (i := 10) (d := 75) 1 rfl (by kernel_rfl) (by kernel_rfl) (by kernel_rfl) rfl rfl rfl (fun w99 => run_pickT rfl rfl rfl) ?_
        refine wa_takeP (i := 11) (d := 4) 0 rfl (by kernel_rfl) (by kernel_rfl) (by kernel_rfl) rfl rfl rfl (fun w100 => run_assign rfl rfl) ?_
        refine wa_end (by kernel_rfl) (fun w101 S101 => ?_)
        refine nm_sub [(4, _)] ⟨rfl, trivial⟩ ?_
        refine nm_thn ?_
        refine ws_ret hC [_] rfl rfl ⟨rfl, trivial⟩ ?_
        refine ⟨_, rfl, _, ((((((hle1.trans hle2).trans hle21).trans hle23).trans hle25).trans hle54).trans hle66).trans hle68, (S101.pick [] [] (by decide) trivial), ?_⟩
        show Value.bool _ = _
        refine congrArg Value.bool ?_
        first | rfl | (rw [decide_eq_true_iff]; omega) | (simp_all; done)
       ·replace hg67 := of_decide_eq_false hg67
        refine wa_no (i := 3) (d := 68) 8 rfl (by kernel_rfl) (by kernel_rfl) (by kernel_rfl) ⟨_, _, _, rfl, rfl, rfl, rfl⟩ rfl rfl ?_
        refine wa_no (i := 4) (d := 69) 7 rfl (by kernel_rfl) (by kernel_rfl) (by kernel_rfl) ⟨_, _, _, rfl, rfl, rfl, rfl⟩ rfl rfl ?_
        refine wa_no (i := 5) (d := 70) 6 rfl (by kernel_rfl) (by kernel_rfl) (by kernel_rfl) ⟨_, _, _, rfl, rfl, rfl, rfl⟩ rfl rfl ?_
        refine wa_no (i := 6) (d := 71) 5 rfl (by kernel_rfl) (by kernel_rfl) (by kernel_rfl) ⟨_, _, _, rfl, rfl, rfl, rfl⟩ rfl rfl ?_
        refine wa_no (i := 7) (d := 72) 4 rfl (by kernel_rfl) (by kernel_rfl) (by kernel_rfl) ⟨_, _, _, rfl, rfl, rfl, rfl⟩ rfl rfl ?_
        refine wa_no (i := 8) (d := 73) 3 rfl (by kernel_rfl) (by kernel_rfl) (by kernel_rfl) ⟨_, _, _, rfl, rfl, rfl, rfl⟩ rfl rfl ?_
        refine wa_no (i := 9) (d := 74) 2 rfl (by kernel_rfl) (by kernel_rfl) (by kernel_rfl) ⟨_, _, _, rfl, rfl, rfl, rfl⟩ rfl rfl ?_
        refine wa_takeP (i := 10) (d := 75) 1 rfl (by kernel_rfl) (by kernel_rfl) (by kernel_rfl) rfl rfl rfl (fun w102 => run_pickF rfl rfl rfl) ?_
        refine wa_takeP (i := 11) (d := 4) 0 rfl (by kernel_rfl) (by kernel_rfl) (by kernel_rfl) rfl rfl rfl (fun w103 => run_assign rfl rfl) ?_
        refine wa_end (by kernel_rfl) (fun w104 S104 => ?_)
        refine nm_sub [(4, _)] ⟨rfl, trivial⟩ ?_
        refine nm_thn ?_
        refine ws_ret hC [_] rfl rfl ⟨rfl, trivial⟩ ?_
        refine ⟨_, rfl, _, ((((hle1.trans hle2).trans hle21).trans hle23).trans hle25).trans hle54, (S104.pick [] [] (by decide) trivial), ?_⟩
        show Value.bool _ = _
        refine congrArg Value.bool ?_
        first | rfl | (rw [decide_eq_true_iff]; omega) | (simp_all; done)
end Go.Proofs.Ytefkjfcncpmneaa
namespace Go.Proofs.Ytefkjfcncpmneaa
open Go.ChangeShapes Go.WideShapes Go.ChangeAt Go.RowKit Go.Joins Go.Deep
theorem sized_in {H : Type} {P : Program} {ts : List TypeId} {ds : List (DataW H)} (h : (DataW.weightsEach P ts ds).all (· ≤ reachBytes) = true) {j i : Nat} {t e : TypeId} {f : Field} {fs : Array Field} {parts : List (DataW H)} {elems spare : List (DataW H)}
    (ht : ts[j]? = some t) (hd : ds[j]? = some (.agg parts)) (hu : P.underlying t = some (.struct fs)) (hf : fs.toList[i]? = some f) (hp : parts[i]? = some (.slice elems spare)) (he : P.underlying f.type = some (.slice e)) :
    (elems.length + spare.length) * P.bytesOf e ≤ reachBytes := by
  have m1 := DataW.weights_mem_each (P := P) (ts := fs.toList.map (·.type)) (j := i) (t := f.type) (by rw [List.getElem?_map, hf]; rfl) hp ((elems.length + spare.length) * P.bytesOf e) (by simp [DataW.weights, he])
  have m2 := DataW.weights_mem_each (P := P) ht hd ((elems.length + spare.length) * P.bytesOf e) (by simp only [DataW.weights, hu]; exact m1)
  simpa using List.all_eq_true.1 h _ m2
theorem len5 (l : List Cr) : (l.flatMap codCr.f).length = l.length * 5 := by
  induction l with
  | nil => rfl
  | cons x l ih => rw [List.flatMap_cons, List.length_append, ih, codCr.hf, List.length_cons]; show 5 + _ = _; omega
theorem take1 {l : List Value} {j : Nat} {u : Value} (h : (l.drop j).take 1 = [u]) : l[j]? = some u := by
  have := congrArg (fun z => z[0]?) h
  simpa [List.getElem?_take, List.getElem?_drop] using this
theorem pick {α : Type} [Inhabited α] {m : Nat} {Q : Nat → α → Prop} (h : ∀ i, i < m → ∃ x, Q i x) : ∃ F : Nat → α, ∀ i, i < m → Q i (F i) :=
  ⟨fun i => if hi : i < m then (h i hi).choose else default, fun i hi => by
    show Q i (if hi : i < m then (h i hi).choose else default)
    rw [dif_pos hi]; exact (h i hi).choose_spec⟩
section
variable {H : Type} {enc : TypeId × Value → H} {w : World}
theorem f_int {n j : Nat} {cs : List Value} {y : DataW H × List MemPlace} (h : DataW.trod enc Try.prog w 0 (fun _ => true) true n 3 ((cs.drop j).take (Try.prog.cellsOf 3)) = some y) : ∃ a, cs[j]? = some (.int .i64 a) := by
  obtain ⟨a, e, _⟩ := DataW.trod_int Try.underlying3 h
  rw [show Try.prog.cellsOf 3 = 1 by kernel_rfl] at e
  exact ⟨a, take1 e⟩
theorem f_bool {n j : Nat} {cs : List Value} {y : DataW H × List MemPlace} (h : DataW.trod enc Try.prog w 0 (fun _ => true) true n 4 ((cs.drop j).take (Try.prog.cellsOf 4)) = some y) : ∃ a, cs[j]? = some (.bool a) := by
  obtain ⟨a, e, _⟩ := DataW.trod_bool Try.underlying4 h
  rw [show Try.prog.cellsOf 4 = 1 by kernel_rfl] at e
  exact ⟨a, take1 e⟩
set_option maxRecDepth 100000 in
theorem open_cr {n : Nat} {cs : List Value} {x : DataW H × List MemPlace} (h : DataW.trod enc Try.prog w 0 (fun _ => true) true n 59 cs = some x) : ∃ c : Cr, ∀ j u, j < 5 → (crF c)[j]? = some u → cs[j]? = some u := by
  obtain ⟨xs, k, _, _, _, hl, hf⟩ := DataW.trod_struct Try.underlying59 h
  match xs, hl with
  | [y0, y1, y2, y3, y4], _ =>
    have g0 := hf 0 _ rfl
    have g1 := hf 1 _ rfl
    have g2 := hf 2 _ rfl
    have g3 := hf 3 _ rfl
    have g4 := hf 4 _ rfl
    obtain ⟨n0, e0⟩ := f_int (j := 0) (y := y0) g0
    obtain ⟨n1, e1⟩ := f_int (j := 1) (y := y1) g1
    obtain ⟨n2, e2⟩ := f_int (j := 2) (y := y2) g2
    obtain ⟨n3, e3⟩ := f_int (j := 3) (y := y3) g3
    obtain ⟨n4, e4⟩ := f_bool (j := 4) (y := y4) g4
    refine ⟨⟨n0, n1, n2, n3, n4⟩, fun j u hj hu => ?_⟩
    match j, hj with
    | 0, _ => simp [crF] at hu; subst hu; exact e0
    | 1, _ => simp [crF] at hu; subst hu; exact e1
    | 2, _ => simp [crF] at hu; subst hu; exact e2
    | 3, _ => simp [crF] at hu; subst hu; exact e3
    | 4, _ => simp [crF] at hu; subst hu; exact e4
set_option maxRecDepth 100000 in
theorem open_Dg {v : Value} {d : DataW H} {p : List MemPlace} {b0 : Nat} (hv : Value.okWide Try.prog w .any b0 24 v) (h : DataW.Trod enc Try.prog w 0 (fun _ => true) true 24 v d p) (hlt : ∀ x ∈ p, x.block < w.heap.size)
    {ts : List TypeId} {ds : List (DataW H)} (hsz : (DataW.weightsEach Try.prog ts ds).all (· ≤ reachBytes) = true) {j : Nat} (hj : ts[j]? = some 24) (hd : ds[j]? = some d) :
    ∃ g : Dg, IsDg w w.heap.size v g := by
  obtain ⟨v0, v1, y0, y1, n, rfl, rfl, rfl, t0, t1⟩ := open_agg2 Try.underlying24 (by kernel_rfl) (by kernel_rfl) hv h
  obtain ⟨l, e1, _, _⟩ := DataW.trod_int Try.underlying3 t1
  injection e1 with e1
  subst e1
  have hs := fun es sp (hp : y0.1 = .slice es sp) => sized_in hsz hj hd Try.underlying24 (i := 0) rfl (by rw [List.getElem?_cons_zero, hp]) Try.underlying22
  rcases open_slice Try.underlying22 t0 with ⟨hcs, hx⟩ | ⟨a, len, cap, m, k, D, Pl, hcs, hb, hl, hm, hmm, hx, hi⟩
  · injection hcs with hcs
    subst hcs
    exact ⟨⟨[], l⟩, none, 0, rfl, Nat.le_refl _, Rd.nil_⟩
  · injection hcs with hcs
    subst hcs
    have hk : Try.prog.cellsOf 59 = 5 := by kernel_rfl
    have hby : Try.prog.bytesOf 59 = 40 := by kernel_rfl
    have hs := hs _ _ (by rw [hx])
    rw [hby] at hs
    simp only [if_true] at hmm
    subst hmm
    simp only [List.length_map, List.length_range, reachBytes] at hs
    obtain ⟨F, hF⟩ := pick (m := m) (Q := fun i (c : Cr) => ∀ j u, j < 5 → (crF c)[j]? = some u → w.cell? (a.add (i * 5 + j)) = some u) (fun i him => by
      obtain ⟨cs', hc, ht'⟩ := hi i him
      rw [hk] at hc
      obtain ⟨c, hc'⟩ := open_cr ht'
      obtain ⟨_, hcl, hat⟩ := World.cells?_some hc
      refine ⟨c, fun j u hj hu => ?_⟩
      rw [← Go.Deep.add_add, hat j hj]
      exact hc' j u hj hu)
    have hlen : ((List.range len).map F).length = len := by simp
    refine ⟨⟨(List.range len).map F, l⟩, some a, m, by rw [hlen], by rw [hlen]; exact hl, ?_⟩
    refine ⟨len5 _, by show _ * 40 ≤ _; rw [hlen]; omega, fun h0 => ?_⟩
    rw [hlen] at h0
    obtain ⟨b, off, spot⟩ := a
    have hspot : spot = none := by simpa [Addr.add] using World.cell?_spot (hF 0 (by omega) 0 _ (by omega) rfl)
    subst hspot
    refine ⟨b, off, rfl, hlt (.cell b off) (List.mem_append_left _ (by rw [hx]; exact List.mem_append_left _ (MemPlace.mem_row.2 ⟨0, by rw [hk]; omega, by simp⟩))), fun i u hu => ?_⟩
    have hil : i < len * 5 := by
      have := (List.getElem?_eq_some_iff.1 hu).1
      rw [len5, hlen] at this
      exact this
    have hu' := hu
    rw [show i = (i / 5) * 5 + i % 5 by omega] at hu'
    rw [show (5 : Nat) = codCr.k from rfl, flat_get codCr.hf (by rw [hlen]; show i / 5 < len; omega) (by show i % 5 < 5; omega)] at hu'
    have := hF (i / 5) (by omega) (i % 5) u (by omega) (by simpa [codCr] using hu')
    rw [show (i / 5) * 5 + i % 5 = i by omega] at this
    rcases Nat.eq_zero_or_pos i with h1 | h1
    · subst h1; simpa [Addr.add] using this
    · simpa [Addr.add, show ¬ i = 0 by omega] using this
end
end Go.Proofs.Ytefkjfcncpmneaa
namespace Go.Proofs.Ytefkjfcncpmneaa
open Go.ChangeShapes Go.WideShapes Go.ChangeAt Go.RowKit
theorem RdA.of_sl {α : Type} {C : Cd α} {w : World} {B c : Nat} {A : Option Addr} {xs : List α} (hc : xs.length ≤ c) (hk : 0 < C.k) (h : Sl w B C.k C.u8 A xs.length (xs.flatMap C.f)) : RdA C (hp w) A c xs := by
  refine ⟨hc, h.2.1, fun h0 => ?_⟩
  obtain ⟨b, off, rfl, _, hat⟩ := h.2.2 h0
  refine ⟨rfl, ?_⟩
  have hlen : 0 < (xs.flatMap C.f).length := by rw [flat_len C.hf]; exact Nat.mul_pos h0 hk
  have h1 := hat 0 _ (List.getElem?_eq_getElem hlen)
  show ∃ cs T fz, w.heap[b]? = some (.cells cs T fz) ∧ ∀ j u, (xs.flatMap C.f)[j]? = some u → cs[off + j]? = some u
  unfold World.cell? at h1
  split at h1
  · rename_i cs T fz hb
    refine ⟨cs, T, fz, hb, fun j u hu => ?_⟩
    have := hat j u hu
    rw [cell_of_row w b _ cs T fz hb] at this
    exact this
  · cases h1
theorem IsDg.rd {w : World} {B : Nat} {v : Value} {d : Dg} (h : IsDg w B v d) : ∃ A c, v = .agg [.slice A d.crs.length c, .int .i64 d.loops].toArray ∧ RdA cdCr (hp w) A c d.crs := by
  obtain ⟨A, c, rfl, hc, h⟩ := h
  exact ⟨A, c, rfl, RdA.of_sl (C := cdCr) hc (by decide) h⟩
end Go.Proofs.Ytefkjfcncpmneaa
namespace Go.Proofs.Ytefkjfcncpmneaa
open Go.ChangeShapes Go.WideShapes Go.ChangeAt Go.RowKit
theorem lawCanonForms (v0 : Value) (x0 : Dg) (v1 : Value) (x1 : Dg) (W : World) (h0 : IsDg W W.heap.size v0 x0) (h1 : IsDg W W.heap.size v1 x1) :
    Calls Try.prog 3 #[v0, v1] W fun e W' => e = .returned (.bool true) ∧ Below W.heap.size W W' := by
  obtain ⟨A0, c0, rfl, r0⟩ := h0.rd
  obtain ⟨A1, c1, rfl, r1⟩ := h1.rd
  exact law_of_ct (CanonForms_t x0 x1 r0 r1 (SH.start W))
set_option maxRecDepth 100000 in
theorem canonForms_lifted (os : Os) (started : os.Started) (H : Type) (enc : TypeId × Value → H) :
    ReturnsInHanded {} Try.checked os 3 .any (Rows.canonFormsSpec.pre6 enc Try.prog Try.f3 Rows.canonFormsRow.domain false) (Rows.canonFormsSpec.post enc Try.prog Try.f3 false true false false) := by
  refine law_lift (C := Try.checked) (tb := 4) (by kernel_rfl) started (by kernel_rfl) Try.func3
    (ChangeSpec.witness6 (enc := enc) (C := Try.checked) false ⟨#[], #[.agg #[.slice none 0 0, .int .i64 0], .agg #[.slice none 0 0, .int .i64 0]], []⟩ 8 (by kernel_rfl) (by kernel_rfl) (by kernel_rfl) (by kernel_rfl))
    rfl (by kernel_rfl) (by kernel_rfl) rfl Try.underlying4 ?_ ?_
  · intro ds hds
    match ds, hds with
    | [d0, d1], _ => rfl
  · intro W base args ds p hval hA _ hlt hsz
    rw [Try.params3] at hA hval hsz
    obtain ⟨v0, vs0, d0, ds0, p0, q0, hargs, rfl, rfl, h0, r0⟩ := trodAll_cons hA
    obtain ⟨v1, vs1, d1, ds1, p1, q1, rfl, rfl, rfl, h1, r1⟩ := trodAll_cons r0
    obtain ⟨rfl, rfl, rfl⟩ := trodAll_nil r1
    obtain rfl : args = #[v0, v1] := by cases args; simp_all
    obtain ⟨a0, i0⟩ := open_Dg (hval 0 24 v0 rfl rfl) h0 (fun x hx => hlt x (by simp [hx])) hsz (j := 0) rfl rfl
    obtain ⟨a1, i1⟩ := open_Dg (hval 1 24 v1 rfl rfl) h1 (fun x hx => hlt x (by simp [hx])) hsz (j := 1) rfl rfl
    exact lawCanonForms v0 a0 v1 a1 W i0 i1
theorem canonForms_holds : Rows.CanonFormsSaid :=
  OpenClaim.holds_of_wide 3 Try.f3 rfl rfl rfl rfl rfl rfl rfl ⟨rfl, rfl, rfl, rfl, rfl⟩ rfl rfl rfl rfl rfl (by kernel_rfl) Try.func3 (by kernel_rfl)
    (of_decide_eq_true (by kernel_rfl)) (by unfold Func.isWrapper; first | (rw [if_pos (by decide +kernel)]; kernel_rfl) | (rw [if_neg (by decide +kernel)]; exact ⟨rfl, rfl⟩))
    (fun os started H enc _ => canonForms_lifted os started H enc)
#print axioms canonForms_holds
end Go.Proofs.Ytefkjfcncpmneaa
