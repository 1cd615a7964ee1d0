/- Part 6 of the proof of the law HomflyTurns: the walks through its functions and the plain laws that they need. -/
import Derived.Test.YtkcighnochjlgaaHtZ5
import Derived.Lib.AppendZeros
set_option linter.unusedSimpArgs false
set_option linter.unusedVariables false
namespace Go.Proofs.Ytkcighnochjlgaa
open Go.ChangeShapes Go.WideShapes Go.ChangeAt Go.RowKit
theorem SH.pubBx {w : World} {M : Hp} {X : Fr} {H H' : List Rs} {i g : Nat} {T : TypeId} {l : List Value} (S : SH w M X H) (hi : nth H i = some (Rs.box g T l)) (hH : H.set i Rs.emp = H') : ∃ M', M.le M' ∧ SH w M' X H' ∧ BxM M' g T l := by
 obtain ⟨h1, h2, h3⟩ := S.pub hi hH
 have h4 : hp w g = some (.cells l.toArray T (0, 0)) := S.get hi
 exact ⟨_, h1, h2, (h3 g (by simp [Rs.box])).trans h4⟩
theorem mayO {d : Dg} (h : mayB d = true) : d.crs.length ≤ 16 ∧ arcsB d = true ∧ 0 ≤ d.loops ∧ d.loops ≤ 16 := by
 rw [mayB_arcs, Bool.and_eq_true, decide_eq_true_iff] at h
 exact ⟨h.1.1, h.2, h.1.2.1, h.1.2.2.1⟩
def ShM (N : Hp) (d : Dg) (g : Nat) (cA iA oA : Option Addr) (cc ic oc : Nat) : Prop := BxM N g 111 [.slice cA d.crs.length cc, .int .i64 d.loops, .slice iA (tabL d false (4 * d.crs.length)).length ic, .slice oA (tabL d true (4 * d.crs.length)).length oc] ∧ RdA cdCr N cA cc d.crs ∧ RdA cdPl N iA ic (tabL d false (4 * d.crs.length)) ∧ RdA cdPl N oA oc (tabL d true (4 * d.crs.length))
def NewT (d : Dg) (v : Value) (N : Hp) : Prop :=
 (mayB d = false ∧ v = .tuple [.pointer none, .bool false].toArray) ∨
 (mayB d = true ∧ ∃ g cA iA oA cc ic oc, v = .tuple [.pointer (some ⟨g, 0, none⟩), .bool true].toArray ∧ ShM N d g cA iA oA cc ic oc)
theorem New_t {w : World} {M : Hp} {X : Fr} (d : Dg) {A : Option Addr} {c : Nat} (h : RdA cdCr (M.un X.h) A c d.crs) (S : SH w M X []) : Ct Try.prog 120 [.agg [.slice A d.crs.length c, .int .i64 d.loops].toArray] w M X (NewT d) := by
 refine (New_o d h S).mono ?_
 rintro e w' ⟨v, rfl, N, S1, ⟨hm, rfl, rfl⟩ | ⟨hm, g, vc, vi, vo, rfl, rfl, hv⟩⟩
 ·exact ⟨_, rfl, M, Hp.le_refl _, S1, .inl ⟨hm, rfl⟩⟩
 ·obtain ⟨hn, _⟩ := mayO hm
  have t1 := tabL_len d false (4 * d.crs.length)
  have t2 := tabL_len d true (4 * d.crs.length)
  clear hv
  obtain ⟨M1, l1, S2, ⟨cA, cc, rfl, r1⟩⟩ := S1.pubrow (i := 1) rfl rfl (by show _ * 40 ≤ _; omega)
  obtain ⟨M2, l2, S3, ⟨iA, ic, rfl, r2⟩⟩ := S2.pubrow (C := cdPl) (xs := tabL d false (4 * d.crs.length)) (i := 2) rfl rfl (by show _ * 16 ≤ _; omega)
  obtain ⟨M3, l3, S4, ⟨oA, oc, rfl, r3⟩⟩ := S3.pubrow (C := cdPl) (xs := tabL d true (4 * d.crs.length)) (i := 3) rfl rfl (by show _ * 16 ≤ _; omega)
  obtain ⟨M4, l4, S5, b⟩ := S4.pubBx (i := 0) rfl rfl
  exact ⟨_, rfl, M4, (l1.trans l2).trans (l3.trans l4), S5.pick [] [] (by decide) trivial, .inr ⟨hm, g, cA, iA, oA, cc, ic, oc, rfl, b, ((r1.mono l2).mono l3).mono l4, (r2.mono l3).mono l4, r3.mono l4⟩⟩
def DgR (d : Dg) (u : Value) (M : Hp) : Prop := ∃ A c, u = .agg [.slice A d.crs.length c, .int .i64 d.loops].toArray ∧ RdA cdCr M A c d.crs
noncomputable def DiagramOf_n0 : Code := Try.f33.body.getD .skip
noncomputable def DiagramOf_n1 : Code := cL DiagramOf_n0
noncomputable def DiagramOf_n2 : Code := cR DiagramOf_n0
noncomputable def DiagramOf_n3 : Code := cL DiagramOf_n2
noncomputable def DiagramOf_n4 : Code := cR DiagramOf_n2
noncomputable def DiagramOf_n5 : Code := cL DiagramOf_n4
noncomputable def DiagramOf_n6 : Code := cR DiagramOf_n4
set_option maxRecDepth 10000 in
theorem DiagramOf_t {w : World} {M : Hp} {X : Fr} (d : Dg) {dcrsA : Option Addr} {dcrsc : Nat} (hdcrs : RdA cdCr (M.un X.h) dcrsA dcrsc d.crs) (S : SH w M X []) : Ct Try.prog 33 [.agg [.slice dcrsA d.crs.length dcrsc, .int .i64 d.loops].toArray] w M X (DgR d) := by
 unfold Ct
 have rmhdcrs : d.crs.length * 40 ≤ 140737488355328 := hdcrs.room
 have hroom : d.crs.length * 40 ≤ 140737488355328 := hdcrs.room
 refine calls_in (b := DiagramOf_n0) Try.func33 rfl Try.ntmps33 rfl (fun C hC => ?_)
 refine ws_sub [(0, _)] ⟨rfl, trivial⟩ ?_
 refine ws_seqN DiagramOf_n1 DiagramOf_n2 rfl rfl rfl ?_
 refine ws_region rfl ?_
 refine wlo 0 1 rfl rfl rfl (wo_box (l := [_, _]) rfl rfl rfl rfl rfl S ?_)
 intro gb1 w1 S1; clear S
 refine wlo 1 2 rfl rfl rfl (wo_alloc (l := [_, _]) rfl rfl rfl zr51 rfl S1 ?_)
 intro gb2 w2 S2; clear S1
 refine wl_end rfl ?_
 refine nm_sub [(1, _), (2, _)] ⟨rfl, rfl, trivial⟩ ?_
 refine nm_thn ?_
 refine ws_seqN DiagramOf_n3 DiagramOf_n4 rfl rfl rfl ?_
 refine ws_region rfl ?_
 refine wlo 0 1 rfl rfl rfl (wo_run rfl rfl (run_fieldAddr rfl rfl Try.underlying51 rfl (ce49) (nf49)) ?_)
 refine wlo 1 2 rfl rfl rfl (wo_run rfl rfl (run_load1 rfl rfl Try.underlying49 rfl (S2.boxc (i := 1) rfl rfl)) ?_)
 have S3 := S2.nilrow cdCr; clear S2
 refine wlo 2 3 rfl rfl rfl (wo_appendM (C := cdCr) (i := 0) rfl rfl rfl rfl rfl rfl rfl rfl sl49 S3 rfl hdcrs S3.um (by have h : _ * 40 ≤ _ := hdcrs.room; show (0 + _) * 40 ≤ _; first | omega | (simp only [lens]; omega)) ?_)
 intro vr2 w3 S4; clear S3
 change SH _ _ _ [Rs.row cdCr vr2 d.crs, _, _] at S4
 refine wlo 3 4 rfl rfl rfl (wo_run rfl rfl (run_fieldAddr rfl rfl Try.underlying51 rfl (ce49) (nf49)) ?_)
 refine wlo 4 5 rfl rfl rfl (wo_storeB (i := 2) (us := [_]) (l' := [_, _]) (H' := [_, _, _]) rfl rfl S4 rfl rfl rfl (S4.cells1 (i := 0) rfl) sz49 rfl (ones_cons (S4.one (i := 0) rfl) rfl) rfl rfl ?_)
 intro w4 S5; clear S4
 refine wl_end rfl ?_
 refine nm_sub [(1, _), (2, _)] ⟨rfl, rfl, trivial⟩ ?_
 refine nm_thn ?_
 refine ws_seqN DiagramOf_n5 DiagramOf_n6 rfl rfl rfl ?_
 refine ws_region rfl ?_
 refine wlo 0 1 rfl rfl rfl (wo_run rfl rfl (run_loadN (us := [_, _]) rfl rfl Try.underlying51 rfl sz51 (S5.boxcs (i := 2) rfl ⟨rfl, rfl, trivial⟩)) ?_)
 refine wlo 1 2 rfl rfl rfl (wo_storeB (i := 1) (us := [_, _]) (l' := [_, _]) (H' := [_, _, _]) rfl rfl S5 rfl rfl rfl rfl sz51 rfl (ones_cons (S5.one (i := 0) rfl) (ones_cons rfl rfl)) rfl rfl ?_)
 intro w5 S6; clear S5
 refine wl_end rfl ?_
 refine nm_sub [(2, _)] ⟨rfl, trivial⟩ ?_
 refine nm_thn ?_
 obtain ⟨M1, hle1, S7, ⟨A1, c1, e1, hr1⟩⟩ := S6.pubrow (i := 0) (H' := [_, _, _]) rfl rfl (by show _ * 40 ≤ _; first | omega | (simp only [lens]; omega))
 clear S6; subst e1
 replace hdcrs := hdcrs.mono (Hp.un_mono hle1 S7.mx)
 refine ws_ret hC [_] rfl rfl ⟨⟨_, rfl, loadVarN (us := [_, _]) Try.underlying51 rfl sz51 (S7.boxcs (i := 1) rfl ⟨rfl, rfl, trivial⟩)⟩, trivial⟩ ?_
 refine ⟨_, rfl, _, hle1, (S7.pick [] [] (by decide) trivial), ?_⟩
 exact ⟨_, _, rfl, hr1⟩
end Go.Proofs.Ytkcighnochjlgaa
namespace Go.Proofs.Ytkcighnochjlgaa
open Go.ChangeShapes Go.WideShapes Go.ChangeAt Go.RowKit
/-- What forbids that a diagram is opened to wind. -/
def errO (d : Dg) : Int := if mayB d = true then (if planP d = true then 0 else 5) else 7
theorem errO_ok {d : Dg} (h : errO d = 0) : mayB d = true ∧ planP d = true := by
 unfold errO at h
 split at h
 ·split at h
  ·exact ⟨by assumption, by assumption⟩
  ·cases h
 ·cases h
def OpenT (d : Dg) (v : Value) (N : Hp) : Prop :=
 (errO d ≠ 0 ∧ v = .tuple [.pointer none, .int .i64 (errO d)].toArray) ∨
 (errO d = 0 ∧ ∃ g cA iA oA cc ic oc, v = .tuple [.pointer (some ⟨g, 0, none⟩), .int .i64 0].toArray ∧ ShM N d g cA iA oA cc ic oc)
noncomputable def Open_n0 : Code := Try.f87.body.getD .skip
noncomputable def Open_n1 : Code := cL Open_n0
noncomputable def Open_n2 : Code := cR Open_n0
noncomputable def Open_n3 : Code := cL Open_n2
noncomputable def Open_n4 : Code := cR Open_n2
noncomputable def Open_n5 : Code := cL Open_n4
noncomputable def Open_n6 : Code := cR Open_n4
noncomputable def Open_n7 : Code := cL Open_n5
noncomputable def Open_n8 : Code := cL Open_n7
noncomputable def Open_n9 : Code := cR Open_n7
noncomputable def Open_n10 : Code := cL Open_n9
noncomputable def Open_n11 : Code := cR Open_n9
noncomputable def Open_n12 : Code := cL Open_n10
noncomputable def Open_n13 : Code := cR Open_n10
noncomputable def Open_n14 : Code := cL Open_n11
noncomputable def Open_n15 : Code := cR Open_n11
noncomputable def Open_n16 : Code := cL Open_n15
noncomputable def Open_n17 : Code := cR Open_n15
noncomputable def Open_n18 : Code := cL Open_n16
noncomputable def Open_n19 : Code := cR Open_n16
noncomputable def Open_n20 : Code := cL Open_n6
noncomputable def Open_n21 : Code := cR Open_n6
set_option maxRecDepth 10000 in
theorem Open_t {w : World} {M : Hp} {X : Fr} (d : Dg) {dcrsA : Option Addr} {dcrsc : Nat} (hdcrs : RdA cdCr (M.un X.h) dcrsA dcrsc d.crs) (S : SH w M X []) : Ct Try.prog 87 [.agg [.slice dcrsA d.crs.length dcrsc, .int .i64 d.loops].toArray] w M X (OpenT d) := by
 unfold Ct
 have rmhdcrs : d.crs.length * 40 ≤ 140737488355328 := hdcrs.room
 refine calls_in (b := Open_n0) Try.func87 rfl Try.ntmps87 rfl (fun C hC => ?_)
 refine ws_sub [(0, _)] ⟨rfl, trivial⟩ ?_
 refine ws_seqN Open_n1 Open_n2 rfl rfl rfl ?_
 refine ws_region rfl ?_
 refine wlo 0 1 rfl rfl rfl (wo_box (l := [_, _]) rfl rfl rfl rfl rfl S ?_)
 intro gb1 w1 S1; clear S
 refine wla 1 2 rfl rfl rfl rfl rfl rfl rfl ?_
 refine wla 2 3 rfl rfl rfl rfl rfl rfl rfl ?_
 refine wl_end rfl ?_
 refine nm_sub [(1, _)] ⟨rfl, trivial⟩ ?_
 refine nm_thn ?_
 refine ws_seqN Open_n3 Open_n4 rfl rfl rfl ?_
 refine ws_region rfl ?_
 refine wlo 0 1 rfl rfl rfl (wo_run rfl rfl (run_loadN (us := [_, _]) rfl rfl Try.underlying51 rfl sz51 (S1.boxcs (i := 0) rfl ⟨rfl, rfl, trivial⟩)) ?_)
 refine wlo 1 2 rfl rfl rfl (wo_ct rfl rfl rfl rfl rfl rfl rfl cf120 S1 (New_t d (hdcrs.mono S1.un_XH) S1.lend) ?_)
 intro vw2 w2 M1 hle1 S2 hRw2; clear S1
 replace hdcrs := hdcrs.mono (Hp.un_mono hle1 S2.mx)
 rcases hRw2 with ⟨hmay8, rfl⟩ | ⟨hmay8, g1, cA8, iA8, oA8, cc8, ic8, oc8, rfl, hsb8, hsc8, hsi8, hso8⟩
 ·refine wlm 2 3 rfl rfl rfl rfl rfl rfl rfl ?_
  refine wlo 3 4 rfl rfl rfl (wo_run rfl rfl (run_extract rfl rfl rfl) ?_)
  refine wlo 4 5 rfl rfl rfl (wo_run rfl rfl (run_extract rfl rfl rfl) ?_)
  refine wla 5 6 rfl rfl rfl rfl rfl rfl rfl ?_
  refine wla 6 7 rfl rfl rfl rfl rfl rfl rfl ?_
  refine wl_end rfl ?_
  refine nm_sub [(4, _), (5, _)] ⟨rfl, rfl, trivial⟩ ?_
  refine nm_thn ?_
  refine ws_seqN Open_n5 Open_n6 rfl rfl rfl ?_
  refine ws_blockN Open_n7 0 rfl rfl rfl ?_
  refine ws_seqN Open_n8 Open_n9 rfl rfl rfl ?_
  refine ws_region rfl ?_
  refine wlm 0 1 rfl rfl rfl rfl rfl rfl rfl ?_
  refine wlo 1 2 rfl rfl rfl (wo_run rfl rfl (run_not rfl rfl) ?_)
  refine wla 2 3 rfl rfl rfl rfl rfl rfl rfl ?_
  refine wl_end rfl ?_
  refine nm_sub [(4, _), (11, _)] ⟨rfl, rfl, trivial⟩ ?_
  refine nm_thn ?_
  refine ws_condTN Open_n10 rfl rfl rfl ?_
  refine ws_seqN Open_n12 Open_n13 rfl rfl rfl ?_
  refine ws_region rfl ?_
  refine wla 0 1 rfl rfl rfl rfl rfl rfl rfl ?_
  refine wla 1 2 rfl rfl rfl rfl rfl rfl rfl ?_
  refine wl_end rfl ?_
  refine nm_sub [(2, _), (3, _)] ⟨rfl, rfl, trivial⟩ ?_
  refine nm_thn ?_
  refine ws_ret hC [_, _] rfl rfl ⟨rfl, rfl, trivial⟩ ?_
  refine ⟨_, rfl, _, hle1, (S2.pick [] [] (by decide) trivial), ?_⟩
  have e0 : errO d = 7 := by unfold errO; rw [if_neg (by rw [hmay8]; exact Bool.false_ne_true)]
  exact .inl ⟨by rw [e0]; decide, by rw [e0]; rfl⟩
 ·obtain ⟨hn, hab, hlo0, hlo1⟩ := mayO hmay8
  refine wlm 2 3 rfl rfl rfl rfl rfl rfl rfl ?_
  refine wlo 3 4 rfl rfl rfl (wo_run rfl rfl (run_extract rfl rfl rfl) ?_)
  refine wlo 4 5 rfl rfl rfl (wo_run rfl rfl (run_extract rfl rfl rfl) ?_)
  refine wla 5 6 rfl rfl rfl rfl rfl rfl rfl ?_
  refine wla 6 7 rfl rfl rfl rfl rfl rfl rfl ?_
  refine wl_end rfl ?_
  refine nm_sub [(4, _), (5, _)] ⟨rfl, rfl, trivial⟩ ?_
  refine nm_thn ?_
  refine ws_seqN Open_n5 Open_n6 rfl rfl rfl ?_
  refine ws_blockN Open_n7 0 rfl rfl rfl ?_
  refine ws_seqN Open_n8 Open_n9 rfl rfl rfl ?_
  refine ws_region rfl ?_
  refine wlm 0 1 rfl rfl rfl rfl rfl rfl rfl ?_
  refine wlo 1 2 rfl rfl rfl (wo_run rfl rfl (run_not rfl rfl) ?_)
  refine wla 2 3 rfl rfl rfl rfl rfl rfl rfl ?_
  refine wl_end rfl ?_
  refine nm_sub [(4, _), (11, _)] ⟨rfl, rfl, trivial⟩ ?_
  refine nm_thn ?_
  refine ws_condFN Open_n11 rfl rfl rfl ?_
  refine ws_seqN Open_n14 Open_n15 rfl rfl rfl ?_
  refine ws_region rfl ?_
  refine wlm 0 1 rfl rfl rfl rfl rfl rfl rfl ?_
  refine wlo 1 2 rfl rfl rfl (wo_ct rfl rfl rfl rfl rfl rfl rfl cf121 S2 (Planar_t d hsb8 hsc8 hsi8 hso8 hn hab S2.lend) ?_)
  intro vw3 w3 M2 hle2 S3 hRw3; clear S2
  replace hdcrs := hdcrs.mono (Hp.un_mono hle2 S3.mx)
  replace hsb8 := hsb8.mono hle2
  replace hsc8 := hsc8.mono hle2
  replace hsi8 := hsi8.mono hle2
  replace hso8 := hso8.mono hle2
  obtain rfl := hRw3
  refine wlo 2 3 rfl rfl rfl (wo_run rfl rfl (run_not rfl rfl) ?_)
  refine wla 3 4 rfl rfl rfl rfl rfl rfl rfl ?_
  refine wl_end rfl ?_
  refine nm_sub [(4, _), (14, _)] ⟨rfl, rfl, trivial⟩ ?_
  refine nm_thn ?_
  refine ws_condN Open_n16 Open_n17 rfl rfl rfl rfl (fun hb14 => ?_) (fun hb14 => ?_)
  ·simp only [Bool.and_eq_true, Bool.or_eq_true, Bool.and_eq_false_iff, Bool.or_eq_false_iff, decide_eq_true_eq, decide_eq_false_iff_not, Bool.not_eq_true', Bool.not_eq_false'] at hb14
   refine ws_seqN Open_n18 Open_n19 rfl rfl rfl ?_
   refine ws_region rfl ?_
   refine wla 0 1 rfl rfl rfl rfl rfl rfl rfl ?_
   refine wla 1 2 rfl rfl rfl rfl rfl rfl rfl ?_
   refine wl_end rfl ?_
   refine nm_sub [(2, _), (3, _)] ⟨rfl, rfl, trivial⟩ ?_
   refine nm_thn ?_
   refine ws_ret hC [_, _] rfl rfl ⟨rfl, rfl, trivial⟩ ?_
   refine ⟨_, rfl, _, hle1.trans hle2, (S3.pick [] [] (by decide) trivial), ?_⟩
   have e0 : errO d = 5 := by unfold errO; rw [if_pos hmay8, if_neg (by simp [*])]
   exact .inl ⟨by rw [e0]; decide, by rw [e0]; rfl⟩
  ·simp only [Bool.and_eq_true, Bool.or_eq_true, Bool.and_eq_false_iff, Bool.or_eq_false_iff, decide_eq_true_eq, decide_eq_false_iff_not, Bool.not_eq_true', Bool.not_eq_false'] at hb14
   refine ws_skip rfl ?_
   refine nm_blk ?_
   refine nm_sub [(4, _)] ⟨rfl, trivial⟩ ?_
   refine nm_thn ?_
   refine ws_seqN Open_n20 Open_n21 rfl rfl rfl ?_
   refine ws_region rfl ?_
   refine wlm 0 1 rfl rfl rfl rfl rfl rfl rfl ?_
   refine wla 1 2 rfl rfl rfl rfl rfl rfl rfl ?_
   refine wla 2 3 rfl rfl rfl rfl rfl rfl rfl ?_
   refine wl_end rfl ?_
   refine nm_sub [(2, _), (3, _)] ⟨rfl, rfl, trivial⟩ ?_
   refine nm_thn ?_
   refine ws_ret hC [_, _] rfl rfl ⟨rfl, rfl, trivial⟩ ?_
   refine ⟨_, rfl, _, hle1.trans hle2, (S3.pick [] [] (by decide) trivial), ?_⟩
   have e0 : errO d = 0 := by unfold errO; rw [if_pos hmay8, if_pos (by simpa using hb14)]
   exact .inr ⟨e0, _, _, _, _, _, _, _, rfl, hsb8, hsc8, hsi8, hso8⟩
noncomputable def PlanarMay_n0 : Code := Try.f41.body.getD .skip
noncomputable def PlanarMay_n1 : Code := cL PlanarMay_n0
noncomputable def PlanarMay_n2 : Code := cR PlanarMay_n0
noncomputable def PlanarMay_n3 : Code := cL PlanarMay_n2
noncomputable def PlanarMay_n4 : Code := cR PlanarMay_n2
noncomputable def PlanarMay_n5 : Code := cL PlanarMay_n3
noncomputable def PlanarMay_n6 : Code := cR PlanarMay_n3
noncomputable def PlanarMay_n7 : Code := cL PlanarMay_n6
noncomputable def PlanarMay_n8 : Code := cR PlanarMay_n6
noncomputable def PlanarMay_n9 : Code := cL PlanarMay_n7
noncomputable def PlanarMay_n10 : Code := cR PlanarMay_n7
noncomputable def PlanarMay_n11 : Code := cL PlanarMay_n4
noncomputable def PlanarMay_n12 : Code := cR PlanarMay_n4
noncomputable def PlanarMay_n13 : Code := cL PlanarMay_n11
noncomputable def PlanarMay_n14 : Code := cR PlanarMay_n11
noncomputable def PlanarMay_n15 : Code := cL PlanarMay_n14
noncomputable def PlanarMay_n16 : Code := cR PlanarMay_n14
noncomputable def PlanarMay_n17 : Code := cL PlanarMay_n15
noncomputable def PlanarMay_n18 : Code := cR PlanarMay_n15
noncomputable def PlanarMay_n19 : Code := cL PlanarMay_n12
noncomputable def PlanarMay_n20 : Code := cR PlanarMay_n12
set_option maxRecDepth 10000 in
theorem PlanarMay_t {w : World} {M : Hp} {X : Fr} (d : Dg) {dcrsA : Option Addr} {dcrsc : Nat} (hdcrs : RdA cdCr (M.un X.h) dcrsA dcrsc d.crs) (S : SH w M X []) : Ct Try.prog 41 [.agg [.slice dcrsA d.crs.length dcrsc, .int .i64 d.loops].toArray] w M X (fun u _ => u = .int .i64 (errO d)) := by
 unfold Ct
 have rmhdcrs : d.crs.length * 40 ≤ 140737488355328 := hdcrs.room
 refine calls_in (b := PlanarMay_n0) Try.func41 rfl Try.ntmps41 rfl (fun C hC => ?_)
 refine ws_sub [(0, _)] ⟨rfl, trivial⟩ ?_
 refine ws_seqN PlanarMay_n1 PlanarMay_n2 rfl rfl rfl ?_
 refine ws_region rfl ?_
 refine wlo 0 1 rfl rfl rfl (wo_box (l := [_, _]) rfl rfl rfl rfl rfl S ?_)
 intro gb1 w1 S1; clear S
 refine wla 1 2 rfl rfl rfl rfl rfl rfl rfl ?_
 refine wl_end rfl ?_
 refine nm_sub [(1, _)] ⟨rfl, trivial⟩ ?_
 refine nm_thn ?_
 refine ws_seqN PlanarMay_n3 PlanarMay_n4 rfl rfl rfl ?_
 refine ws_seqN PlanarMay_n5 PlanarMay_n6 rfl rfl rfl ?_
 refine ws_region rfl ?_
 refine wlo 0 1 rfl rfl rfl (wo_run rfl rfl (run_loadN (us := [_, _]) rfl rfl Try.underlying51 rfl sz51 (S1.boxcs (i := 0) rfl ⟨rfl, rfl, trivial⟩)) ?_)
 refine wlo 1 2 rfl rfl rfl (wo_cq rfl rfl rfl rfl rfl rfl rfl cf81 S1 (DiagramMay_q d (hdcrs.mono S1.un_XH) S1.lend) ?_)
 rintro _ w2 S2 rfl; clear S1
 refine wlo 2 3 rfl rfl rfl (wo_run rfl rfl (run_not rfl rfl) ?_)
 refine wl_end rfl ?_
 refine nm_sub [(1, _), (5, _)] ⟨rfl, rfl, trivial⟩ ?_
 refine nm_thn ?_
 refine ws_condN PlanarMay_n7 PlanarMay_n8 rfl rfl rfl rfl (fun hb5 => ?_) (fun hb5 => ?_)
 ·simp only [Bool.and_eq_true, Bool.or_eq_true, Bool.and_eq_false_iff, Bool.or_eq_false_iff, decide_eq_true_eq, decide_eq_false_iff_not, Bool.not_eq_true', Bool.not_eq_false'] at hb5
  refine ws_seqN PlanarMay_n9 PlanarMay_n10 rfl rfl rfl ?_
  refine ws_region rfl ?_
  refine wla 0 1 rfl rfl rfl rfl rfl rfl rfl ?_
  refine wl_end rfl ?_
  refine nm_sub [(2, _)] ⟨rfl, trivial⟩ ?_
  refine nm_thn ?_
  refine ws_ret hC [_] rfl rfl ⟨rfl, trivial⟩ ?_
  refine ⟨_, rfl, _, Hp.le_refl _, (S2.pick [] [] (by decide) trivial), ?_⟩
  have e0 : errO d = 7 := by unfold errO; rw [if_neg (by simp_all)]
  rw [e0]
  rfl
 ·simp only [Bool.and_eq_true, Bool.or_eq_true, Bool.and_eq_false_iff, Bool.or_eq_false_iff, decide_eq_true_eq, decide_eq_false_iff_not, Bool.not_eq_true', Bool.not_eq_false'] at hb5
  have hm : mayB d = true := by simpa using hb5
  obtain ⟨hn, hab, _, _⟩ := mayO hm
  refine ws_skip rfl ?_
  refine nm_sub [(1, _)] ⟨rfl, trivial⟩ ?_
  refine nm_thn ?_
  refine ws_seqN PlanarMay_n11 PlanarMay_n12 rfl rfl rfl ?_
  refine ws_seqN PlanarMay_n13 PlanarMay_n14 rfl rfl rfl ?_
  refine ws_region rfl ?_
  refine wlo 0 1 rfl rfl rfl (wo_run rfl rfl (run_loadN (us := [_, _]) rfl rfl Try.underlying51 rfl sz51 (S2.boxcs (i := 0) rfl ⟨rfl, rfl, trivial⟩)) ?_)
  refine wlo 1 2 rfl rfl rfl (wo_ct rfl rfl rfl rfl rfl rfl rfl cf82 S2 (PlanarIs_t d (hdcrs.mono S2.un_XH) (hn) (hab) S2.lend) ?_)
  intro vw3 w3 M1 hle1 S3 hRw3; clear S2
  replace hdcrs := hdcrs.mono (Hp.un_mono hle1 S3.mx)
  obtain rfl := hRw3
  refine wlo 2 3 rfl rfl rfl (wo_run rfl rfl (run_not rfl rfl) ?_)
  refine wl_end rfl ?_
  refine nm_sub [(8, _)] ⟨rfl, trivial⟩ ?_
  refine nm_thn ?_
  refine ws_condN PlanarMay_n15 PlanarMay_n16 rfl rfl rfl rfl (fun hb8 => ?_) (fun hb8 => ?_)
  ·simp only [Bool.and_eq_true, Bool.or_eq_true, Bool.and_eq_false_iff, Bool.or_eq_false_iff, decide_eq_true_eq, decide_eq_false_iff_not, Bool.not_eq_true', Bool.not_eq_false'] at hb8
   refine ws_seqN PlanarMay_n17 PlanarMay_n18 rfl rfl rfl ?_
   refine ws_region rfl ?_
   refine wla 0 1 rfl rfl rfl rfl rfl rfl rfl ?_
   refine wl_end rfl ?_
   refine nm_sub [(2, _)] ⟨rfl, trivial⟩ ?_
   refine nm_thn ?_
   refine ws_ret hC [_] rfl rfl ⟨rfl, trivial⟩ ?_
   refine ⟨_, rfl, _, hle1, (S3.pick [] [] (by decide) trivial), ?_⟩
   have e1 := planar_law hab
   have e0 : errO d = 5 := by unfold errO; rw [if_pos hm, if_neg (by rw [← e1]; simp [*])]
   rw [e0]
   rfl
  ·simp only [Bool.and_eq_true, Bool.or_eq_true, Bool.and_eq_false_iff, Bool.or_eq_false_iff, decide_eq_true_eq, decide_eq_false_iff_not, Bool.not_eq_true', Bool.not_eq_false'] at hb8
   refine ws_skip rfl ?_
   refine nm_sub [] trivial ?_
   refine nm_thn ?_
   refine ws_seqN PlanarMay_n19 PlanarMay_n20 rfl rfl rfl ?_
   refine ws_region rfl ?_
   refine wla 0 1 rfl rfl rfl rfl rfl rfl rfl ?_
   refine wl_end rfl ?_
   refine nm_thn ?_
   refine ws_ret hC [_] rfl rfl ⟨rfl, trivial⟩ ?_
   refine ⟨_, rfl, _, hle1, (S3.pick [] [] (by decide) trivial), ?_⟩
   have e1 := planar_law hab
   have e0 : errO d = 0 := by unfold errO; rw [if_pos hm, if_pos (by rw [← e1]; simpa using hb8)]
   rw [e0]
   rfl
end Go.Proofs.Ytkcighnochjlgaa
namespace Go.Proofs.Ytkcighnochjlgaa
open Go.ChangeShapes Go.WideShapes Go.ChangeAt Go.RowKit
section
variable {P : Program} {o : Oper} {L : List (Nat × Value)} {w : World} {a b : Int}
theorem run_min {ca : Call} {ops : List Operand} {ts : List TypeId} (hop : o.op = .call ca) (hca : ca.callee = .builtin .min) (hxs : ca.args = ops.toArray) (hts : ca.argTypes = ts.toArray) (hx : oevs L ops = some [.int .i64 a, .int .i64 b]) : Run P o L w (.int .i64 (min a b)) w := by
 intro n c he
 have e : (if b < a then b else a) = min a b := by
  by_cases h : b < a
  ·rw [if_pos h]; omega
  ·rw [if_neg h]; omega
 unfold execOp
 simp only [hop, resolve, hca, hxs, hts, List.map_toArray, he.evals hx, Sem.run_bind, Sem.run_pure, Result.andThen_ok, invoke, builtin, Builtin.min_, List.foldlM_cons, List.foldlM_nil, Builtin.min2, e]
end
def relN (cl : List Int) (f t : Int) : Nat → List Int
 | 0 => cl
 | a + 1 => if ga (relN cl f t a) a = f then (relN cl f t a).set a t else relN cl f t a
theorem relN_len (cl : List Int) (f t : Int) (a : Nat) : (relN cl f t a).length = cl.length := by
 induction a with
 | zero => rfl
 | succ a ih => rw [relN]; split <;> (try rw [List.length_set]) <;> exact ih
theorem relN_ga (cl : List Int) (f t : Int) (a : Nat) (ha : a ≤ cl.length) : ∀ x, ga (relN cl f t a) x = if x < a ∧ ga cl x = f then t else ga cl x := by
 induction a with
 | zero => intro x; rw [if_neg (by omega)]; rfl
 | succ a ih =>
  have ih := ih (by omega)
  have ha0 : ga (relN cl f t a) a = ga cl a := by rw [ih, if_neg (by omega)]
  intro x
  rw [relN, ha0]
  split
  ·rename_i e
   rw [ga_set _ _ _ _ (by rw [relN_len]; omega)]
   split
   ·rename_i e2; subst e2
    rw [if_pos ⟨by omega, e⟩]
   ·rw [ih]
    by_cases h9 : x < a ∧ ga cl x = f
    ·rw [if_pos h9, if_pos ⟨by omega, h9.2⟩]
    ·rw [if_neg h9, if_neg (fun h => h9 ⟨by omega, h.2⟩)]
  ·rename_i e
   rw [ih]
   by_cases h9 : x < a ∧ ga cl x = f
   ·rw [if_pos h9, if_pos ⟨by omega, h9.2⟩]
   ·rw [if_neg h9, if_neg (fun (h : x < a + 1 ∧ ga cl x = f) => by
     by_cases h8 : x = a
     ·subst h8; exact e h.2
     ·exact h9 ⟨by omega, h.2⟩)]
/-- A class list: each label is the least label of its class, and lies in it. -/
def ClsOk (N : Nat) (cl : List Int) : Prop := cl.length = N ∧ ∀ x, x < N → 0 ≤ ga cl x ∧ ga cl x ≤ x ∧ ga cl (ga cl x).toNat = ga cl x
theorem ok_step {N : Nat} {cl cl' : List Int} {f t : Int} (hok : ClsOk N cl) (hl : cl'.length = N) (hg : ∀ x, x < N → ga cl' x = if ga cl x = f then t else ga cl x) (hft : t ≤ f) (h0 : 0 ≤ t) (hti : ga cl t.toNat = t) : ClsOk N cl' := by
 refine ⟨hl, fun x hx => ?_⟩
 obtain ⟨x1, x2, x3⟩ := hok.2 x hx
 have e := hg x hx
 by_cases hf : ga cl x = f
 ·rw [if_pos hf] at e
  rw [e]
  refine ⟨h0, by omega, ?_⟩
  rw [hg _ (by omega)]
  split
  ·rfl
  ·exact hti
 ·rw [if_neg hf] at e
  rw [e]
  refine ⟨x1, x2, ?_⟩
  rw [hg _ (by omega), x3, if_neg hf]
theorem roundG_len (e1 e2 : Nat → Nat) (ws : List Int) (k : Nat) : (roundG e1 e2 ws k).length = ws.length := by
 induction k with
 | zero => rfl
 | succ k ih => rw [roundG, stepW_len, ih]
noncomputable def level_n0 : Code := Try.f83.body.getD .skip
noncomputable def level_n1 : Code := cL level_n0
noncomputable def level_n2 : Code := cR level_n0
noncomputable def level_n3 : Code := cL level_n2
noncomputable def level_n4 : Code := cR level_n2
set_option maxRecDepth 10000 in
theorem level_w {w : World} {M : Hp} {X : Fr} (vws : Value) (ws : List Int) (i : Int) (j : Int) (hi : 0 ≤ i ∧ i < (ws.length : Int)) (hj : 0 ≤ j ∧ j < (ws.length : Int)) (S : SH w M X [Rs.row cdInt vws ws]) : C1 Try.prog 83 [vws, .int .i64 i, .int .i64 j] w M X (fun u M' r' => u = tup [] ∧ M' = M ∧ r' = Rs.row cdInt vws (stepW ws i.toNat j.toNat)) := by
 unfold C1
 refine calls_in (b := level_n0) Try.func83 rfl Try.ntmps83 rfl (fun C hC => ?_)
 refine ws_sub [(0, _), (1, _), (2, _)] ⟨rfl, rfl, rfl, trivial⟩ ?_
 refine ws_seqN level_n1 level_n2 rfl rfl rfl ?_
 refine ws_draw rfl (by kernel_rfl) S 9 rfl ?_
 clear S
 refine wa_takeP (i := 0) (d := 6) 8 rfl (by kernel_rfl) (by kernel_rfl) (by kernel_rfl) rfl rfl rfl (fun w1 => run_move rfl rfl) ?_
 refine wa_takeP (i := 1) (d := 7) 7 rfl (by kernel_rfl) (by kernel_rfl) (by kernel_rfl) rfl rfl rfl (fun w2 => run_move rfl rfl) ?_
 refine wa_take (i := 2) (d := 8) 6 rfl (by kernel_rfl) (by kernel_rfl) (by kernel_rfl) rfl rfl rfl (fun M3 N3 w3 hle3 S3 => .inl (run_indexR (C := cdInt) (i := 0) i.toNat rfl rfl rfl sl36 S3.suf rfl (by first | rfl | omega) (by first | omega | (simp only [lens]; omega)))) ?_
 refine wa_take (i := 3) (d := 9) 5 rfl (by kernel_rfl) (by kernel_rfl) (by kernel_rfl) rfl rfl rfl (fun M4 N4 w4 hle4 S4 => .inl (run_load1 rfl rfl Try.underlying3 rfl (S4.suf.rowc (i := 0) (e := i.toNat) (j := 0) rfl (by first | omega | (simp only [lens]; omega)) rfl rfl))) ?_
 refine wa_takeP (i := 4) (d := 10) 4 rfl (by kernel_rfl) (by kernel_rfl) (by kernel_rfl) rfl rfl rfl (fun w5 => run_move rfl rfl) ?_
 refine wa_takeP (i := 5) (d := 11) 3 rfl (by kernel_rfl) (by kernel_rfl) (by kernel_rfl) rfl rfl rfl (fun w6 => run_move rfl rfl) ?_
 refine wa_take (i := 6) (d := 12) 2 rfl (by kernel_rfl) (by kernel_rfl) (by kernel_rfl) rfl rfl rfl (fun M7 N7 w7 hle7 S7 => .inl (run_indexR (C := cdInt) (i := 0) j.toNat rfl rfl rfl sl36 S7.suf rfl (by first | rfl | omega) (by first | omega | (simp only [lens]; omega)))) ?_
 refine wa_take (i := 7) (d := 13) 1 rfl (by kernel_rfl) (by kernel_rfl) (by kernel_rfl) rfl rfl rfl (fun M8 N8 w8 hle8 S8 => .inl (run_load1 rfl rfl Try.underlying3 rfl (S8.suf.rowc (i := 0) (e := j.toNat) (j := 0) rfl (by first | omega | (simp only [lens]; omega)) rfl rfl))) ?_
 refine wa_takeP (i := 8) (d := 14) 0 rfl (by kernel_rfl) (by kernel_rfl) (by kernel_rfl) rfl rfl rfl (fun w9 => run_lss rfl rfl rfl) ?_
 refine wa_end (by kernel_rfl) (fun w10 S10 => ?_)
 refine nm_sub [(0, _), (1, _), (2, _), (14, _)] ⟨rfl, rfl, rfl, rfl, trivial⟩ ?_
 refine nm_thn ?_
 refine ws_condN level_n3 level_n4 rfl rfl rfl rfl (fun hb14 => ?_) (fun hb14 => ?_)
 ·have hb14 := of_decide_eq_true hb14
  refine ws_region rfl ?_
  refine wlm 0 1 rfl rfl rfl rfl rfl rfl rfl ?_
  refine wlm 1 2 rfl rfl rfl rfl rfl rfl rfl ?_
  refine wlm 2 3 rfl rfl rfl rfl rfl rfl rfl ?_
  refine wlm 3 4 rfl rfl rfl rfl rfl rfl rfl ?_
  refine wlo 4 5 rfl rfl rfl (wo_run rfl rfl (run_indexR (C := cdInt) (i := 0) i.toNat rfl rfl rfl sl36 S10 rfl (by first | rfl | omega) (by first | omega | (simp only [lens]; omega))) ?_)
  refine wlo 5 6 rfl rfl rfl (wo_run rfl rfl (run_load1 rfl rfl Try.underlying3 rfl (S10.rowc (i := 0) (e := i.toNat) (j := 0) rfl (by first | omega | (simp only [lens]; omega)) rfl rfl)) ?_)
  refine wlo 6 7 rfl rfl rfl (wo_run rfl rfl (run_indexR (C := cdInt) (i := 0) j.toNat rfl rfl rfl sl36 S10 rfl (by first | rfl | omega) (by first | omega | (simp only [lens]; omega))) ?_)
  refine wlo 7 8 rfl rfl rfl (wo_storeR (C := cdInt) (i := 0) (e := j.toNat) (j := 0) (us := [_]) (H' := [_]) (ga ws i.toNat) rfl rfl S10 rfl (by first | omega | (simp only [lens]; omega)) rfl rfl rfl sz3 rfl rfl rfl rfl ?_)
  intro w11 S11; clear S10
  refine wl_end rfl ?_
  refine nm_end hC [] rfl trivial ?_
  exact ⟨_, rfl, _, _, Hp.le_refl _, S11.pick [0] [_] (by decide) ⟨rfl, trivial⟩, ⟨rfl, rfl, by unfold stepW; first | rw [if_pos (by assumption)] | rw [if_neg (by assumption)]⟩⟩
 ·have hb14 := of_decide_eq_false hb14
  refine ws_region rfl ?_
  refine wlm 0 1 rfl rfl rfl rfl rfl rfl rfl ?_
  refine wlm 1 2 rfl rfl rfl rfl rfl rfl rfl ?_
  refine wlm 2 3 rfl rfl rfl rfl rfl rfl rfl ?_
  refine wlm 3 4 rfl rfl rfl rfl rfl rfl rfl ?_
  refine wlo 4 5 rfl rfl rfl (wo_run rfl rfl (run_indexR (C := cdInt) (i := 0) j.toNat rfl rfl rfl sl36 S10 rfl (by first | rfl | omega) (by first | omega | (simp only [lens]; omega))) ?_)
  refine wlo 5 6 rfl rfl rfl (wo_run rfl rfl (run_load1 rfl rfl Try.underlying3 rfl (S10.rowc (i := 0) (e := j.toNat) (j := 0) rfl (by first | omega | (simp only [lens]; omega)) rfl rfl)) ?_)
  refine wlo 6 7 rfl rfl rfl (wo_run rfl rfl (run_indexR (C := cdInt) (i := 0) i.toNat rfl rfl rfl sl36 S10 rfl (by first | rfl | omega) (by first | omega | (simp only [lens]; omega))) ?_)
  refine wlo 7 8 rfl rfl rfl (wo_storeR (C := cdInt) (i := 0) (e := i.toNat) (j := 0) (us := [_]) (H' := [_]) (ga ws j.toNat) rfl rfl S10 rfl (by first | omega | (simp only [lens]; omega)) rfl rfl rfl sz3 rfl rfl rfl rfl ?_)
  intro w12 S12; clear S10
  refine wl_end rfl ?_
  refine nm_end hC [] rfl trivial ?_
  exact ⟨_, rfl, _, _, Hp.le_refl _, S12.pick [0] [_] (by decide) ⟨rfl, trivial⟩, ⟨rfl, rfl, by unfold stepW; first | rw [if_pos (by assumption)] | rw [if_neg (by assumption)]⟩⟩
end Go.Proofs.Ytkcighnochjlgaa
namespace Go.Proofs.Ytkcighnochjlgaa
open Go.ChangeShapes Go.WideShapes Go.ChangeAt Go.RowKit
section
variable (e1 e2 : Nat → Nat) (N : Nat)
def frG (cl : List Int) (k : Nat) : Int := max (ga cl (e1 k)) (ga cl (e2 k))
def toG (cl : List Int) (k : Nat) : Int := min (ga cl (e1 k)) (ga cl (e2 k))
def clsG : Nat → List Int
 | 0 => iniW N N
 | k + 1 => relN (clsG k) (frG e1 e2 (clsG k) k) (toG e1 e2 (clsG k) k) N
theorem clsG_len (k : Nat) : (clsG e1 e2 N k).length = N := by
 induction k with
 | zero => exact iniW_len _ _
 | succ k ih => rw [clsG, relN_len, ih]
theorem clsG_ga (k x : Nat) (hx : x < N) : ga (clsG e1 e2 N (k + 1)) x = if ga (clsG e1 e2 N k) x = frG e1 e2 (clsG e1 e2 N k) k then toG e1 e2 (clsG e1 e2 N k) k else ga (clsG e1 e2 N k) x := by
 rw [clsG, relN_ga _ _ _ _ (by rw [clsG_len]; exact Nat.le_refl _)]
 by_cases h9 : ga (clsG e1 e2 N k) x = frG e1 e2 (clsG e1 e2 N k) k
 ·rw [if_pos ⟨hx, h9⟩, if_pos h9]
 ·rw [if_neg (fun h => h9 h.2), if_neg h9]
theorem clsG_zero (y : Nat) (hy : y < N) : ga (clsG e1 e2 N 0) y = (y : Int) := iniW_ga _ _ (Nat.le_refl _) y hy
theorem frG_or (cl : List Int) (k : Nat) : frG e1 e2 cl k = ga cl (e1 k) ∨ frG e1 e2 cl k = ga cl (e2 k) := by unfold frG; omega
theorem toG_or (cl : List Int) (k : Nat) : toG e1 e2 cl k = ga cl (e1 k) ∨ toG e1 e2 cl k = ga cl (e2 k) := by unfold toG; omega
variable {e1 e2 N}
theorem clsG_ok {K : Nat} (he : ∀ k, k < K → e1 k < N ∧ e2 k < N) (k : Nat) (hk : k ≤ K) : ClsOk N (clsG e1 e2 N k) := by
 induction k with
 | zero => exact ⟨iniW_len _ _, fun x hx => by
   rw [clsG_zero e1 e2 N x hx]
   refine ⟨by omega, by omega, ?_⟩
   rw [show ((x : Int)).toNat = x by omega, clsG_zero e1 e2 N x hx]⟩
 | succ k ih =>
  have ih := ih (by omega)
  obtain ⟨b1, b2⟩ := he k (by omega)
  obtain ⟨p1, _, p3⟩ := ih.2 _ b1
  obtain ⟨q1, _, q3⟩ := ih.2 _ b2
  refine ok_step ih (clsG_len _ _ _ _) (fun x hx => clsG_ga e1 e2 N k x hx) (by unfold frG toG; omega) (by unfold toG; omega) ?_
  rcases toG_or e1 e2 (clsG e1 e2 N k) k with e | e <;> rw [e] <;> assumption
theorem clsG_keep {j x y : Nat} (hx : x < N) (hy : y < N) (e : ga (clsG e1 e2 N j) x = ga (clsG e1 e2 N j) y) : ga (clsG e1 e2 N (j + 1)) x = ga (clsG e1 e2 N (j + 1)) y := by
 rw [clsG_ga e1 e2 N j x hx, clsG_ga e1 e2 N j y hy, e]
theorem clsG_same {k : Nat} (b1 : e1 k < N) (b2 : e2 k < N) (j : Nat) (hj : k < j) : ga (clsG e1 e2 N j) (e1 k) = ga (clsG e1 e2 N j) (e2 k) := by
 induction j with
 | zero => omega
 | succ j ih =>
  by_cases e : k = j
  ·subst e
   rw [clsG_ga e1 e2 N k _ b1, clsG_ga e1 e2 N k _ b2]
   unfold frG toG
   split <;> split <;> omega
  ·exact clsG_keep b1 b2 (ih (by omega))
theorem clsG_con {K : Nat} (he : ∀ k, k < K → e1 k < N ∧ e2 k < N) (Z : Nat → Prop) (hZ : ∀ k, k < K → (Z (e1 k) ↔ Z (e2 k))) (j : Nat) (hj : j ≤ K) : ∀ x y, x < N → y < N → ga (clsG e1 e2 N j) x = ga (clsG e1 e2 N j) y → (Z x ↔ Z y) := by
 induction j with
 | zero =>
  intro x y hx hy e
  rw [clsG_zero e1 e2 N x hx, clsG_zero e1 e2 N y hy] at e
  obtain rfl : x = y := by omega
  exact Iff.rfl
 | succ j ih =>
  have ih := ih (by omega)
  obtain ⟨b1, b2⟩ := he j (by omega)
  have hz := hZ j (by omega)
  have hf : ∀ x, x < N → ga (clsG e1 e2 N j) x = frG e1 e2 (clsG e1 e2 N j) j → (Z x ↔ Z (e1 j)) := fun x hx e => by
   rcases frG_or e1 e2 (clsG e1 e2 N j) j with h2 | h2
   ·exact ih x _ hx b1 (e.trans h2)
   ·exact (ih x _ hx b2 (e.trans h2)).trans hz.symm
  have ht : ∀ x, x < N → ga (clsG e1 e2 N j) x = toG e1 e2 (clsG e1 e2 N j) j → (Z x ↔ Z (e1 j)) := fun x hx e => by
   rcases toG_or e1 e2 (clsG e1 e2 N j) j with h2 | h2
   ·exact ih x _ hx b1 (e.trans h2)
   ·exact (ih x _ hx b2 (e.trans h2)).trans hz.symm
  intro x y hx hy e
  rw [clsG_ga e1 e2 N j x hx, clsG_ga e1 e2 N j y hy] at e
  by_cases hfx : ga (clsG e1 e2 N j) x = frG e1 e2 (clsG e1 e2 N j) j
  ·rw [if_pos hfx] at e
   by_cases hfy : ga (clsG e1 e2 N j) y = frG e1 e2 (clsG e1 e2 N j) j
   ·exact (hf x hx hfx).trans (hf y hy hfy).symm
   ·rw [if_neg hfy] at e
    exact (hf x hx hfx).trans (ht y hy e.symm).symm
  ·rw [if_neg hfx] at e
   by_cases hfy : ga (clsG e1 e2 N j) y = frG e1 e2 (clsG e1 e2 N j) j
   ·rw [if_pos hfy] at e
    exact (ht x hx e).trans (hf y hy hfy).symm
   ·rw [if_neg hfy] at e
    exact ih x y hx hy e
end
def rdsG (e1 e2 : Nat → Nat) (N K : Nat) : Nat → List Int
 | 0 => iniW N N
 | j + 1 => roundG e1 e2 (rdsG e1 e2 N K j) K
theorem rdsG_len (e1 e2 : Nat → Nat) (N K j : Nat) : (rdsG e1 e2 N K j).length = N := by
 induction j with
 | zero => exact iniW_len _ _
 | succ j ih => rw [rdsG, roundG_len, ih]
theorem rds_law {e1 e2 : Nat → Nat} {N K : Nat} (he : ∀ k, k < K → e1 k < N ∧ e2 k < N) : rdsG e1 e2 N K N = clsG e1 e2 N K := by
 have hok := clsG_ok he K (Nat.le_refl _)
 have hl := labels (N := N) (K := K) e1 e2 he (fun x => (ga (clsG e1 e2 N K) x).toNat)
  (fun k hk => congrArg Int.toNat (clsG_same (he k hk).1 (he k hk).2 _ hk))
  (fun Z hZ x y hx hy e hz => (clsG_con he Z hZ _ (Nat.le_refl _) x y hx hy (by
   have hX := hok.2 x hx
   have hY := hok.2 y hy
   have e' : (ga (clsG e1 e2 N K) x).toNat = (ga (clsG e1 e2 N K) y).toNat := e
   omega)).1 hz)
  (rdsG e1 e2 N K) (rdsG_len _ _ _ _ 0) (fun x hx => iniW_ga _ _ (Nat.le_refl _) x hx) (fun j => rfl)
 refine ga_ext (by rw [rdsG_len, clsG_len]) fun x hx => ?_
 rw [rdsG_len] at hx
 obtain ⟨z, z1, z2, z3, z4⟩ := hl x hx
 obtain ⟨x1, x2, x3⟩ := hok.2 x hx
 obtain ⟨w1, w2, w3⟩ := hok.2 z z1
 have a1 := z4 (ga (clsG e1 e2 N K) x).toNat (by omega) (by show (ga (clsG e1 e2 N K) (ga (clsG e1 e2 N K) x).toNat).toNat = _; rw [x3])
 replace z3 : (ga (clsG e1 e2 N K) z).toNat = (ga (clsG e1 e2 N K) x).toNat := z3
 rw [z2]
 omega
theorem stepW_ga {w : List Int} {x y : Nat} (hx : x < w.length) (hy : y < w.length) (z : Nat) : ga (stepW w x y) z = if z = x ∨ z = y then min (ga w x) (ga w y) else ga w z := by
 unfold stepW
 by_cases h : ga w x < ga w y
 ·rw [if_pos h, ga_set _ _ _ _ hy]
  by_cases h1 : y = z
  ·subst h1; rw [if_pos rfl, if_pos (.inr rfl)]; omega
  ·rw [if_neg h1]
   by_cases h2 : z = x
   ·subst h2; rw [if_pos (.inl rfl)]; omega
   ·rw [if_neg (by omega)]
 ·rw [if_neg h, ga_set _ _ _ _ hx]
  by_cases h1 : x = z
  ·subst h1; rw [if_pos rfl, if_pos (.inl rfl)]; omega
  ·rw [if_neg h1]
   by_cases h2 : z = y
   ·subst h2; rw [if_pos (.inr rfl)]; omega
   ·rw [if_neg (by omega)]
theorem stepW_id {w : List Int} {x y : Nat} (hx : x < w.length) (hy : y < w.length) (e : ga w x = ga w y) : stepW w x y = w := by
 refine ga_ext (stepW_len _ _ _) fun z _ => ?_
 rw [stepW_ga hx hy]
 split
 ·rename_i h; rcases h with rfl | rfl <;> omega
 ·rfl
def two (p q : Nat) (k : Nat) : Nat := if k = 0 then p else q
theorem two_round {w : List Int} {a b x y : Nat} (ha : a < w.length) (hb : b < w.length) (hx : x < w.length) (hy : y < w.length) (z : Nat) :
  ga (roundG (two a x) (two b y) w 2) z = if z = x ∨ z = y then min (if x = a ∨ x = b then min (ga w a) (ga w b) else ga w x) (if y = a ∨ y = b then min (ga w a) (ga w b) else ga w y) else if z = a ∨ z = b then min (ga w a) (ga w b) else ga w z := by
 show ga (stepW (stepW w a b) x y) z = _
 rw [stepW_ga (by rw [stepW_len]; exact hx) (by rw [stepW_len]; exact hy), stepW_ga ha hb, stepW_ga ha hb, stepW_ga ha hb]
theorem two_done {w : List Int} {a b x y : Nat} (ha : a < w.length) (hb : b < w.length) (hx : x < w.length) (hy : y < w.length) :
  ga (roundG (two a x) (two b y) (roundG (two a x) (two b y) w 2) 2) a = ga (roundG (two a x) (two b y) (roundG (two a x) (two b y) w 2) 2) b ∧
  ga (roundG (two a x) (two b y) (roundG (two a x) (two b y) w 2) 2) x = ga (roundG (two a x) (two b y) (roundG (two a x) (two b y) w 2) 2) y := by
 generalize h1 : roundG (two a x) (two b y) w 2 = v
 have hv : v.length = w.length := by rw [← h1, roundG_len]
 have v1 := two_round ha hb hx hy a
 have v2 := two_round ha hb hx hy b
 have v3 := two_round ha hb hx hy x
 have v4 := two_round ha hb hx hy y
 rw [h1] at v1 v2 v3 v4
 rw [two_round (by omega) (by omega) (by omega) (by omega) a, two_round (by omega) (by omega) (by omega) (by omega) b, two_round (by omega) (by omega) (by omega) (by omega) x, two_round (by omega) (by omega) (by omega) (by omega) y]
 clear h1
 by_cases c1 : x = a <;> by_cases c2 : x = b <;> by_cases c3 : y = a <;> by_cases c4 : y = b <;> (try subst c1) <;> (try subst c2) <;> (try subst c3) <;> (try subst c4) <;> simp_all <;> omega
theorem two_stay {w : List Int} {a b x y : Nat} (ha : a < w.length) (hb : b < w.length) (hx : x < w.length) (hy : y < w.length) (e1 : ga w a = ga w b) (e2 : ga w x = ga w y) : roundG (two a x) (two b y) w 2 = w := by
 show stepW (stepW w a b) x y = w
 rw [stepW_id ha hb e1, stepW_id hx hy e2]
theorem two_law {a b x y N : Nat} (ha : a < N) (hb : b < N) (hx : x < N) (hy : y < N) (hN : 3 ≤ N) : rdsG (two a x) (two b y) N 2 3 = clsG (two a x) (two b y) N 2 := by
 have hl := rdsG_len (two a x) (two b y) N 2
 have hst : ∀ j, 2 ≤ j → rdsG (two a x) (two b y) N 2 (j + 1) = rdsG (two a x) (two b y) N 2 j := fun j hj => by
  induction j with
  | zero => omega
  | succ j ih =>
   by_cases e : j = 1
   ·subst e
    obtain ⟨p, q⟩ := two_done (w := rdsG (two a x) (two b y) N 2 0) (a := a) (b := b) (x := x) (y := y) (by rw [hl]; exact ha) (by rw [hl]; exact hb) (by rw [hl]; exact hx) (by rw [hl]; exact hy)
    exact two_stay (by rw [hl]; exact ha) (by rw [hl]; exact hb) (by rw [hl]; exact hx) (by rw [hl]; exact hy) p q
   ·have := ih (by omega)
    show roundG _ _ (rdsG (two a x) (two b y) N 2 (j + 1)) 2 = roundG _ _ (rdsG (two a x) (two b y) N 2 j) 2
    rw [this]
 have hall : ∀ j, 2 ≤ j → rdsG (two a x) (two b y) N 2 j = rdsG (two a x) (two b y) N 2 2 := fun j hj => by
  induction j with
  | zero => omega
  | succ j ih =>
   by_cases e : j = 1
   ·subst e; rfl
   ·rw [hst j (by omega), ih (by omega)]
 rw [hall 3 (by omega), ← hall N (by omega)]
 refine rds_law fun k hk => ?_
 unfold two
 split
 ·exact ⟨ha, hb⟩
 ·exact ⟨hx, hy⟩
end Go.Proofs.Ytkcighnochjlgaa
namespace Go.Proofs.Ytkcighnochjlgaa
open Go.ChangeShapes Go.WideShapes Go.ChangeAt Go.RowKit
def abv (x : Cr) : Int × Int := if x.plus = true then (x.d, x.b) else (x.b, x.d)
def sp1 (d : Dg) (k : Nat) : Nat := (ga d.crs k).a.toNat
def sq1 (d : Dg) (k : Nat) : Nat := (abv (ga d.crs k)).2.toNat
def sp2 (d : Dg) (k : Nat) : Nat := (abv (ga d.crs k)).1.toNat
def sq2 (d : Dg) (k : Nat) : Nat := (ga d.crs k).c.toNat
def sE1 (d : Dg) (k : Nat) : Nat → Nat := two (sp1 d k) (sp2 d k)
def sE2 (d : Dg) (k : Nat) : Nat → Nat := two (sq1 d k) (sq2 d k)
def smN (d : Dg) (k : Nat) (j : Nat) : List Int := clsG (sE1 d k) (sE2 d k) (2 * d.crs.length + 1) j
def smC (d : Dg) (k : Nat) : List Int := smN d k 2
theorem abv_bd {d : Dg} (h : arcsB d = true) {k : Nat} (hk : k < d.crs.length) : 1 ≤ (abv (ga d.crs k)).1 ∧ (abv (ga d.crs k)).1 ≤ 2 * (d.crs.length : Int) ∧ 1 ≤ (abv (ga d.crs k)).2 ∧ (abv (ga d.crs k)).2 ≤ 2 * (d.crs.length : Int) := by
 have hb : 1 ≤ (ga d.crs k).b ∧ (ga d.crs k).b ≤ 2 * (d.crs.length : Int) := arcAt_bd h hk (k := 1) (by omega)
 have hd : 1 ≤ (ga d.crs k).d ∧ (ga d.crs k).d ≤ 2 * (d.crs.length : Int) := arcAt_bd h hk (k := 3) (by omega)
 unfold abv
 split <;> dsimp only <;> omega
theorem sm_bd {d : Dg} (h : arcsB d = true) {k : Nat} (hk : k < d.crs.length) : (1 ≤ sp1 d k ∧ sp1 d k < 2 * d.crs.length + 1) ∧ (1 ≤ sq1 d k ∧ sq1 d k < 2 * d.crs.length + 1) ∧ (1 ≤ sp2 d k ∧ sp2 d k < 2 * d.crs.length + 1) ∧ (1 ≤ sq2 d k ∧ sq2 d k < 2 * d.crs.length + 1) := by
 have ha : 1 ≤ (ga d.crs k).a ∧ (ga d.crs k).a ≤ 2 * (d.crs.length : Int) := arcAt_bd h hk (k := 0) (by omega)
 have hc : 1 ≤ (ga d.crs k).c ∧ (ga d.crs k).c ≤ 2 * (d.crs.length : Int) := arcAt_bd h hk (k := 2) (by omega)
 have hv := abv_bd h hk
 unfold sp1 sq1 sp2 sq2
 omega
theorem sE_bd {d : Dg} (h : arcsB d = true) {k : Nat} (hk : k < d.crs.length) (j : Nat) : (1 ≤ sE1 d k j ∧ sE1 d k j < 2 * d.crs.length + 1) ∧ (1 ≤ sE2 d k j ∧ sE2 d k j < 2 * d.crs.length + 1) := by
 obtain ⟨h1, h2, h3, h4⟩ := sm_bd h hk
 unfold sE1 sE2 two
 split
 ·exact ⟨h1, h2⟩
 ·exact ⟨h3, h4⟩
theorem sm_vals {d : Dg} (h : arcsB d = true) {k : Nat} (hk : k < d.crs.length) (j : Nat) : Value.agg [if j = 0 then Value.int .i64 (ga d.crs k).a else Value.int .i64 (abv (ga d.crs k)).1, if j = 0 then Value.int .i64 (abv (ga d.crs k)).2 else Value.int .i64 (ga d.crs k).c].toArray = Value.agg [.int .i64 ((sE1 d k j : Nat) : Int), .int .i64 ((sE2 d k j : Nat) : Int)].toArray := by
 have ha : 1 ≤ (ga d.crs k).a ∧ (ga d.crs k).a ≤ 2 * (d.crs.length : Int) := arcAt_bd h hk (k := 0) (by omega)
 have hc : 1 ≤ (ga d.crs k).c ∧ (ga d.crs k).c ≤ 2 * (d.crs.length : Int) := arcAt_bd h hk (k := 2) (by omega)
 have hv := abv_bd h hk
 unfold sE1 sE2 two sp1 sp2 sq1 sq2
 split
 ·rw [Int.toNat_of_nonneg (by omega), Int.toNat_of_nonneg (by omega)]
 ·rw [Int.toNat_of_nonneg (by omega), Int.toNat_of_nonneg (by omega)]
theorem smN_len (d : Dg) (k j : Nat) : (smN d k j).length = 2 * d.crs.length + 1 := clsG_len _ _ _ _
theorem smN_ok {d : Dg} (h : arcsB d = true) {k : Nat} (hk : k < d.crs.length) (j : Nat) (hj : j ≤ 2) : ClsOk (2 * d.crs.length + 1) (smN d k j) := clsG_ok (K := 2) (fun i _ => ⟨(sE_bd h hk i).1.2, (sE_bd h hk i).2.2⟩) j hj
theorem sm_pos {d : Dg} (h : arcsB d = true) {k : Nat} (hk : k < d.crs.length) {x : Nat} (h1 : 1 ≤ x) (h2 : x < 2 * d.crs.length + 1) : 1 ≤ ga (smC d k) x := by
 obtain ⟨o1, o2, o3⟩ := (smN_ok h hk 2 (Nat.le_refl _)).2 x h2
 have hc := clsG_con (K := 2) (e1 := sE1 d k) (e2 := sE2 d k) (N := 2 * d.crs.length + 1) (fun i _ => ⟨(sE_bd h hk i).1.2, (sE_bd h hk i).2.2⟩) (fun y => y = 0) (fun i _ => by
  have := sE_bd h hk i
  constructor <;> intro h9 <;> exfalso <;> omega) 2 (Nat.le_refl _) x (ga (smC d k) x).toNat h2 (by show (ga (smN d k 2) x).toNat < _; omega) o3.symm
 have e : (smC d k) = smN d k 2 := rfl
 rw [e] at *
 rcases Nat.eq_zero_or_pos (ga (smN d k 2) x).toNat with h9 | h9
 ·have := hc.2 h9; omega
 ·omega
theorem sm_law {d : Dg} (h : arcsB d = true) {k : Nat} (hk : k < d.crs.length) : rdsG (sE1 d k) (sE2 d k) (2 * d.crs.length + 1) 2 3 = smC d k := by
 obtain ⟨h1, h2, h3, h4⟩ := sm_bd h hk
 exact two_law h1.2 h2.2 h3.2 h4.2 (by omega)
def lf1 (cl : List Int) (v : Cr) : Nat → Int → Bool
 | 0, _ => false
 | s + 1, x => lf1 cl v s x || decide (x = ga cl (crArc v s).toNat)
def lfL (cl : List Int) (l : List Cr) (x : Int) : Bool := l.any fun v => lf1 cl v 4 x
def remN (d : Dg) (k : Nat) : Nat → List Cr
 | 0 => []
 | c + 1 => if c = k then remN d k c else remN d k c ++ [ga d.crs c]
def remL (d : Dg) (k : Nat) : List Cr := remN d k d.crs.length
theorem remN_len (d : Dg) (k : Nat) (c : Nat) : (remN d k c).length ≤ c := by
 induction c with
 | zero => exact Nat.le_refl _
 | succ c ih =>
  rw [remN]
  split
  ·omega
  ·rw [List.length_append, List.length_singleton]; omega
theorem remN_mem {d : Dg} {k c : Nat} {v : Cr} (h : v ∈ remN d k c) : ∃ i, i < c ∧ v = ga d.crs i := by
 induction c with
 | zero => cases h
 | succ c ih =>
  rw [remN] at h
  split at h
  ·obtain ⟨i, h1, h2⟩ := ih h; exact ⟨i, by omega, h2⟩
  ·rcases List.mem_append.1 h with h | h
   ·obtain ⟨i, h1, h2⟩ := ih h; exact ⟨i, by omega, h2⟩
   ·rw [List.mem_singleton] at h; exact ⟨c, by omega, h⟩
theorem rem_arc {d : Dg} (h : arcsB d = true) {k c : Nat} (hc : c ≤ d.crs.length) {v : Cr} (hv : v ∈ remN d k c) {s : Nat} (hs : s < 4) : 1 ≤ crArc v s ∧ crArc v s ≤ 2 * (d.crs.length : Int) := by
 obtain ⟨i, h1, rfl⟩ := remN_mem hv
 exact arcAt_bd h (by omega) hs
theorem lf1_iff {cl : List Int} {v : Cr} {s : Nat} {x : Int} : lf1 cl v s x = true ↔ ∃ t, t < s ∧ x = ga cl (crArc v t).toNat := by
 induction s with
 | zero => exact ⟨fun h => (by cases h), fun ⟨t, h, _⟩ => (by omega)⟩
 | succ s ih =>
  rw [lf1, Bool.or_eq_true, ih, decide_eq_true_iff]
  constructor
  ·rintro (⟨t, h1, h2⟩ | h)
   ·exact ⟨t, by omega, h2⟩
   ·exact ⟨s, by omega, h⟩
  ·rintro ⟨t, h1, h2⟩
   by_cases e : t = s
   ·subst e; exact .inr h2
   ·exact .inl ⟨t, by omega, h2⟩
theorem lfL_iff {cl : List Int} {l : List Cr} {x : Int} : lfL cl l x = true ↔ ∃ v ∈ l, ∃ t, t < 4 ∧ x = ga cl (crArc v t).toNat := by
 unfold lfL
 rw [List.any_eq_true]
 constructor
 ·rintro ⟨v, h1, h2⟩; exact ⟨v, h1, lf1_iff.1 h2⟩
 ·rintro ⟨v, h1, h2⟩; exact ⟨v, h1, lf1_iff.2 h2⟩
theorem lfL_snoc (cl : List Int) (l : List Cr) (v : Cr) (x : Int) : lfL cl (l ++ [v]) x = (lfL cl l x || lf1 cl v 4 x) := by
 unfold lfL; rw [List.any_append]; simp
theorem lf_root {d : Dg} (h : arcsB d = true) {k : Nat} (hk : k < d.crs.length) {x : Nat} (hl : lfL (smC d k) (remL d k) (x : Int) = true) : 1 ≤ x ∧ x < 2 * d.crs.length + 1 ∧ ga (smC d k) x = (x : Int) := by
 obtain ⟨v, h1, t, h2, h3⟩ := lfL_iff.1 hl
 have ha := rem_arc h (Nat.le_refl _) h1 h2
 have hp := sm_pos h hk (x := (crArc v t).toNat) (by omega) (by omega)
 obtain ⟨o1, o2, o3⟩ := (smN_ok h hk 2 (Nat.le_refl _)).2 (crArc v t).toNat (by omega)
 have e : smN d k 2 = smC d k := rfl
 rw [e] at o1 o2 o3
 rw [← h3] at o3
 refine ⟨by omega, by omega, ?_⟩
 rwa [show ((x : Int)).toNat = x by omega] at o3
theorem rem_left {d : Dg} {k : Nat} {v : Cr} (hv : v ∈ remL d k) {s : Nat} (hs : s < 4) : lfL (smC d k) (remL d k) (ga (smC d k) (crArc v s).toNat) = true := lfL_iff.2 ⟨v, hv, s, hs, rfl⟩
def rtB2 (cl : List Int) (l : List Cr) (a : Nat) : Bool := decide (1 ≤ a) && (decide (ga cl a = (a : Int)) && lfL cl l (a : Int))
def loB2 (cl : List Int) (l : List Cr) (a : Nat) : Bool := decide (1 ≤ a) && (decide (ga cl a = (a : Int)) && !lfL cl l (a : Int))
def nuA (cl : List Int) (l : List Cr) (y : Int) : Int := (cn (rtB2 cl l) ((ga cl y.toNat).toNat + 1) : Int)
def nuC (cl : List Int) (l : List Cr) (v : Cr) : Cr := ⟨nuA cl l v.a, nuA cl l v.b, nuA cl l v.c, nuA cl l v.d, v.plus⟩
def smD (d : Dg) (k : Nat) : Dg := ⟨(remL d k).map (nuC (smC d k) (remL d k)), d.loops + cn (loB2 (smC d k) (remL d k)) (2 * d.crs.length + 1)⟩
theorem cn_yes {P : Nat → Bool} {a : Nat} (h : P a = true) : cn P (a + 1) = cn P a + 1 := by rw [cn, if_pos h]
theorem cn_no {P : Nat → Bool} {a : Nat} (h : P a = false) : cn P (a + 1) = cn P a := by rw [cn, if_neg (by rw [h]; decide)]; rfl
theorem rem_nu {d : Dg} (h : arcsB d = true) {k : Nat} (hk : k < d.crs.length) {nu : List Int} (hnu : ∀ x, x < 2 * d.crs.length + 1 → rtB2 (smC d k) (remL d k) x = true → ga nu x = (cn (rtB2 (smC d k) (remL d k)) (x + 1) : Int)) {v : Cr} (hv : v ∈ remL d k) {s : Nat} (hs : s < 4) :
  ga nu (ga (smC d k) (crArc v s).toNat).toNat = nuA (smC d k) (remL d k) (crArc v s) := by
 have ha := rem_arc h (Nat.le_refl _) hv hs
 have hp := sm_pos h hk (x := (crArc v s).toNat) (by omega) (by omega)
 have hl := rem_left hv hs
 obtain ⟨o1, o2, o3⟩ := (smN_ok h hk 2 (Nat.le_refl _)).2 (crArc v s).toNat (by omega)
 have e : smN d k 2 = smC d k := rfl
 rw [e] at o1 o2 o3
 have e2 : (((ga (smC d k) (crArc v s).toNat).toNat : Nat) : Int) = ga (smC d k) (crArc v s).toNat := by omega
 rw [hnu _ (by omega) (by unfold rtB2; rw [e2, o3, hl]; simp; omega)]
 rfl
end Go.Proofs.Ytkcighnochjlgaa
namespace Go.Proofs.Ytkcighnochjlgaa
open Go.ChangeShapes Go.WideShapes Go.ChangeAt Go.RowKit
/-- A list of terms that may be handed in. -/
def okT (a : List Tm) (i : Nat) : Prop := (-1000 ≤ (ga a i).e ∧ (ga a i).e ≤ 1000) ∧ (-1000000 ≤ (ga a i).c ∧ (ga a i).c ≤ 1000000) ∧ (ga a i).c ≠ 0 ∧ (0 < i → (ga a ((i : Int) - 1).toNat).e < (ga a i).e)
instance (a : List Tm) (i : Nat) : Decidable (okT a i) := by unfold okT; infer_instance
end Go.Proofs.Ytkcighnochjlgaa
namespace Go.Proofs.Ytkcighnochjlgaa
open Go.ChangeShapes Go.WideShapes Go.ChangeAt Go.RowKit
section
variable {α : Type} {C : Cd α} {N N' : Hp} {vs vs' : List SlV} {xss yss : List (List α)}
/-- The inner lists' own lists. -/
def RdD (C : Cd α) (N : Hp) (svs : List (List SlV)) (mm : List (List (List α))) : Prop := svs.length = mm.length ∧ ∀ i, i < svs.length → Rd2 C N (ga svs i) (ga mm i)
variable {svs : List (List SlV)} {mm : List (List (List α))}
theorem RdD.nil_ : RdD C N [] [] := ⟨rfl, fun i hi => by simp at hi⟩
end
section
variable {P : Program} {o : Oper} {L : List (Nat × Value)} {w : World} {x hx : Operand} {t tn T : TypeId} {n d : Nat} {Kt : List (Nat × Value) → World → Prop} {M : Hp} {X : Fr} {H : List Rs}
end
end Go.Proofs.Ytkcighnochjlgaa
namespace Go.Proofs.Ytkcighnochjlgaa
open Go.ChangeShapes Go.WideShapes Go.ChangeAt Go.RowKit
section
variable {P : Program} {o : Oper} {L : List (Nat × Value)} {w w' : World} {x y : Operand} {T E : TypeId} {a : Int} {v : Value} {M : Hp} {X : Fr} {H N : List Rs} {i g : Nat} {l : List Value}
theorem yield_cqF {o : Oper} {fid : FuncId} {vs cap : List Value} {ca : Call} {fo : Operand} {xs : List Operand} {v : Value} (hop : o.op = .call ca) (hca : ca.callee = .value fo) (hfo : oev L fo = some (.func (.func fid) #[] cap.toArray))
    (hxs : ca.args = xs.toArray) (hvs : oevs L xs = some vs) (hen : ∀ args w, (callFunc fid args).run P w = .ok (.enter fid args) w) (S : SH w M X H) (hc : Cq P fid (vs ++ cap) w M (XH w X H) (fun u => u = v)) :
    Run P o L w v w ∨ ∃ fid vs, (∀ n a, Env n L a → (execOp a.eval o).run P w = .ok (.enter fid vs) w) ∧ Calls P fid vs w fun e w3 => e = .returned v ∧ SH w3 M X H := by
  refine .inr ⟨fid, (vs ++ cap).toArray, fun n a ha => ?_, hc.mono fun e w3 ⟨u, h1, h2, h3⟩ => ⟨by rw [h1, h3], S.back h2⟩⟩
  unfold execOp
  simp only [hop, resolve, hca, ha.eval hfo, hxs, List.map_toArray, ha.evals hvs, Deferred.ofValue, Sem.run_bind, Sem.run_pure, Result.andThen_ok, invoke, Array.empty_append, List.append_toArray]
  exact hen _ _
theorem nth_app (N H : List Rs) (i : Nat) : nth (N ++ H) (N.length + i) = nth H i := by
  rw [nth_eq, nth_eq, List.getElem?_append_right (by omega)]
  congr 1
  omega
theorem SH.boxMs (S : SH w M X (N ++ H)) (hi : nth H i = some (Rs.box g E l)) : BxM (M.un (XH w X (N ++ H)).h) g E l := S.boxM (i := N.length + i) (by rw [nth_app]; exact hi)
theorem run_indexA2 {e : Nat} {p q r s : Value} {dd : TypeDesc} (hop : o.op = .index T x y) (hx : oev L x = some (.agg [p, q, r, s].toArray)) (hy : oev L y = some (.int .i64 a)) (hu : P.underlying T = some (.array 2 E)) (hE : P.underlying E = some dd) (hf : flatD dd = false) (hk : (P.info? E).map (·.size) = some 2)
    (ha : a = (e : Int)) (he : e < 2) : Run P o L w (.agg [if e = 0 then p else r, if e = 0 then q else s].toArray) w := by
  intro n c hc
  unfold execOp
  have h1 : (0 : Int) ≤ (e : Int) ∧ (e : Int) < ((2 : Nat) : Int) := by omega
  simp only [hop, hc.eval hx, hc.eval hy, Instr.index, asIntOf, Sem.run_bind, Sem.run_pure, Result.andThen_ok, run_underlying hu, ha, h1, and_self, if_true, run_sizeOf hk, Int.toNat_natCast, part, run_isAgg hE, hf, Bool.not_false]
  have : e = 0 ∨ e = 1 := by omega
  rcases this with rfl | rfl <;> rfl
end
end Go.Proofs.Ytkcighnochjlgaa
namespace Go.Proofs.Ytkcighnochjlgaa
open Go.ChangeShapes Go.WideShapes Go.ChangeAt Go.RowKit
theorem nilC {N : Hp} {A : Option Addr} {c : Nat} {s : List Cr} (h : RdA cdCr N A c s) (hn : Option.isNone A = true) : s = [] := by
 cases s with
 | nil => rfl
 | cons y ys => have := (h.2.2 (by simp)).1; rw [this] at hn; cases hn
def chg (x : Cr) : Cr := if x.plus = true then ⟨x.d, x.a, x.b, x.c, false⟩ else ⟨x.b, x.c, x.d, x.a, true⟩
def chD (d : Dg) (k : Nat) : Dg := ⟨d.crs.set k (chg (ga d.crs k)), d.loops⟩
noncomputable def Turned1_n0 : Code := Try.f154.body.getD .skip
noncomputable def Turned1_n1 : Code := cL Turned1_n0
noncomputable def Turned1_n2 : Code := cR Turned1_n0
noncomputable def Turned1_n3 : Code := cL Turned1_n2
noncomputable def Turned1_n4 : Code := cR Turned1_n2
set_option maxRecDepth 10000 in
theorem Turned1_q {w : World} {M : Hp} {X : Fr} (i : Nat) (x : Cr) {g0 : Nat} (by_ : Nat) {g1 : Nat} (hbx : BxM (M.un X.h) g0 108 [.int .i64 x.a, .int .i64 x.b, .int .i64 x.c, .int .i64 x.d, .bool x.plus]) (hby : BxM (M.un X.h) g1 3 [.int .i64 (by_ : Int)]) (hi : i < 4) (hb : by_ < 4) (S : SH w M X []) : Cq Try.prog 154 [.int .i64 (i : Int), .pointer (some ⟨g0, 0, none⟩), .pointer (some ⟨g1, 0, none⟩)] w M X (fun u => u = .int .i64 (crArc x ((i + by_) % 4))) := by
 unfold Cq
 refine calls_in (b := Turned1_n0) Try.func154 rfl Try.ntmps154 rfl (fun C hC => ?_)
 refine ws_sub [(0, _), (1, _), (2, _)] ⟨rfl, rfl, rfl, trivial⟩ ?_
 refine ws_seqN Turned1_n1 Turned1_n2 rfl rfl rfl ?_
 refine ws_region rfl ?_
 refine wla 0 1 rfl rfl rfl rfl rfl rfl rfl ?_
 refine wl_end rfl ?_
 refine nm_sub [(0, _), (1, _), (2, _)] ⟨rfl, rfl, rfl, trivial⟩ ?_
 refine nm_thn ?_
 refine ws_seqN Turned1_n3 Turned1_n4 rfl rfl rfl ?_
 refine ws_region rfl ?_
 refine wlo 0 1 rfl rfl rfl (wo_run rfl rfl (run_loadN (us := [_, _, _, _, _]) rfl rfl Try.underlying108 rfl sz108 (hbx.cells S.um ⟨rfl, rfl, rfl, rfl, rfl, trivial⟩)) ?_)
 refine wlm 1 2 rfl rfl rfl rfl rfl rfl rfl ?_
 refine wlo 2 3 rfl rfl rfl (wo_run rfl rfl (run_load1 rfl rfl Try.underlying3 rfl (hby.cell S.um rfl)) ?_)
 refine wlo 3 4 rfl rfl rfl (wo_run rfl rfl (run_add rfl rfl rfl (by first | omega | (simp only [lens]; omega))) ?_)
 refine wlo 4 5 rfl rfl rfl (wo_run rfl rfl (run_rem rfl rfl rfl (by first | omega | (simp only [lens]; omega))) ?_)
 refine wlo 5 6 rfl rfl rfl (wo_cq rfl rfl rfl rfl rfl rfl rfl cf112 S (Arc_q x ((((i : Int) + (by_ : Int)) % 4).toNat) (by omega) S.lend) ?_)
 rintro _ w1 S1 rfl; clear S
 refine wla 6 7 rfl rfl rfl rfl rfl rfl rfl ?_
 refine wl_end rfl ?_
 refine nm_sub [(4, _)] ⟨rfl, trivial⟩ ?_
 refine nm_thn ?_
 refine ws_ret hC [_] rfl rfl ⟨rfl, trivial⟩ ?_
 exact ⟨_, rfl, (S1.pick [] [] (by decide) trivial), rfl⟩
noncomputable def Turned_n0 : Code := Try.f139.body.getD .skip
noncomputable def Turned_n1 : Code := cL Turned_n0
noncomputable def Turned_n2 : Code := cR Turned_n0
noncomputable def Turned_n3 : Code := cL Turned_n2
noncomputable def Turned_n4 : Code := cR Turned_n2
noncomputable def Turned_n5 : Code := cL Turned_n4
noncomputable def Turned_n6 : Code := cR Turned_n4
set_option maxRecDepth 10000 in
theorem Turned_q {w : World} {M : Hp} {X : Fr} (x : Cr) (k : Nat) (hk : k < 4) (S : SH w M X []) : Cq Try.prog 139 [.agg [.int .i64 x.a, .int .i64 x.b, .int .i64 x.c, .int .i64 x.d, .bool x.plus].toArray, .int .i64 (k : Int)] w M X (fun u => u = .agg [.int .i64 (crArc x ((0 + k) % 4)), .int .i64 (crArc x ((1 + k) % 4)), .int .i64 (crArc x ((2 + k) % 4)), .int .i64 (crArc x ((3 + k) % 4)), .bool x.plus].toArray) := by
 unfold Cq
 refine calls_in (b := Turned_n0) Try.func139 rfl Try.ntmps139 rfl (fun C hC => ?_)
 refine ws_sub [(0, _), (1, _)] ⟨rfl, rfl, trivial⟩ ?_
 refine ws_seqN Turned_n1 Turned_n2 rfl rfl rfl ?_
 refine ws_region rfl ?_
 refine wlo 0 1 rfl rfl rfl (wo_box (l := [_, _, _, _, _]) rfl rfl rfl rfl rfl S ?_)
 intro gb1 w1 S1; clear S
 refine wlo 1 2 rfl rfl rfl (wo_box (l := [_]) rfl rfl rfl rfl rfl S1 ?_)
 intro gb2 w2 S2; clear S1
 refine wlo 2 3 rfl rfl rfl (wo_alloc (l := [_, _, _, _, _]) rfl rfl rfl zr108 rfl S2 ?_)
 intro gb3 w3 S3; clear S2
 refine wl_end rfl ?_
 refine nm_sub [(2, _), (3, _), (4, _)] ⟨rfl, rfl, rfl, trivial⟩ ?_
 refine nm_thn ?_
 refine ws_seqN Turned_n3 Turned_n4 rfl rfl rfl ?_
 refine ws_region rfl ?_
 refine wlo 0 1 rfl rfl rfl (wo_run rfl rfl (run_makeFunc (vs := [_, _]) rfl rfl rfl rfl) ?_)
 refine wla 1 2 rfl rfl rfl rfl rfl rfl rfl ?_
 refine wl_end rfl ?_
 refine nm_sub [(2, _), (4, _), (5, _)] ⟨rfl, rfl, rfl, trivial⟩ ?_
 refine nm_thn ?_
 refine ws_seqN Turned_n5 Turned_n6 rfl rfl rfl ?_
 refine ws_draw rfl (by kernel_rfl) S3 12 rfl ?_
 clear S3
 refine wa_takeP (i := 0) (d := 7) 11 rfl (by kernel_rfl) (by kernel_rfl) (by kernel_rfl) rfl rfl rfl (fun w4 => run_move rfl rfl) ?_
 refine wa_take (i := 1) (d := 8) 10 rfl (by kernel_rfl) (by kernel_rfl) (by kernel_rfl) rfl rfl rfl (fun M2 N2 w5 hle2 S5 => yield_cqF rfl rfl rfl rfl rfl cf154 S5 (Turned1_q 0 x k (SH.boxMs (i := 2) S5 rfl) (SH.boxMs (i := 1) S5 rfl) (by omega) (by omega) S5.lend)) ?_
 refine wa_takeP (i := 2) (d := 9) 9 rfl (by kernel_rfl) (by kernel_rfl) (by kernel_rfl) rfl rfl rfl (fun w6 => run_move rfl rfl) ?_
 refine wa_take (i := 3) (d := 10) 8 rfl (by kernel_rfl) (by kernel_rfl) (by kernel_rfl) rfl rfl rfl (fun M4 N4 w7 hle4 S7 => yield_cqF rfl rfl rfl rfl rfl cf154 S7 (Turned1_q 1 x k (SH.boxMs (i := 2) S7 rfl) (SH.boxMs (i := 1) S7 rfl) (by omega) (by omega) S7.lend)) ?_
 refine wa_takeP (i := 4) (d := 11) 7 rfl (by kernel_rfl) (by kernel_rfl) (by kernel_rfl) rfl rfl rfl (fun w8 => run_move rfl rfl) ?_
 refine wa_take (i := 5) (d := 12) 6 rfl (by kernel_rfl) (by kernel_rfl) (by kernel_rfl) rfl rfl rfl (fun M6 N6 w9 hle6 S9 => yield_cqF rfl rfl rfl rfl rfl cf154 S9 (Turned1_q 2 x k (SH.boxMs (i := 2) S9 rfl) (SH.boxMs (i := 1) S9 rfl) (by omega) (by omega) S9.lend)) ?_
 refine wa_takeP (i := 6) (d := 13) 5 rfl (by kernel_rfl) (by kernel_rfl) (by kernel_rfl) rfl rfl rfl (fun w10 => run_move rfl rfl) ?_
 refine wa_take (i := 7) (d := 14) 4 rfl (by kernel_rfl) (by kernel_rfl) (by kernel_rfl) rfl rfl rfl (fun M8 N8 w11 hle8 S11 => yield_cqF rfl rfl rfl rfl rfl cf154 S11 (Turned1_q 3 x k (SH.boxMs (i := 2) S11 rfl) (SH.boxMs (i := 1) S11 rfl) (by omega) (by omega) S11.lend)) ?_
 refine wa_takeP (i := 8) (d := 15) 3 rfl (by kernel_rfl) (by kernel_rfl) (by kernel_rfl) rfl rfl rfl (fun w12 => run_fieldAddr rfl rfl Try.underlying108 rfl (ce4) (nf4)) ?_
 refine wa_take (i := 9) (d := 16) 2 rfl (by kernel_rfl) (by kernel_rfl) (by kernel_rfl) rfl rfl rfl (fun M10 N10 w13 hle10 S13 => .inl (run_load1 rfl rfl Try.underlying4 rfl (S13.suf.boxc (i := 2) rfl rfl))) ?_
 refine wa_take (i := 10) (d := 17) 1 rfl (by kernel_rfl) (by kernel_rfl) (by kernel_rfl) rfl rfl rfl (fun M11 N11 w14 hle11 S14 => .inl (run_build (l := [_, _, _, _, _]) rfl rfl st108 rfl rfl)) ?_
 refine wa_only (i := 11) 0 rfl (by kernel_rfl) rfl rfl (fun w16 S16 => ?_)
 refine (wo_storeB (i := 0) (us := [_, _, _, _, _]) (l' := [_, _, _, _, _]) (H' := [_, _, _]) rfl rfl S16 rfl rfl rfl rfl sz108 rfl rfl rfl rfl ?_)
 intro w17 S17; clear S16
 refine LeftW.turn (by kernel_rfl) S17 ?_; clear S17
 change WA _ _ _ _ _ _ _ _ _ _ _ _ [_, _, _]
 refine wa_end (by kernel_rfl) (fun w18 S18 => ?_)
 refine nm_sub [(4, _)] ⟨rfl, trivial⟩ ?_
 refine nm_thn ?_
 refine ws_ret hC [_] rfl rfl ⟨⟨_, rfl, loadVarN (us := [_, _, _, _, _]) Try.underlying108 rfl sz108 (S18.boxcs (i := 0) rfl ⟨rfl, rfl, rfl, rfl, rfl, trivial⟩)⟩, trivial⟩ ?_
 exact ⟨_, rfl, (S18.pick [] [] (by decide) trivial), rfl⟩
noncomputable def changed_n0 : Code := Try.f109.body.getD .skip
noncomputable def changed_n1 : Code := cL changed_n0
noncomputable def changed_n2 : Code := cR changed_n0
noncomputable def changed_n3 : Code := cL changed_n2
noncomputable def changed_n4 : Code := cR changed_n2
noncomputable def changed_n5 : Code := cL changed_n4
noncomputable def changed_n6 : Code := cR changed_n4
noncomputable def changed_n7 : Code := cL changed_n6
noncomputable def changed_n8 : Code := cR changed_n6
set_option maxRecDepth 10000 in
theorem changed_q {w : World} {M : Hp} {X : Fr} (x : Cr) (S : SH w M X []) : Cq Try.prog 109 [.agg [.int .i64 x.a, .int .i64 x.b, .int .i64 x.c, .int .i64 x.d, .bool x.plus].toArray] w M X (fun u => u = .agg [.int .i64 (chg x).a, .int .i64 (chg x).b, .int .i64 (chg x).c, .int .i64 (chg x).d, .bool (chg x).plus].toArray) := by
 unfold Cq
 refine calls_in (b := changed_n0) Try.func109 rfl Try.ntmps109 rfl (fun C hC => ?_)
 refine ws_sub [(0, _)] ⟨rfl, trivial⟩ ?_
 refine ws_seqN changed_n1 changed_n2 rfl rfl rfl ?_
 refine ws_region rfl ?_
 refine wlo 0 1 rfl rfl rfl (wo_box (l := [_, _, _, _, _]) rfl rfl rfl rfl rfl S ?_)
 intro gb1 w1 S1; clear S
 refine wlo 1 2 rfl rfl rfl (wo_alloc (l := [_, _, _, _, _]) rfl rfl rfl zr108 rfl S1 ?_)
 intro gb2 w2 S2; clear S1
 refine wl_end rfl ?_
 refine nm_sub [(1, _), (2, _)] ⟨rfl, rfl, trivial⟩ ?_
 refine nm_thn ?_
 refine ws_seqN changed_n3 changed_n4 rfl rfl rfl ?_
 refine ws_draw rfl (by kernel_rfl) S2 6 rfl ?_
 clear S2
 refine wa_take (i := 0) (d := 4) 5 rfl (by kernel_rfl) (by kernel_rfl) (by kernel_rfl) rfl rfl rfl (fun M1 N1 w3 hle1 S3 => .inl (run_loadN (us := [_, _, _, _, _]) rfl rfl Try.underlying108 rfl sz108 (S3.suf.boxcs (i := 1) rfl ⟨rfl, rfl, rfl, rfl, rfl, trivial⟩))) ?_
 refine wa_take (i := 1) (d := 5) 4 rfl (by kernel_rfl) (by kernel_rfl) (by kernel_rfl) rfl rfl rfl (fun M2 N2 w4 hle2 S4 => .inl (run_loadN (us := [_, _, _, _, _]) rfl rfl Try.underlying108 rfl sz108 (S4.suf.boxcs (i := 1) rfl ⟨rfl, rfl, rfl, rfl, rfl, trivial⟩))) ?_
 refine wa_take (i := 2) (d := 6) 3 rfl (by kernel_rfl) (by kernel_rfl) (by kernel_rfl) rfl rfl rfl (fun M3 N3 w5 hle3 S5 => yield_cq rfl rfl rfl rfl rfl cf140 S5 (OverIn_q x  S5.lend)) ?_
 refine wa_take (i := 3) (d := 7) 2 rfl (by kernel_rfl) (by kernel_rfl) (by kernel_rfl) rfl rfl rfl (fun M4 N4 w6 hle4 S6 => yield_cq rfl rfl rfl rfl rfl cf139 S6 (Turned_q x (overIn x) (by unfold overIn; split <;> omega) S6.lend)) ?_
 refine wa_only (i := 4) 1 rfl (by kernel_rfl) rfl rfl (fun w8 S8 => ?_)
 refine (wo_alloc (l := [_, _, _, _, _]) rfl rfl rfl zr108 rfl S8 ?_)
 intro gb3 w9 S9; clear S8
 refine LeftW.grow [_] (Hp.le_refl _) S9 ?_; clear S9
 change WA _ _ _ _ _ _ _ _ _ _ _ _ [_, _, _]
 refine wa_only (i := 5) 0 rfl (by kernel_rfl) rfl rfl (fun w11 S11 => ?_)
 refine (wo_storeB (i := 0) (us := [_, _, _, _, _]) (l' := [_, _, _, _, _]) (H' := [_, _, _]) rfl rfl S11 rfl rfl rfl rfl sz108 rfl rfl rfl rfl ?_)
 intro w12 S12; clear S11
 refine LeftW.grow [_] (Hp.le_refl _) S12 ?_; clear S12
 change WA _ _ _ _ _ _ _ _ _ _ _ _ [_, _, _]
 refine wa_end (by kernel_rfl) (fun w13 S13 => ?_)
 refine nm_sub [(1, _), (2, _), (3, _)] ⟨rfl, rfl, rfl, trivial⟩ ?_
 refine nm_thn ?_
 refine ws_seqN changed_n5 changed_n6 rfl rfl rfl ?_
 refine ws_region rfl ?_
 refine wlo 0 1 rfl rfl rfl (wo_run rfl rfl (run_fieldAddr rfl rfl Try.underlying108 rfl (ce4) (nf4)) ?_)
 refine wlo 1 2 rfl rfl rfl (wo_run rfl rfl (run_load1 rfl rfl Try.underlying4 rfl (S13.boxc (i := 2) rfl rfl)) ?_)
 refine wlo 2 3 rfl rfl rfl (wo_run rfl rfl (run_not rfl rfl) ?_)
 refine wlo 3 4 rfl rfl rfl (wo_run rfl rfl (run_fieldAddr rfl rfl Try.underlying108 rfl (ce4) (nf4)) ?_)
 refine wlo 4 5 rfl rfl rfl (wo_storeB (i := 0) (us := [_]) (l' := [_, _, _, _, _]) (H' := [_, _, _]) rfl rfl S13 rfl rfl rfl rfl sz4 rfl rfl rfl rfl ?_)
 intro w14 S14; clear S13
 refine wl_end rfl ?_
 refine nm_sub [(2, _), (3, _)] ⟨rfl, rfl, trivial⟩ ?_
 refine nm_thn ?_
 refine ws_seqN changed_n7 changed_n8 rfl rfl rfl ?_
 refine ws_region rfl ?_
 refine wlo 0 1 rfl rfl rfl (wo_run rfl rfl (run_loadN (us := [_, _, _, _, _]) rfl rfl Try.underlying108 rfl sz108 (S14.boxcs (i := 0) rfl ⟨rfl, rfl, rfl, rfl, rfl, trivial⟩)) ?_)
 refine wlo 1 2 rfl rfl rfl (wo_storeB (i := 1) (us := [_, _, _, _, _]) (l' := [_, _, _, _, _]) (H' := [_, _, _]) rfl rfl S14 rfl rfl rfl rfl sz108 rfl rfl rfl rfl ?_)
 intro w15 S15; clear S14
 refine wl_end rfl ?_
 refine nm_sub [(2, _)] ⟨rfl, trivial⟩ ?_
 refine nm_thn ?_
 refine ws_ret hC [_] rfl rfl ⟨⟨_, rfl, loadVarN (us := [_, _, _, _, _]) Try.underlying108 rfl sz108 (S15.boxcs (i := 1) rfl ⟨rfl, rfl, rfl, rfl, rfl, trivial⟩)⟩, trivial⟩ ?_
 exact ⟨_, rfl, (S15.pick [] [] (by decide) trivial), (by unfold chg overIn; cases x.plus <;> rfl)⟩
noncomputable def CloneC_n0 : Code := Try.f108.body.getD .skip
noncomputable def CloneC_n1 : Code := cL CloneC_n0
noncomputable def CloneC_n2 : Code := cR CloneC_n0
noncomputable def CloneC_n3 : Code := cL CloneC_n2
noncomputable def CloneC_n4 : Code := cR CloneC_n2
noncomputable def CloneC_n5 : Code := cL CloneC_n3
noncomputable def CloneC_n6 : Code := cR CloneC_n3
noncomputable def CloneC_n7 : Code := cL CloneC_n6
noncomputable def CloneC_n8 : Code := cR CloneC_n6
noncomputable def CloneC_n9 : Code := cL CloneC_n4
noncomputable def CloneC_n10 : Code := cR CloneC_n4
set_option maxRecDepth 10000 in
theorem CloneC_o {w : World} {M : Hp} {X : Fr} (s : List Cr) {sA : Option Addr} {sc : Nat} (hs : RdA cdCr (M.un X.h) sA sc s) (hne : s ≠ []) (S : SH w M X []) : Co Try.prog 108 [.slice sA s.length sc] w M X (fun u N => N = [Rs.row cdCr u s]) := by
 unfold Co
 have rmhs : s.length * 40 ≤ 140737488355328 := hs.room
 refine calls_in (b := CloneC_n0) Try.func108 rfl Try.ntmps108 rfl (fun C hC => ?_)
 refine ws_sub [(0, _)] ⟨rfl, trivial⟩ ?_
 refine ws_seqN CloneC_n1 CloneC_n2 rfl rfl rfl ?_
 refine ws_region rfl ?_
 refine wla 0 1 rfl rfl rfl rfl rfl rfl rfl ?_
 refine wl_end rfl ?_
 refine nm_sub [(0, _)] ⟨rfl, trivial⟩ ?_
 refine nm_thn ?_
 refine ws_seqN CloneC_n3 CloneC_n4 rfl rfl rfl ?_
 refine ws_seqN CloneC_n5 CloneC_n6 rfl rfl rfl ?_
 refine ws_region rfl ?_
 refine wlm 0 1 rfl rfl rfl rfl rfl rfl rfl ?_
 refine wlo 1 2 rfl rfl rfl (wo_run rfl rfl (run_eqlNil rfl rfl rfl Try.underlying49) ?_)
 refine wl_end rfl ?_
 refine nm_sub [(0, _), (4, _)] ⟨rfl, rfl, trivial⟩ ?_
 refine nm_thn ?_
 refine ws_condN CloneC_n7 CloneC_n8 rfl rfl rfl rfl (fun hb4 => ?_) (fun hb4 => ?_)
 ·exfalso; exact hne (nilC hs hb4)
 ·refine ws_skip rfl ?_
  refine nm_sub [(0, _)] ⟨rfl, trivial⟩ ?_
  refine nm_thn ?_
  refine ws_seqN CloneC_n9 CloneC_n10 rfl rfl rfl ?_
  refine ws_region rfl ?_
  refine wlo 0 1 rfl rfl rfl (wo_buildSlice0 (C := cdCr) rfl rfl rfl rfl sl49 S ?_)
  intro vr1 w1 S1; clear S
  refine wlm 1 2 rfl rfl rfl rfl rfl rfl rfl ?_
  refine wlo 2 3 rfl rfl rfl (wo_appendM (C := cdCr) (i := 0) rfl rfl rfl rfl rfl rfl rfl rfl sl49 S1 rfl hs S1.um (by have h : _ * 40 ≤ _ := hs.room; show (0 + _) * 40 ≤ _; first | omega | (simp only [lens]; omega)) ?_)
  intro vr2 w2 S2; clear S1
  change SH _ _ _ [Rs.row cdCr vr2 s] at S2
  refine wla 3 4 rfl rfl rfl rfl rfl rfl rfl ?_
  refine wl_end rfl ?_
  refine nm_sub [(2, _)] ⟨rfl, trivial⟩ ?_
  refine nm_thn ?_
  refine ws_ret hC [_] rfl rfl ⟨rfl, trivial⟩ ?_
  exact ⟨_, rfl, _, S2.pick [0] [_] (by decide) ⟨rfl, trivial⟩, rfl⟩
noncomputable def DiagramOfO_n0 : Code := Try.f33.body.getD .skip
noncomputable def DiagramOfO_n1 : Code := cL DiagramOfO_n0
noncomputable def DiagramOfO_n2 : Code := cR DiagramOfO_n0
noncomputable def DiagramOfO_n3 : Code := cL DiagramOfO_n2
noncomputable def DiagramOfO_n4 : Code := cR DiagramOfO_n2
noncomputable def DiagramOfO_n5 : Code := cL DiagramOfO_n4
noncomputable def DiagramOfO_n6 : Code := cR DiagramOfO_n4
set_option maxRecDepth 10000 in
theorem DiagramOf_o {w : World} {M : Hp} {X : Fr} (d : Dg) {dcrsA : Option Addr} {dcrsc : Nat} (hdcrs : RdA cdCr (M.un X.h) dcrsA dcrsc d.crs) (S : SH w M X []) : Co Try.prog 33 [.agg [.slice dcrsA d.crs.length dcrsc, .int .i64 d.loops].toArray] w M X (fun u N => ∃ v, u = .agg [v, .int .i64 d.loops].toArray ∧ N = [Rs.row cdCr v d.crs]) := by
 unfold Co
 have rmhdcrs : d.crs.length * 40 ≤ 140737488355328 := hdcrs.room
 have hroom : d.crs.length * 40 ≤ 140737488355328 := hdcrs.room
 refine calls_in (b := DiagramOfO_n0) Try.func33 rfl Try.ntmps33 rfl (fun C hC => ?_)
 refine ws_sub [(0, _)] ⟨rfl, trivial⟩ ?_
 refine ws_seqN DiagramOfO_n1 DiagramOfO_n2 rfl rfl rfl ?_
 refine ws_region rfl ?_
 refine wlo 0 1 rfl rfl rfl (wo_box (l := [_, _]) rfl rfl rfl rfl rfl S ?_)
 intro gb1 w1 S1; clear S
 refine wlo 1 2 rfl rfl rfl (wo_alloc (l := [_, _]) rfl rfl rfl zr51 rfl S1 ?_)
 intro gb2 w2 S2; clear S1
 refine wl_end rfl ?_
 refine nm_sub [(1, _), (2, _)] ⟨rfl, rfl, trivial⟩ ?_
 refine nm_thn ?_
 refine ws_seqN DiagramOfO_n3 DiagramOfO_n4 rfl rfl rfl ?_
 refine ws_region rfl ?_
 refine wlo 0 1 rfl rfl rfl (wo_run rfl rfl (run_fieldAddr rfl rfl Try.underlying51 rfl (ce49) (nf49)) ?_)
 refine wlo 1 2 rfl rfl rfl (wo_run rfl rfl (run_load1 rfl rfl Try.underlying49 rfl (S2.boxc (i := 1) rfl rfl)) ?_)
 have S3 := S2.nilrow cdCr; clear S2
 refine wlo 2 3 rfl rfl rfl (wo_appendM (C := cdCr) (i := 0) rfl rfl rfl rfl rfl rfl rfl rfl sl49 S3 rfl hdcrs S3.um (by have h : _ * 40 ≤ _ := hdcrs.room; show (0 + _) * 40 ≤ _; first | omega | (simp only [lens]; omega)) ?_)
 intro vr2 w3 S4; clear S3
 change SH _ _ _ [Rs.row cdCr vr2 d.crs, _, _] at S4
 refine wlo 3 4 rfl rfl rfl (wo_run rfl rfl (run_fieldAddr rfl rfl Try.underlying51 rfl (ce49) (nf49)) ?_)
 refine wlo 4 5 rfl rfl rfl (wo_storeB (i := 2) (us := [_]) (l' := [_, _]) (H' := [_, _, _]) rfl rfl S4 rfl rfl rfl (S4.cells1 (i := 0) rfl) sz49 rfl (ones_cons (S4.one (i := 0) rfl) rfl) rfl rfl ?_)
 intro w4 S5; clear S4
 refine wl_end rfl ?_
 refine nm_sub [(1, _), (2, _)] ⟨rfl, rfl, trivial⟩ ?_
 refine nm_thn ?_
 refine ws_seqN DiagramOfO_n5 DiagramOfO_n6 rfl rfl rfl ?_
 refine ws_region rfl ?_
 refine wlo 0 1 rfl rfl rfl (wo_run rfl rfl (run_loadN (us := [_, _]) rfl rfl Try.underlying51 rfl sz51 (S5.boxcs (i := 2) rfl ⟨rfl, rfl, trivial⟩)) ?_)
 refine wlo 1 2 rfl rfl rfl (wo_storeB (i := 1) (us := [_, _]) (l' := [_, _]) (H' := [_, _, _]) rfl rfl S5 rfl rfl rfl rfl sz51 rfl (ones_cons (S5.one (i := 0) rfl) (ones_cons rfl rfl)) rfl rfl ?_)
 intro w5 S6; clear S5
 refine wl_end rfl ?_
 refine nm_sub [(2, _)] ⟨rfl, trivial⟩ ?_
 refine nm_thn ?_
 refine ws_ret hC [_] rfl rfl ⟨⟨_, rfl, loadVarN (us := [_, _]) Try.underlying51 rfl sz51 (S6.boxcs (i := 1) rfl ⟨rfl, rfl, trivial⟩)⟩, trivial⟩ ?_
 exact ⟨_, rfl, _, S6.pick [0] [_] (by decide) ⟨rfl, trivial⟩, _, rfl, rfl⟩
noncomputable def change_n0 : Code := Try.f78.body.getD .skip
noncomputable def change_n1 : Code := cL change_n0
noncomputable def change_n2 : Code := cR change_n0
noncomputable def change_n3 : Code := cL change_n2
noncomputable def change_n4 : Code := cR change_n2
noncomputable def change_n5 : Code := cL change_n4
noncomputable def change_n6 : Code := cR change_n4
noncomputable def change_n7 : Code := cL change_n6
noncomputable def change_n8 : Code := cR change_n6
set_option maxRecDepth 10000 in
theorem change_t {w : World} {M : Hp} {X : Fr} (d : Dg) {gsh : Nat} {cA iA oA : Option Addr} {cc ic oc : Nat} (k : Nat) (hsb : BxM (M.un X.h) gsh 111 [.slice cA d.crs.length cc, .int .i64 d.loops, .slice iA (tabL d false (4 * d.crs.length)).length ic, .slice oA (tabL d true (4 * d.crs.length)).length oc]) (hsc : RdA cdCr (M.un X.h) cA cc d.crs) (hsi : RdA cdPl (M.un X.h) iA ic (tabL d false (4 * d.crs.length))) (hso : RdA cdPl (M.un X.h) oA oc (tabL d true (4 * d.crs.length))) (hn : d.crs.length ≤ 16) (hk : k < d.crs.length) (S : SH w M X []) : Ct Try.prog 78 [.pointer (some ⟨gsh, 0, none⟩), .int .i64 (k : Int)] w M X (fun u N => ∃ A c, u = .agg [.slice A (chD d k).crs.length c, .int .i64 (chD d k).loops].toArray ∧ RdA cdCr N A c (chD d k).crs) := by
 unfold Ct
 have hne : d.crs ≠ [] := fun h => by rw [h] at hk; cases hk
 refine calls_in (b := change_n0) Try.func78 rfl Try.ntmps78 rfl (fun C hC => ?_)
 refine ws_sub [(0, _), (1, _)] ⟨rfl, rfl, trivial⟩ ?_
 refine ws_seqN change_n1 change_n2 rfl rfl rfl ?_
 refine ws_region rfl ?_
 refine wlo 0 1 rfl rfl rfl (wo_alloc (l := [_, _]) rfl rfl rfl zr51 rfl S ?_)
 intro gb1 w1 S1; clear S
 refine wl_end rfl ?_
 refine nm_thn ?_
 refine ws_seqN change_n3 change_n4 rfl rfl rfl ?_
 refine ws_draw rfl (by kernel_rfl) S1 14 rfl ?_
 clear S1
 refine wa_takeP (i := 0) (d := 6) 13 rfl (by kernel_rfl) (by kernel_rfl) (by kernel_rfl) rfl rfl rfl (fun w2 => run_move rfl rfl) ?_
 refine wa_takeP (i := 1) (d := 7) 12 rfl (by kernel_rfl) (by kernel_rfl) (by kernel_rfl) rfl rfl rfl (fun w3 => run_nilCheck rfl rfl) ?_
 refine wa_takeP (i := 2) (d := 8) 11 rfl (by kernel_rfl) (by kernel_rfl) (by kernel_rfl) rfl rfl rfl (fun w4 => run_fieldAddr rfl rfl Try.underlying111 rfl (ce51) (nf51)) ?_
 refine wa_takeP (i := 3) (d := 9) 10 rfl (by kernel_rfl) (by kernel_rfl) (by kernel_rfl) rfl rfl rfl (fun w5 => run_fieldAddr rfl rfl Try.underlying51 rfl (ce49) (nf49)) ?_
 refine wa_take (i := 4) (d := 10) 9 rfl (by kernel_rfl) (by kernel_rfl) (by kernel_rfl) rfl rfl rfl (fun M5 N5 w6 hle5 S6 => .inl (run_load1 rfl rfl Try.underlying49 rfl ((hsb.mono (Hp.un_mono hle5 S6.mx)).cell S6.um rfl))) ?_
 refine wa_takeP (i := 6) (d := 12) 8 rfl (by kernel_rfl) (by kernel_rfl) (by kernel_rfl) rfl rfl rfl (fun w8 => run_move rfl rfl) ?_
 refine wa_takeP (i := 7) (d := 13) 7 rfl (by kernel_rfl) (by kernel_rfl) (by kernel_rfl) rfl rfl rfl (fun w10 => run_nilCheck rfl rfl) ?_
 refine wa_takeP (i := 8) (d := 14) 6 rfl (by kernel_rfl) (by kernel_rfl) (by kernel_rfl) rfl rfl rfl (fun w12 => run_fieldAddr rfl rfl Try.underlying111 rfl (ce51) (nf51)) ?_
 refine wa_takeP (i := 9) (d := 15) 5 rfl (by kernel_rfl) (by kernel_rfl) (by kernel_rfl) rfl rfl rfl (fun w14 => run_fieldAddr rfl rfl Try.underlying51 rfl (ce3) (nf3)) ?_
 refine wa_take (i := 10) (d := 16) 4 rfl (by kernel_rfl) (by kernel_rfl) (by kernel_rfl) rfl rfl rfl (fun M15 N15 w16 hle15 S16 => .inl (run_load1 rfl rfl Try.underlying3 rfl ((hsb.mono (Hp.un_mono hle15 S16.mx)).cell S16.um rfl))) ?_
 refine wa_two (i := 5) (j := 12) 3 rfl rfl (by kernel_rfl) rfl rfl rfl rfl (fun w19 S19 => ?_) (fun w19 S19 => ?_)
 ·refine (wo_co rfl rfl rfl rfl rfl rfl rfl cf108 S19 (CloneC_o d.crs (hsc.mono S19.un_XH) (hne) S19.lend) ?_)
  intro vw20 w20 Nw20 S20 hRw20; clear S19
  obtain rfl := hRw20
  change SH _ _ _ [_, _] at S20
  refine LeftW.grow [_] (Hp.le_refl _) S20 ?_; clear S20
  change WA _ _ _ _ _ _ _ _ _ _ _ _ [_, _]
  refine wa_base ?_
  refine wa_take (i := 11) (d := 17) 2 rfl (by kernel_rfl) (by kernel_rfl) (by kernel_rfl) rfl rfl rfl (fun M18 N18 w21 hle18 S21 => .inl (run_build (l := [vw20, .int .i64 d.loops]) rfl rfl st51 rfl (by obtain ⟨_, _, e9, _⟩ := S21.suf.sl (i := 0) rfl; subst e9; rfl))) ?_
  refine wa_only (i := 12) 1 rfl (by kernel_rfl) rfl rfl (fun w23 S23 => ?_)
  refine (wo_alloc (l := [_, _]) rfl rfl rfl zr51 rfl S23 ?_)
  intro gb2 w24 S24; clear S23
  refine LeftW.grow [_] (Hp.le_refl _) S24 ?_; clear S24
  change WA _ _ _ _ _ _ _ _ _ _ _ _ [_, _, _]
  refine wa_only (i := 13) 0 rfl (by kernel_rfl) rfl rfl (fun w26 S26 => ?_)
  refine (wo_storeB (i := 0) (us := [_, _]) (l' := [_, _]) (H' := [_, _, _]) rfl rfl S26 rfl rfl rfl rfl sz51 rfl (ones_cons (S26.one (i := 1) rfl) (ones_cons rfl rfl)) rfl rfl ?_)
  intro w27 S27; clear S26
  refine LeftW.grow [_] (Hp.le_refl _) S27 ?_; clear S27
  change WA _ _ _ _ _ _ _ _ _ _ _ _ [_, _, _]
  refine wa_end (by kernel_rfl) (fun w28 S28 => ?_)
  refine nm_sub [(1, _), (4, _), (5, _)] ⟨rfl, rfl, rfl, trivial⟩ ?_
  refine nm_thn ?_
  refine ws_seqN change_n5 change_n6 rfl rfl rfl ?_
  refine ws_draw rfl (by kernel_rfl) S28 11 rfl ?_
  clear S28
  refine wa_takeP (i := 0) (d := 18) 10 rfl (by kernel_rfl) (by kernel_rfl) (by kernel_rfl) rfl rfl rfl (fun w29 => run_fieldAddr rfl rfl Try.underlying51 rfl (ce49) (nf49)) ?_
  refine wa_take (i := 1) (d := 19) 9 rfl (by kernel_rfl) (by kernel_rfl) (by kernel_rfl) rfl rfl rfl (fun M22 N22 w30 hle22 S30 => .inl (run_load1 rfl rfl Try.underlying49 rfl (S30.suf.boxc (i := 0) rfl rfl))) ?_
  refine wa_takeP (i := 2) (d := 20) 8 rfl (by kernel_rfl) (by kernel_rfl) (by kernel_rfl) rfl rfl rfl (fun w31 => run_move rfl rfl) ?_
  refine wa_takeP (i := 3) (d := 21) 7 rfl (by kernel_rfl) (by kernel_rfl) (by kernel_rfl) rfl rfl rfl (fun w32 => run_fieldAddr rfl rfl Try.underlying51 rfl (ce49) (nf49)) ?_
  refine wa_take (i := 4) (d := 22) 6 rfl (by kernel_rfl) (by kernel_rfl) (by kernel_rfl) rfl rfl rfl (fun M25 N25 w33 hle25 S33 => .inl (run_load1 rfl rfl Try.underlying49 rfl (S33.suf.boxc (i := 0) rfl rfl))) ?_
  refine wa_takeP (i := 5) (d := 23) 5 rfl (by kernel_rfl) (by kernel_rfl) (by kernel_rfl) rfl rfl rfl (fun w34 => run_move rfl rfl) ?_
  refine wa_take (i := 6) (d := 24) 4 rfl (by kernel_rfl) (by kernel_rfl) (by kernel_rfl) rfl rfl rfl (fun M27 N27 w35 hle27 S35 => .inl (run_indexR (C := cdCr) (i := 1) k rfl rfl rfl sl49 S35.suf rfl (by first | rfl | omega) (by first | omega | (simp only [lens]; omega)))) ?_
  refine wa_take (i := 7) (d := 25) 3 rfl (by kernel_rfl) (by kernel_rfl) (by kernel_rfl) rfl rfl rfl (fun M28 N28 w36 hle28 S36 => .inl (run_loadN (us := [_, _, _, _, _]) rfl rfl Try.underlying108 rfl sz108 (S36.suf.rowcs (i := 1) (e := k) (j := 0) rfl (by first | omega | (simp only [lens]; omega)) ⟨rfl, rfl, rfl, rfl, rfl, trivial⟩))) ?_
  refine wa_take (i := 8) (d := 26) 2 rfl (by kernel_rfl) (by kernel_rfl) (by kernel_rfl) rfl rfl rfl (fun M29 N29 w37 hle29 S37 => yield_cq rfl rfl rfl rfl rfl cf109 S37 (changed_q (ga d.crs k)  S37.lend)) ?_
  refine wa_take (i := 9) (d := 27) 1 rfl (by kernel_rfl) (by kernel_rfl) (by kernel_rfl) rfl rfl rfl (fun M30 N30 w38 hle30 S38 => .inl (run_indexR (C := cdCr) (i := 1) k rfl rfl rfl sl49 S38.suf rfl (by first | rfl | omega) (by first | omega | (simp only [lens]; omega)))) ?_
  refine wa_only (i := 10) 0 rfl (by kernel_rfl) rfl rfl (fun w40 S40 => ?_)
  refine (wo_storeR (C := cdCr) (i := 1) (e := k) (j := 0) (us := [_, _, _, _, _]) (H' := [_, _, _]) (⟨(chg (ga d.crs k)).a, (chg (ga d.crs k)).b, (chg (ga d.crs k)).c, (chg (ga d.crs k)).d, (chg (ga d.crs k)).plus⟩ : Cr) rfl rfl S40 rfl (by first | omega | (simp only [lens]; omega)) rfl rfl rfl sz108 rfl rfl rfl rfl ?_)
  intro w41 S41; clear S40
  refine LeftW.turn (by kernel_rfl) S41 ?_; clear S41
  change WA _ _ _ _ _ _ _ _ _ _ _ _ [_, _, _]
  refine wa_end (by kernel_rfl) (fun w42 S42 => ?_)
  refine nm_sub [(4, _), (5, _)] ⟨rfl, rfl, trivial⟩ ?_
  refine nm_thn ?_
  refine ws_seqN change_n7 change_n8 rfl rfl rfl ?_
  refine ws_region rfl ?_
  refine wlo 0 1 rfl rfl rfl (wo_run rfl rfl (run_loadN (us := [_, _]) rfl rfl Try.underlying51 rfl sz51 (S42.boxcs (i := 0) rfl ⟨rfl, rfl, trivial⟩)) ?_)
  refine wlo 1 2 rfl rfl rfl (wo_storeB (i := 2) (us := [_, _]) (l' := [_, _]) (H' := [_, _, _]) rfl rfl S42 rfl rfl rfl rfl sz51 rfl (ones_cons (S42.one (i := 1) rfl) (ones_cons rfl rfl)) rfl rfl ?_)
  intro w43 S43; clear S42
  refine wl_end rfl ?_
  refine nm_sub [(4, _)] ⟨rfl, trivial⟩ ?_
  refine nm_thn ?_
  have hcl : (chD d k).crs.length = d.crs.length := List.length_set ..
  obtain ⟨M32, hle32, S44, ⟨A1, c1, e1, hr1⟩⟩ := S43.pubrow (i := 1) (H' := [_, _, _]) rfl rfl (by show _ * 40 ≤ _; first | omega | (simp only [lens]; omega))
  clear S43; subst e1
  replace hsb := hsb.mono (Hp.un_mono hle32 S44.mx)
  replace hsc := hsc.mono (Hp.un_mono hle32 S44.mx)
  replace hsi := hsi.mono (Hp.un_mono hle32 S44.mx)
  replace hso := hso.mono (Hp.un_mono hle32 S44.mx)
  refine ws_ret hC [_] rfl rfl ⟨⟨_, rfl, loadVarN (us := [_, _]) Try.underlying51 rfl sz51 (S44.boxcs (i := 2) rfl ⟨rfl, rfl, trivial⟩)⟩, trivial⟩ ?_
  refine ⟨_, rfl, _, hle32, (S44.pick [] [] (by decide) trivial), ?_⟩
  exact ⟨_, _, rfl, hr1⟩
 ·refine (wo_alloc (l := [_, _]) rfl rfl rfl zr51 rfl S19 ?_)
  intro gb3 w44 S45; clear S19
  refine LeftW.grow [_] (Hp.le_refl _) S45 ?_; clear S45
  change WA _ _ _ _ _ _ _ _ _ _ _ _ [_, _]
  refine wa_only (i := 5) 2 rfl (by kernel_rfl) rfl rfl (fun w46 S47 => ?_)
  refine (wo_co rfl rfl rfl rfl rfl rfl rfl cf108 S47 (CloneC_o d.crs (hsc.mono S47.un_XH) (hne) S47.lend) ?_)
  intro vw47 w47 Nw47 S48 hRw47; clear S47
  obtain rfl := hRw47
  change SH _ _ _ [_, _, _] at S48
  refine LeftW.grow [_, _] (Hp.le_refl _) S48 ?_; clear S48
  change WA _ _ _ _ _ _ _ _ _ _ _ _ [_, _, _]
  refine wa_base ?_
  refine wa_take (i := 11) (d := 17) 1 rfl (by kernel_rfl) (by kernel_rfl) (by kernel_rfl) rfl rfl rfl (fun M34 N33 w48 hle34 S49 => .inl (run_build (l := [vw47, .int .i64 d.loops]) rfl rfl st51 rfl (by obtain ⟨_, _, e9, _⟩ := S49.suf.sl (i := 0) rfl; subst e9; rfl))) ?_
  refine wa_only (i := 13) 0 rfl (by kernel_rfl) rfl rfl (fun w50 S51 => ?_)
  refine (wo_storeB (i := 1) (us := [_, _]) (l' := [_, _]) (H' := [_, _, _]) rfl rfl S51 rfl rfl rfl rfl sz51 rfl (ones_cons (S51.one (i := 0) rfl) (ones_cons rfl rfl)) rfl rfl ?_)
  intro w51 S52; clear S51
  refine LeftW.turn (by kernel_rfl) S52 ?_; clear S52
  change WA _ _ _ _ _ _ _ _ _ _ _ _ [_, _, _]
  refine wa_end (by kernel_rfl) (fun w52 S53 => ?_)
  refine nm_sub [(1, _), (4, _), (5, _)] ⟨rfl, rfl, rfl, trivial⟩ ?_
  refine nm_thn ?_
  refine ws_seqN change_n5 change_n6 rfl rfl rfl ?_
  refine ws_draw rfl (by kernel_rfl) S53 11 rfl ?_
  clear S53
  refine wa_takeP (i := 0) (d := 18) 10 rfl (by kernel_rfl) (by kernel_rfl) (by kernel_rfl) rfl rfl rfl (fun w53 => run_fieldAddr rfl rfl Try.underlying51 rfl (ce49) (nf49)) ?_
  refine wa_take (i := 1) (d := 19) 9 rfl (by kernel_rfl) (by kernel_rfl) (by kernel_rfl) rfl rfl rfl (fun M37 N36 w54 hle37 S55 => .inl (run_load1 rfl rfl Try.underlying49 rfl (S55.suf.boxc (i := 1) rfl rfl))) ?_
  refine wa_takeP (i := 2) (d := 20) 8 rfl (by kernel_rfl) (by kernel_rfl) (by kernel_rfl) rfl rfl rfl (fun w55 => run_move rfl rfl) ?_
  refine wa_takeP (i := 3) (d := 21) 7 rfl (by kernel_rfl) (by kernel_rfl) (by kernel_rfl) rfl rfl rfl (fun w56 => run_fieldAddr rfl rfl Try.underlying51 rfl (ce49) (nf49)) ?_
  refine wa_take (i := 4) (d := 22) 6 rfl (by kernel_rfl) (by kernel_rfl) (by kernel_rfl) rfl rfl rfl (fun M40 N39 w57 hle40 S58 => .inl (run_load1 rfl rfl Try.underlying49 rfl (S58.suf.boxc (i := 1) rfl rfl))) ?_
  refine wa_takeP (i := 5) (d := 23) 5 rfl (by kernel_rfl) (by kernel_rfl) (by kernel_rfl) rfl rfl rfl (fun w58 => run_move rfl rfl) ?_
  refine wa_take (i := 6) (d := 24) 4 rfl (by kernel_rfl) (by kernel_rfl) (by kernel_rfl) rfl rfl rfl (fun M42 N41 w59 hle42 S60 => .inl (run_indexR (C := cdCr) (i := 0) k rfl rfl rfl sl49 S60.suf rfl (by first | rfl | omega) (by first | omega | (simp only [lens]; omega)))) ?_
  refine wa_take (i := 7) (d := 25) 3 rfl (by kernel_rfl) (by kernel_rfl) (by kernel_rfl) rfl rfl rfl (fun M43 N42 w60 hle43 S61 => .inl (run_loadN (us := [_, _, _, _, _]) rfl rfl Try.underlying108 rfl sz108 (S61.suf.rowcs (i := 0) (e := k) (j := 0) rfl (by first | omega | (simp only [lens]; omega)) ⟨rfl, rfl, rfl, rfl, rfl, trivial⟩))) ?_
  refine wa_take (i := 8) (d := 26) 2 rfl (by kernel_rfl) (by kernel_rfl) (by kernel_rfl) rfl rfl rfl (fun M44 N43 w61 hle44 S62 => yield_cq rfl rfl rfl rfl rfl cf109 S62 (changed_q (ga d.crs k)  S62.lend)) ?_
  refine wa_take (i := 9) (d := 27) 1 rfl (by kernel_rfl) (by kernel_rfl) (by kernel_rfl) rfl rfl rfl (fun M45 N44 w62 hle45 S63 => .inl (run_indexR (C := cdCr) (i := 0) k rfl rfl rfl sl49 S63.suf rfl (by first | rfl | omega) (by first | omega | (simp only [lens]; omega)))) ?_
  refine wa_only (i := 10) 0 rfl (by kernel_rfl) rfl rfl (fun w64 S65 => ?_)
  refine (wo_storeR (C := cdCr) (i := 0) (e := k) (j := 0) (us := [_, _, _, _, _]) (H' := [_, _, _]) (⟨(chg (ga d.crs k)).a, (chg (ga d.crs k)).b, (chg (ga d.crs k)).c, (chg (ga d.crs k)).d, (chg (ga d.crs k)).plus⟩ : Cr) rfl rfl S65 rfl (by first | omega | (simp only [lens]; omega)) rfl rfl rfl sz108 rfl rfl rfl rfl ?_)
  intro w65 S66; clear S65
  refine LeftW.turn (by kernel_rfl) S66 ?_; clear S66
  change WA _ _ _ _ _ _ _ _ _ _ _ _ [_, _, _]
  refine wa_end (by kernel_rfl) (fun w66 S67 => ?_)
  refine nm_sub [(4, _), (5, _)] ⟨rfl, rfl, trivial⟩ ?_
  refine nm_thn ?_
  refine ws_seqN change_n7 change_n8 rfl rfl rfl ?_
  refine ws_region rfl ?_
  refine wlo 0 1 rfl rfl rfl (wo_run rfl rfl (run_loadN (us := [_, _]) rfl rfl Try.underlying51 rfl sz51 (S67.boxcs (i := 1) rfl ⟨rfl, rfl, trivial⟩)) ?_)
  refine wlo 1 2 rfl rfl rfl (wo_storeB (i := 2) (us := [_, _]) (l' := [_, _]) (H' := [_, _, _]) rfl rfl S67 rfl rfl rfl rfl sz51 rfl (ones_cons (S67.one (i := 0) rfl) (ones_cons rfl rfl)) rfl rfl ?_)
  intro w67 S68; clear S67
  refine wl_end rfl ?_
  refine nm_sub [(4, _)] ⟨rfl, trivial⟩ ?_
  refine nm_thn ?_
  have hcl : (chD d k).crs.length = d.crs.length := List.length_set ..
  obtain ⟨M47, hle47, S69, ⟨A2, c2, e2, hr2⟩⟩ := S68.pubrow (i := 0) (H' := [_, _, _]) rfl rfl (by show _ * 40 ≤ _; first | omega | (simp only [lens]; omega))
  clear S68; subst e2
  replace hsb := hsb.mono (Hp.un_mono hle47 S69.mx)
  replace hsc := hsc.mono (Hp.un_mono hle47 S69.mx)
  replace hsi := hsi.mono (Hp.un_mono hle47 S69.mx)
  replace hso := hso.mono (Hp.un_mono hle47 S69.mx)
  refine ws_ret hC [_] rfl rfl ⟨⟨_, rfl, loadVarN (us := [_, _]) Try.underlying51 rfl sz51 (S69.boxcs (i := 2) rfl ⟨rfl, rfl, trivial⟩)⟩, trivial⟩ ?_
  refine ⟨_, rfl, _, hle47, (S69.pick [] [] (by decide) trivial), ?_⟩
  exact ⟨_, _, rfl, hr2⟩
noncomputable def MirrorOf_n0 : Code := Try.f85.body.getD .skip
noncomputable def MirrorOf_n1 : Code := cL MirrorOf_n0
noncomputable def MirrorOf_n2 : Code := cR MirrorOf_n0
noncomputable def MirrorOf_n3 : Code := cL MirrorOf_n2
noncomputable def MirrorOf_n4 : Code := cR MirrorOf_n2
noncomputable def MirrorOf_n5 : Code := cL MirrorOf_n4
noncomputable def MirrorOf_n6 : Code := cR MirrorOf_n4
noncomputable def MirrorOf_n7 : Code := cL MirrorOf_n5
noncomputable def MirrorOf_n8 : Code := cR MirrorOf_n5
noncomputable def MirrorOf_n9 : Code := cL MirrorOf_n8
noncomputable def MirrorOf_n10 : Code := cL MirrorOf_n9
noncomputable def MirrorOf_n11 : Code := cL MirrorOf_n10
noncomputable def MirrorOf_n12 : Code := cR MirrorOf_n10
noncomputable def MirrorOf_n13 : Code := cL MirrorOf_n11
noncomputable def MirrorOf_n14 : Code := cR MirrorOf_n11
noncomputable def MirrorOf_n15 : Code := cL MirrorOf_n14
noncomputable def MirrorOf_n16 : Code := cR MirrorOf_n14
noncomputable def MirrorOf_n17 : Code := cL MirrorOf_n12
noncomputable def MirrorOf_n18 : Code := cR MirrorOf_n12
noncomputable def MirrorOf_n19 : Code := cL MirrorOf_n17
noncomputable def MirrorOf_n20 : Code := cL MirrorOf_n19
noncomputable def MirrorOf_n21 : Code := cR MirrorOf_n19
noncomputable def MirrorOf_n22 : Code := cL MirrorOf_n21
noncomputable def MirrorOf_n23 : Code := cR MirrorOf_n21
noncomputable def MirrorOf_n24 : Code := cL MirrorOf_n23
noncomputable def MirrorOf_n25 : Code := cR MirrorOf_n23
noncomputable def MirrorOf_n26 : Code := cL MirrorOf_n6
noncomputable def MirrorOf_n27 : Code := cR MirrorOf_n6
set_option maxRecDepth 10000 in
theorem MirrorOf_t {w : World} {M : Hp} {X : Fr} (d : Dg) {dcrsA : Option Addr} {dcrsc : Nat} (hdcrs : RdA cdCr (M.un X.h) dcrsA dcrsc d.crs) (S : SH w M X []) : Ct Try.prog 85 [.agg [.slice dcrsA d.crs.length dcrsc, .int .i64 d.loops].toArray] w M X (fun u N => ∃ A c, u = .agg [.slice A (d.crs.map chg).length c, .int .i64 d.loops].toArray ∧ RdA cdCr N A c (d.crs.map chg)) := by
 unfold Ct
 have rmhdcrs : d.crs.length * 40 ≤ 140737488355328 := hdcrs.room
 refine calls_in (b := MirrorOf_n0) Try.func85 rfl Try.ntmps85 rfl (fun C hC => ?_)
 refine ws_sub [(0, _)] ⟨rfl, trivial⟩ ?_
 refine ws_seqN MirrorOf_n1 MirrorOf_n2 rfl rfl rfl ?_
 refine ws_region rfl ?_
 refine wlo 0 1 rfl rfl rfl (wo_box (l := [_, _]) rfl rfl rfl rfl rfl S ?_)
 intro gb1 w1 S1; clear S
 refine wlo 1 2 rfl rfl rfl (wo_alloc (l := [_, _]) rfl rfl rfl zr51 rfl S1 ?_)
 intro gb2 w2 S2; clear S1
 refine wl_end rfl ?_
 refine nm_sub [(1, _), (2, _)] ⟨rfl, rfl, trivial⟩ ?_
 refine nm_thn ?_
 refine ws_seqN MirrorOf_n3 MirrorOf_n4 rfl rfl rfl ?_
 refine ws_region rfl ?_
 refine wlo 0 1 rfl rfl rfl (wo_run rfl rfl (run_fieldAddr rfl rfl Try.underlying51 rfl (ce3) (nf3)) ?_)
 refine wlo 1 2 rfl rfl rfl (wo_run rfl rfl (run_load1 rfl rfl Try.underlying3 rfl (S2.boxc (i := 1) rfl rfl)) ?_)
 refine wlo 2 3 rfl rfl rfl (wo_run rfl rfl (run_build (l := [_, _]) rfl rfl st51 rfl rfl) ?_)
 refine wlo 3 4 rfl rfl rfl (wo_alloc (l := [_, _]) rfl rfl rfl zr51 rfl S2 ?_)
 intro gb3 w3 S3; clear S2
 refine wlo 4 5 rfl rfl rfl (wo_storeB (i := 0) (us := [_, _]) (l' := [_, _]) (H' := [_, _, _]) rfl rfl S3 rfl rfl rfl rfl sz51 rfl rfl rfl rfl ?_)
 intro w4 S4; clear S3
 refine wl_end rfl ?_
 refine nm_sub [(1, _), (2, _), (3, _)] ⟨rfl, rfl, rfl, trivial⟩ ?_
 refine nm_thn ?_
 refine ws_seqN MirrorOf_n5 MirrorOf_n6 rfl rfl rfl ?_
 refine ws_seqN MirrorOf_n7 MirrorOf_n8 rfl rfl rfl ?_
 refine ws_region rfl ?_
 refine wla 0 1 rfl rfl rfl rfl rfl rfl rfl ?_
 refine wl_end rfl ?_
 refine nm_thn ?_
 refine ws_blockN MirrorOf_n9 0 rfl rfl rfl ?_
 have S5 := S4.nilrow cdCr; clear S4
 refine ws_loopE (fun mx_ ax_ wx_ => ∃ (i : Nat) (mc : List Cr) (vrm : Value), mx_ = d.crs.length - i ∧ Env 52 [(1, .pointer (some ⟨gb1, 0, none⟩)), (2, .pointer (some ⟨gb2, 0, none⟩)), (3, .pointer (some ⟨gb3, 0, none⟩)), (4, .int .i64 (i : Int))] ax_ ∧ SH wx_ M X [Rs.row cdCr vrm mc, Rs.box gb3 51 [vrm, .int .i64 d.loops], Rs.box gb2 51 [.slice none 0 0, .int .i64 0], Rs.box gb1 51 [.slice dcrsA d.crs.length dcrsc, .int .i64 d.loops]] ∧ i ≤ d.crs.length ∧ mc = (d.crs.take i).map chg) rfl ?_ ?_
 ·intro ax_ hax_
  refine ⟨_, ⟨0, _, _, rfl, hax_.sub ⟨rfl, rfl, rfl, rfl, trivial⟩, S5.pick [0, 1, 2, 3] [_, _, _, _] (by decide) ⟨rfl, rfl, rfl, rfl, trivial⟩, ?hq1f0, ?hq1f1⟩⟩
  case hq1f0 => omega
  case hq1f1 => rfl
 ·rintro m1 a1 w5 ⟨i, mc, vrm, rfl, he1, S6, hi, hmc⟩
  clear S5
  refine ws_in he1 (c := MirrorOf_n10) rfl ?_
  clear he1 a1
  have hml : mc.length = i := by rw [hmc, List.length_map, List.length_take]; omega
  refine ws_seqN MirrorOf_n11 MirrorOf_n12 rfl rfl rfl ?_
  refine ws_seqN MirrorOf_n13 MirrorOf_n14 rfl rfl rfl ?_
  refine ws_region rfl ?_
  refine wlm 0 1 rfl rfl rfl rfl rfl rfl rfl ?_
  refine wlo 1 2 rfl rfl rfl (wo_run rfl rfl (run_fieldAddr rfl rfl Try.underlying51 rfl (ce49) (nf49)) ?_)
  refine wlo 2 3 rfl rfl rfl (wo_run rfl rfl (run_load1 rfl rfl Try.underlying49 rfl (S6.boxc (i := 3) rfl rfl)) ?_)
  refine wlo 3 4 rfl rfl rfl (wo_run rfl rfl (run_len rfl rfl rfl rfl rfl rfl Try.underlying49) ?_)
  refine wlo 4 5 rfl rfl rfl (wo_run rfl rfl (run_lss rfl rfl rfl) ?_)
  refine wl_end rfl ?_
  refine nm_sub [(1, _), (2, _), (3, _), (4, _), (13, _)] ⟨rfl, rfl, rfl, rfl, rfl, trivial⟩ ?_
  refine nm_thn ?_
  refine ws_condN MirrorOf_n15 MirrorOf_n16 rfl rfl rfl rfl (fun hb13 => ?_) (fun hb13 => ?_)
  ·replace hb13 := of_decide_eq_true hb13
   refine ws_skip rfl ?_
   refine nm_sub [(1, _), (2, _), (3, _), (4, _)] ⟨rfl, rfl, rfl, rfl, trivial⟩ ?_
   refine nm_thn ?_
   refine ws_seqN MirrorOf_n17 MirrorOf_n18 rfl rfl rfl ?_
   refine ws_blockN MirrorOf_n19 1 rfl rfl rfl ?_
   refine ws_seqN MirrorOf_n20 MirrorOf_n21 rfl rfl rfl ?_
   refine ws_region rfl ?_
   refine wlo 0 1 rfl rfl rfl (wo_run rfl rfl (run_fieldAddr rfl rfl Try.underlying51 rfl (ce49) (nf49)) ?_)
   refine wlo 1 2 rfl rfl rfl (wo_run rfl rfl (run_load1 rfl rfl Try.underlying49 rfl (S6.boxc (i := 3) rfl rfl)) ?_)
   refine wlm 2 3 rfl rfl rfl rfl rfl rfl rfl ?_
   refine wlo 3 4 rfl rfl rfl (wo_run rfl rfl (run_indexM (C := cdCr) i rfl rfl rfl sl49 (by first | rfl | omega) hdcrs (by first | omega | (simp only [lens]; omega))) ?_)
   refine wlo 4 5 rfl rfl rfl (wo_run rfl rfl (run_loadN (us := [_, _, _, _, _]) rfl rfl Try.underlying108 rfl sz108 (hdcrs.cellsAt S6.um (e := i) (by first | omega | (simp only [lens]; omega)) (j := 0) ⟨rfl, rfl, rfl, rfl, rfl, trivial⟩)) ?_)
   refine wlo 5 6 rfl rfl rfl (wo_alloc (l := [_, _, _, _, _]) rfl rfl rfl zr108 rfl S6 ?_)
   intro gb4 w6 S7; clear S6
   refine wlo 6 7 rfl rfl rfl (wo_storeB (i := 0) (us := [_, _, _, _, _]) (l' := [_, _, _, _, _]) (H' := [_, _, _, _, _]) rfl rfl S7 rfl rfl rfl rfl sz108 rfl rfl rfl rfl ?_)
   intro w7 S8; clear S7
   refine wl_end rfl ?_
   refine nm_sub [(1, _), (2, _), (3, _), (4, _), (5, _)] ⟨rfl, rfl, rfl, rfl, rfl, trivial⟩ ?_
   refine nm_thn ?_
   refine ws_seqN MirrorOf_n22 MirrorOf_n23 rfl rfl rfl ?_
   refine ws_region rfl ?_
   refine wlo 0 1 rfl rfl rfl (wo_run rfl rfl (run_fieldAddr rfl rfl Try.underlying108 rfl (ce4) (nf4)) ?_)
   refine wlo 1 2 rfl rfl rfl (wo_run rfl rfl (run_load1 rfl rfl Try.underlying4 rfl (S8.boxc (i := 0) rfl rfl)) ?_)
   refine wl_end rfl ?_
   refine nm_sub [(1, _), (2, _), (3, _), (4, _), (5, _), (22, _)] ⟨rfl, rfl, rfl, rfl, rfl, rfl, trivial⟩ ?_
   refine nm_thn ?_
   refine ws_condN MirrorOf_n24 MirrorOf_n25 rfl rfl rfl rfl (fun hb22 => ?_) (fun hb22 => ?_)
   ·refine ws_region rfl ?_
    refine wlo 0 1 rfl rfl rfl (wo_run rfl rfl (run_fieldAddr rfl rfl Try.underlying51 rfl (ce49) (nf49)) ?_)
    refine wlo 1 2 rfl rfl rfl (wo_run rfl rfl (run_load1 rfl rfl Try.underlying49 rfl (S8.boxc (i := 2) rfl rfl)) ?_)
    refine wlo 2 3 rfl rfl rfl (wo_run rfl rfl (run_fieldAddr rfl rfl Try.underlying108 rfl (ce3) (nf3)) ?_)
    refine wlo 3 4 rfl rfl rfl (wo_run rfl rfl (run_load1 rfl rfl Try.underlying3 rfl (S8.boxc (i := 0) rfl rfl)) ?_)
    refine wlo 4 5 rfl rfl rfl (wo_run rfl rfl (run_fieldAddr rfl rfl Try.underlying108 rfl (ce3) (nf3)) ?_)
    refine wlo 5 6 rfl rfl rfl (wo_run rfl rfl (run_load1 rfl rfl Try.underlying3 rfl (S8.boxc (i := 0) rfl rfl)) ?_)
    refine wlo 6 7 rfl rfl rfl (wo_run rfl rfl (run_fieldAddr rfl rfl Try.underlying108 rfl (ce3) (nf3)) ?_)
    refine wlo 7 8 rfl rfl rfl (wo_run rfl rfl (run_load1 rfl rfl Try.underlying3 rfl (S8.boxc (i := 0) rfl rfl)) ?_)
    refine wlo 8 9 rfl rfl rfl (wo_run rfl rfl (run_fieldAddr rfl rfl Try.underlying108 rfl (ce3) (nf3)) ?_)
    refine wlo 9 10 rfl rfl rfl (wo_run rfl rfl (run_load1 rfl rfl Try.underlying3 rfl (S8.boxc (i := 0) rfl rfl)) ?_)
    refine wlo 10 11 rfl rfl rfl (wo_run rfl rfl (run_build (l := [_, _, _, _, _]) rfl rfl st108 rfl rfl) ?_)
    refine wlo 11 12 rfl rfl rfl (wo_buildSlice1 (C := cdCr) (l := [_, _, _, _, _]) rfl rfl rfl rfl sl49 rfl rfl rfl rfl S8 ?_)
    intro gb5 w8 S9; clear S8
    refine wlo 12 13 rfl rfl rfl (wo_append1 (C := cdCr) (i := 2) (q := 0) (⟨(ga d.crs i).d, (ga d.crs i).a, (ga d.crs i).b, (ga d.crs i).c, false⟩ : Cr) rfl rfl rfl rfl rfl rfl rfl rfl sl49 S9 rfl rfl rfl (by show (_ + 1) * 40 ≤ _; first | omega | (simp only [lens]; omega)) ?_)
    intro vrm1 w9 S10; clear S9
    have S11 := S10.pick [1, 2, 3, 4, 5] [_, _, _, _, _] (by decide) ⟨rfl, rfl, rfl, rfl, rfl, trivial⟩; clear S10
    refine wlo 13 14 rfl rfl rfl (wo_run rfl rfl (run_fieldAddr rfl rfl Try.underlying51 rfl (ce49) (nf49)) ?_)
    refine wlo 14 15 rfl rfl rfl (wo_storeB (i := 2) (us := [_]) (l' := [_, _]) (H' := [_, _, _, _, _]) rfl rfl S11 rfl rfl rfl (S11.cells1 (i := 1) rfl) sz49 rfl (ones_cons (S11.one (i := 1) rfl) rfl) rfl rfl ?_)
    intro w10 S12; clear S11
    refine wl_end rfl ?_
    refine nm_blk ?_
    refine nm_sub [(1, _), (2, _), (3, _), (4, _)] ⟨rfl, rfl, rfl, rfl, trivial⟩ ?_
    refine nm_thn ?_
    refine ws_region rfl ?_
    refine wlm 0 1 rfl rfl rfl rfl rfl rfl rfl ?_
    refine wlo 1 2 rfl rfl rfl (wo_run rfl rfl (run_add rfl rfl rfl (by first | omega | (simp only [lens]; omega))) ?_)
    refine wla 2 3 rfl rfl rfl rfl rfl rfl rfl ?_
    refine wl_end rfl ?_
    refine nm_lp ?_
    intro ax_ hax_
    refine ⟨_, ?hq2m, ⟨i + 1, _, _, rfl, hax_.sub ⟨rfl, rfl, rfl, rfl, trivial⟩, S12.pick [1, 2, 3, 4] [_, _, _, _] (by decide) ⟨rfl, rfl, rfl, rfl, trivial⟩, ?hq2f0, ?hq2f1⟩⟩
    case hq2f0 => omega
    case hq2f1 => (rw [take_ga d.crs i (by omega), List.map_append, ← hmc]; unfold chg; simp [*])
    case hq2m => omega
   ·refine ws_region rfl ?_
    refine wlo 0 1 rfl rfl rfl (wo_run rfl rfl (run_fieldAddr rfl rfl Try.underlying51 rfl (ce49) (nf49)) ?_)
    refine wlo 1 2 rfl rfl rfl (wo_run rfl rfl (run_load1 rfl rfl Try.underlying49 rfl (S8.boxc (i := 2) rfl rfl)) ?_)
    refine wlo 2 3 rfl rfl rfl (wo_run rfl rfl (run_fieldAddr rfl rfl Try.underlying108 rfl (ce3) (nf3)) ?_)
    refine wlo 3 4 rfl rfl rfl (wo_run rfl rfl (run_load1 rfl rfl Try.underlying3 rfl (S8.boxc (i := 0) rfl rfl)) ?_)
    refine wlo 4 5 rfl rfl rfl (wo_run rfl rfl (run_fieldAddr rfl rfl Try.underlying108 rfl (ce3) (nf3)) ?_)
    refine wlo 5 6 rfl rfl rfl (wo_run rfl rfl (run_load1 rfl rfl Try.underlying3 rfl (S8.boxc (i := 0) rfl rfl)) ?_)
    refine wlo 6 7 rfl rfl rfl (wo_run rfl rfl (run_fieldAddr rfl rfl Try.underlying108 rfl (ce3) (nf3)) ?_)
    refine wlo 7 8 rfl rfl rfl (wo_run rfl rfl (run_load1 rfl rfl Try.underlying3 rfl (S8.boxc (i := 0) rfl rfl)) ?_)
    refine wlo 8 9 rfl rfl rfl (wo_run rfl rfl (run_fieldAddr rfl rfl Try.underlying108 rfl (ce3) (nf3)) ?_)
    refine wlo 9 10 rfl rfl rfl (wo_run rfl rfl (run_load1 rfl rfl Try.underlying3 rfl (S8.boxc (i := 0) rfl rfl)) ?_)
    refine wlo 10 11 rfl rfl rfl (wo_run rfl rfl (run_build (l := [_, _, _, _, _]) rfl rfl st108 rfl rfl) ?_)
    refine wlo 11 12 rfl rfl rfl (wo_buildSlice1 (C := cdCr) (l := [_, _, _, _, _]) rfl rfl rfl rfl sl49 rfl rfl rfl rfl S8 ?_)
    intro gb6 w11 S13; clear S8
    refine wlo 12 13 rfl rfl rfl (wo_append1 (C := cdCr) (i := 2) (q := 0) (⟨(ga d.crs i).b, (ga d.crs i).c, (ga d.crs i).d, (ga d.crs i).a, true⟩ : Cr) rfl rfl rfl rfl rfl rfl rfl rfl sl49 S13 rfl rfl rfl (by show (_ + 1) * 40 ≤ _; first | omega | (simp only [lens]; omega)) ?_)
    intro vrm2 w12 S14; clear S13
    have S15 := S14.pick [1, 2, 3, 4, 5] [_, _, _, _, _] (by decide) ⟨rfl, rfl, rfl, rfl, rfl, trivial⟩; clear S14
    refine wlo 13 14 rfl rfl rfl (wo_run rfl rfl (run_fieldAddr rfl rfl Try.underlying51 rfl (ce49) (nf49)) ?_)
    refine wlo 14 15 rfl rfl rfl (wo_storeB (i := 2) (us := [_]) (l' := [_, _]) (H' := [_, _, _, _, _]) rfl rfl S15 rfl rfl rfl (S15.cells1 (i := 1) rfl) sz49 rfl (ones_cons (S15.one (i := 1) rfl) rfl) rfl rfl ?_)
    intro w13 S16; clear S15
    refine wl_end rfl ?_
    refine nm_blk ?_
    refine nm_sub [(1, _), (2, _), (3, _), (4, _)] ⟨rfl, rfl, rfl, rfl, trivial⟩ ?_
    refine nm_thn ?_
    refine ws_region rfl ?_
    refine wlm 0 1 rfl rfl rfl rfl rfl rfl rfl ?_
    refine wlo 1 2 rfl rfl rfl (wo_run rfl rfl (run_add rfl rfl rfl (by first | omega | (simp only [lens]; omega))) ?_)
    refine wla 2 3 rfl rfl rfl rfl rfl rfl rfl ?_
    refine wl_end rfl ?_
    refine nm_lp ?_
    intro ax_ hax_
    refine ⟨_, ?hq3m, ⟨i + 1, _, _, rfl, hax_.sub ⟨rfl, rfl, rfl, rfl, trivial⟩, S16.pick [1, 2, 3, 4] [_, _, _, _] (by decide) ⟨rfl, rfl, rfl, rfl, trivial⟩, ?hq3f0, ?hq3f1⟩⟩
    case hq3f0 => omega
    case hq3f1 => (rw [take_ga d.crs i (by omega), List.map_append, ← hmc]; unfold chg; simp [*])
    case hq3m => omega
  ·replace hb13 := of_decide_eq_false hb13
   refine ws_exit rfl rfl ?_
   refine nm_sub [(2, _), (3, _)] ⟨rfl, rfl, trivial⟩ ?_
   refine nm_thn ?_
   refine ws_seqN MirrorOf_n26 MirrorOf_n27 rfl rfl rfl ?_
   refine ws_region rfl ?_
   refine wlo 0 1 rfl rfl rfl (wo_run rfl rfl (run_loadN (us := [_, _]) rfl rfl Try.underlying51 rfl sz51 (S6.boxcs (i := 1) rfl ⟨rfl, rfl, trivial⟩)) ?_)
   refine wlo 1 2 rfl rfl rfl (wo_storeB (i := 2) (us := [_, _]) (l' := [_, _]) (H' := [_, _, _, _]) rfl rfl S6 rfl rfl rfl rfl sz51 rfl (ones_cons (S6.one (i := 0) rfl) (ones_cons rfl rfl)) rfl rfl ?_)
   intro w14 S17; clear S6
   refine wl_end rfl ?_
   refine nm_sub [(2, _)] ⟨rfl, trivial⟩ ?_
   refine nm_thn ?_
   obtain ⟨M1, hle2, S18, ⟨A1, c1, e1, hr1⟩⟩ := S17.pubrow (i := 0) (H' := [_, _, _, _]) rfl rfl (by show _ * 40 ≤ _; first | omega | (simp only [lens]; omega))
   clear S17; subst e1
   replace hdcrs := hdcrs.mono (Hp.un_mono hle2 S18.mx)
   refine ws_ret hC [_] rfl rfl ⟨⟨_, rfl, loadVarN (us := [_, _]) Try.underlying51 rfl sz51 (S18.boxcs (i := 2) rfl ⟨rfl, rfl, trivial⟩)⟩, trivial⟩ ?_
   refine ⟨_, rfl, _, hle2, (S18.pick [] [] (by decide) trivial), ?_⟩
   obtain rfl : i = d.crs.length := by omega
   rw [List.take_length] at hmc
   rw [← hmc]
   exact ⟨_, _, rfl, hr1⟩
noncomputable def ChangeOf_n0 : Code := Try.f44.body.getD .skip
noncomputable def ChangeOf_n1 : Code := cL ChangeOf_n0
noncomputable def ChangeOf_n2 : Code := cR ChangeOf_n0
noncomputable def ChangeOf_n3 : Code := cL ChangeOf_n2
noncomputable def ChangeOf_n4 : Code := cR ChangeOf_n2
noncomputable def ChangeOf_n5 : Code := cL ChangeOf_n4
noncomputable def ChangeOf_n6 : Code := cR ChangeOf_n4
noncomputable def ChangeOf_n7 : Code := cL ChangeOf_n6
noncomputable def ChangeOf_n8 : Code := cR ChangeOf_n6
noncomputable def ChangeOf_n9 : Code := cL ChangeOf_n8
noncomputable def ChangeOf_n10 : Code := cR ChangeOf_n8
set_option maxRecDepth 10000 in
theorem ChangeOf_t {w : World} {M : Hp} {X : Fr} (d : Dg) {dcrsA : Option Addr} {dcrsc : Nat} (k : Nat) (hdcrs : RdA cdCr (M.un X.h) dcrsA dcrsc d.crs) (hk : k < d.crs.length) (S : SH w M X []) : Ct Try.prog 44 [.agg [.slice dcrsA d.crs.length dcrsc, .int .i64 d.loops].toArray, .int .i64 (k : Int)] w M X (fun u N => ∃ A c, u = .agg [.slice A (chD d k).crs.length c, .int .i64 (chD d k).loops].toArray ∧ RdA cdCr N A c (chD d k).crs) := by
 unfold Ct
 have rmhdcrs : d.crs.length * 40 ≤ 140737488355328 := hdcrs.room
 refine calls_in (b := ChangeOf_n0) Try.func44 rfl Try.ntmps44 rfl (fun C hC => ?_)
 refine ws_sub [(0, _), (1, _)] ⟨rfl, rfl, trivial⟩ ?_
 refine ws_seqN ChangeOf_n1 ChangeOf_n2 rfl rfl rfl ?_
 refine ws_region rfl ?_
 refine wlo 0 1 rfl rfl rfl (wo_box (l := [_, _]) rfl rfl rfl rfl rfl S ?_)
 intro gb1 w1 S1; clear S
 refine wlo 1 2 rfl rfl rfl (wo_alloc (l := [_, _]) rfl rfl rfl zr51 rfl S1 ?_)
 intro gb2 w2 S2; clear S1
 refine wl_end rfl ?_
 refine nm_sub [(1, _), (2, _), (4, _)] ⟨rfl, rfl, rfl, trivial⟩ ?_
 refine nm_thn ?_
 refine ws_seqN ChangeOf_n3 ChangeOf_n4 rfl rfl rfl ?_
 refine ws_region rfl ?_
 refine wlo 0 1 rfl rfl rfl (wo_run rfl rfl (run_loadN (us := [_, _]) rfl rfl Try.underlying51 rfl sz51 (S2.boxcs (i := 1) rfl ⟨rfl, rfl, trivial⟩)) ?_)
 refine wlo 1 2 rfl rfl rfl (wo_co rfl rfl rfl rfl rfl rfl rfl cf33 S2 (DiagramOf_o d (hdcrs.mono S2.un_XH) S2.lend) ?_)
 intro vw3 w3 Nw3 S3 hRw3; clear S2
 obtain ⟨vr1, rfl, rfl⟩ := hRw3
 change SH _ _ _ [_, _, _] at S3
 refine wlo 2 3 rfl rfl rfl (wo_alloc (l := [_, _]) rfl rfl rfl zr51 rfl S3 ?_)
 intro gb3 w4 S4; clear S3
 refine wlo 3 4 rfl rfl rfl (wo_storeB (i := 0) (us := [_, _]) (l' := [_, _]) (H' := [_, _, _, _]) rfl rfl S4 rfl rfl rfl rfl sz51 rfl (ones_cons (S4.one (i := 1) rfl) (ones_cons rfl rfl)) rfl rfl ?_)
 intro w5 S5; clear S4
 refine wl_end rfl ?_
 refine nm_sub [(1, _), (2, _), (4, _), (5, _)] ⟨rfl, rfl, rfl, rfl, trivial⟩ ?_
 refine nm_thn ?_
 refine ws_seqN ChangeOf_n5 ChangeOf_n6 rfl rfl rfl ?_
 refine ws_region rfl ?_
 refine wlo 0 1 rfl rfl rfl (wo_run rfl rfl (run_fieldAddr rfl rfl Try.underlying51 rfl (ce49) (nf49)) ?_)
 refine wlo 1 2 rfl rfl rfl (wo_run rfl rfl (run_load1 rfl rfl Try.underlying49 rfl (S5.boxc (i := 3) rfl rfl)) ?_)
 refine wlm 2 3 rfl rfl rfl rfl rfl rfl rfl ?_
 refine wlo 3 4 rfl rfl rfl (wo_run rfl rfl (run_indexM (C := cdCr) k rfl rfl rfl sl49 (by first | rfl | omega) hdcrs (by first | omega | (simp only [lens]; omega))) ?_)
 refine wlo 4 5 rfl rfl rfl (wo_run rfl rfl (run_loadN (us := [_, _, _, _, _]) rfl rfl Try.underlying108 rfl sz108 (hdcrs.cellsAt S5.um (e := k) (by first | omega | (simp only [lens]; omega)) (j := 0) ⟨rfl, rfl, rfl, rfl, rfl, trivial⟩)) ?_)
 refine wlo 5 6 rfl rfl rfl (wo_buildSlice1 (C := cdCr) (l := [_, _, _, _, _]) rfl rfl rfl rfl sl49 rfl rfl rfl rfl S5 ?_)
 intro gb4 w6 S6; clear S5
 refine wlo 6 7 rfl rfl rfl (wo_run rfl rfl (run_build (l := [_, _]) rfl rfl st51 rfl rfl) ?_)
 have hr1 := S6.lendBox (C := cdCr) (z := (⟨(ga d.crs k).a, (ga d.crs k).b, (ga d.crs k).c, (ga d.crs k).d, (ga d.crs k).plus⟩ : Cr)) (i := 0) rfl rfl (by decide)
 have hcall1 := MirrorOf_t (⟨[ga d.crs k], 0⟩ : Dg) hr1 S6.lend
 refine wlo 7 8 rfl rfl rfl (wo_ct rfl rfl rfl rfl rfl rfl rfl cf85 S6 (hcall1) ?_)
 intro vw7 w7 M1 hle1 S7 hRw7; clear S6
 replace hdcrs := hdcrs.mono (Hp.un_mono hle1 S7.mx)
 obtain ⟨A1, c1, rfl, hr2⟩ := hRw7
 refine wlo 8 9 rfl rfl rfl (wo_alloc (l := [_, _]) rfl rfl rfl zr51 rfl S7 ?_)
 intro gb5 w8 S8; clear S7
 refine wlo 9 10 rfl rfl rfl (wo_storeB (i := 0) (us := [_, _]) (l' := [_, _]) (H' := [_, _, _, _, _, _]) rfl rfl S8 rfl rfl rfl rfl sz51 rfl rfl rfl rfl ?_)
 intro w9 S9; clear S8
 refine wl_end rfl ?_
 refine nm_sub [(1, _), (4, _), (5, _), (6, _)] ⟨rfl, rfl, rfl, rfl, trivial⟩ ?_
 refine nm_thn ?_
 refine ws_seqN ChangeOf_n7 ChangeOf_n8 rfl rfl rfl ?_
 refine ws_draw rfl (by kernel_rfl) S9 9 rfl ?_
 clear S9
 refine wa_takeP (i := 0) (d := 17) 8 rfl (by kernel_rfl) (by kernel_rfl) (by kernel_rfl) rfl rfl rfl (fun w10 => run_fieldAddr rfl rfl Try.underlying51 rfl (ce49) (nf49)) ?_
 refine wa_take (i := 1) (d := 18) 7 rfl (by kernel_rfl) (by kernel_rfl) (by kernel_rfl) rfl rfl rfl (fun M3 N2 w11 hle3 S11 => .inl (run_load1 rfl rfl Try.underlying49 rfl (S11.suf.boxc (i := 2) rfl rfl))) ?_
 refine wa_takeP (i := 2) (d := 19) 6 rfl (by kernel_rfl) (by kernel_rfl) (by kernel_rfl) rfl rfl rfl (fun w12 => run_move rfl rfl) ?_
 refine wa_takeP (i := 3) (d := 20) 5 rfl (by kernel_rfl) (by kernel_rfl) (by kernel_rfl) rfl rfl rfl (fun w13 => run_fieldAddr rfl rfl Try.underlying51 rfl (ce49) (nf49)) ?_
 refine wa_take (i := 4) (d := 21) 4 rfl (by kernel_rfl) (by kernel_rfl) (by kernel_rfl) rfl rfl rfl (fun M6 N5 w14 hle6 S14 => .inl (run_load1 rfl rfl Try.underlying49 rfl (S14.suf.boxc (i := 0) rfl rfl))) ?_
 refine wa_take (i := 5) (d := 22) 3 rfl (by kernel_rfl) (by kernel_rfl) (by kernel_rfl) rfl rfl rfl (fun M7 N6 w15 hle7 S15 => .inl (run_indexM (C := cdCr) 0 rfl rfl rfl sl49 (by first | rfl | omega) (hr2.mono hle7) (by (show 0 < [_].length; simp)))) ?_
 refine wa_take (i := 6) (d := 23) 2 rfl (by kernel_rfl) (by kernel_rfl) (by kernel_rfl) rfl rfl rfl (fun M8 N7 w16 hle8 S16 => .inl (run_loadN (us := [_, _, _, _, _]) rfl rfl Try.underlying108 rfl sz108 ((hr2.mono hle8).cellsAt S16.m (e := 0) (by (show 0 < [_].length; simp)) (j := 0) ⟨rfl, rfl, rfl, rfl, rfl, trivial⟩))) ?_
 refine wa_take (i := 7) (d := 24) 1 rfl (by kernel_rfl) (by kernel_rfl) (by kernel_rfl) rfl rfl rfl (fun M9 N8 w17 hle9 S17 => .inl (run_indexR (C := cdCr) (i := 3) k rfl rfl rfl sl49 S17.suf rfl (by first | rfl | omega) (by first | omega | (simp only [lens]; omega)))) ?_
 refine wa_only (i := 8) 0 rfl (by kernel_rfl) rfl rfl (fun w19 S19 => ?_)
 refine (wo_storeR (C := cdCr) (i := 3) (e := k) (j := 0) (us := [_, _, _, _, _]) (H' := [_, _, _, _, _, _]) (⟨(ga (List.map chg [ga d.crs k]) 0).a, (ga (List.map chg [ga d.crs k]) 0).b, (ga (List.map chg [ga d.crs k]) 0).c, (ga (List.map chg [ga d.crs k]) 0).d, (ga (List.map chg [ga d.crs k]) 0).plus⟩ : Cr) rfl rfl S19 rfl (by first | omega | (simp only [lens]; omega)) rfl rfl rfl sz108 rfl rfl rfl rfl ?_)
 intro w20 S20; clear S19
 refine LeftW.turn (by kernel_rfl) S20 ?_; clear S20
 change WA _ _ _ _ _ _ _ _ _ _ _ _ [_, _, _, _, _, _]
 refine wa_end (by kernel_rfl) (fun w21 S21 => ?_)
 refine nm_sub [(4, _), (5, _)] ⟨rfl, rfl, trivial⟩ ?_
 refine nm_thn ?_
 refine ws_seqN ChangeOf_n9 ChangeOf_n10 rfl rfl rfl ?_
 refine ws_region rfl ?_
 refine wlo 0 1 rfl rfl rfl (wo_run rfl rfl (run_loadN (us := [_, _]) rfl rfl Try.underlying51 rfl sz51 (S21.boxcs (i := 2) rfl ⟨rfl, rfl, trivial⟩)) ?_)
 refine wlo 1 2 rfl rfl rfl (wo_storeB (i := 4) (us := [_, _]) (l' := [_, _]) (H' := [_, _, _, _, _, _]) rfl rfl S21 rfl rfl rfl rfl sz51 rfl (ones_cons (S21.one (i := 3) rfl) (ones_cons rfl rfl)) rfl rfl ?_)
 intro w22 S22; clear S21
 refine wl_end rfl ?_
 refine nm_sub [(4, _)] ⟨rfl, trivial⟩ ?_
 refine nm_thn ?_
 obtain ⟨M11, hle11, S23, ⟨A2, c2, e1, hr3⟩⟩ := S22.pubrow (i := 3) (H' := [_, _, _, _, _, _]) rfl rfl (by show _ * 40 ≤ _; first | omega | (simp only [lens]; omega))
 clear S22; subst e1
 replace hdcrs := hdcrs.mono (Hp.un_mono hle11 S23.mx)
 replace hr2 := hr2.mono hle11
 refine ws_ret hC [_] rfl rfl ⟨⟨_, rfl, loadVarN (us := [_, _]) Try.underlying51 rfl sz51 (S23.boxcs (i := 4) rfl ⟨rfl, rfl, trivial⟩)⟩, trivial⟩ ?_
 refine ⟨_, rfl, _, hle1.trans hle11, (S23.pick [] [] (by decide) trivial), ?_⟩
 exact ⟨_, _, rfl, hr3⟩
end Go.Proofs.Ytkcighnochjlgaa
