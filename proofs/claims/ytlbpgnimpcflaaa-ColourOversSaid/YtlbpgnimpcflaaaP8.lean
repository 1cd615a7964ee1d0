/- Walks printed by eng.py. -/
import Derived.Test.YtlbpgnimpcflaaaP7
set_option linter.unusedSimpArgs false
set_option linter.unusedVariables false
namespace Go.Proofs.Ytlbpgnimpcflaaa
open Go.ChangeShapes Go.WideShapes Go.ChangeAt Go.RowKit
theorem SH.pubBx {w : World} {M : Hp} {X : Fr} {H H' : List Rs} {i g : Nat} {T : TypeId} {l : List Value} (S : SH w M X H) (hi : nth H i = some (Rs.box g T l)) (hH : H.set i Rs.emp = H') : ∃ M', M.le M' ∧ SH w M' X H' ∧ BxM M' g T l := by
  obtain ⟨h1, h2, h3⟩ := S.pub hi hH
  have h4 : hp w g = some (.cells l.toArray T (0, 0)) := S.get hi
  exact ⟨_, h1, h2, (h3 g (by simp [Rs.box])).trans h4⟩
theorem mayO {d : Dg} (h : mayB d = true) : d.crs.length ≤ 16 ∧ arcsB d = true ∧ 0 ≤ d.loops ∧ d.loops ≤ 16 := by
  rw [mayB_arcs, Bool.and_eq_true, decide_eq_true_iff] at h
  exact ⟨h.1.1, h.2, h.1.2.1, h.1.2.2.1⟩
def ShM (N : Hp) (d : Dg) (g : Nat) (cA iA oA : Option Addr) (cc ic oc : Nat) : Prop := BxM N g 81 [.slice cA d.crs.length cc, .int .i64 d.loops, .slice iA (tabL d false (4 * d.crs.length)).length ic, .slice oA (tabL d true (4 * d.crs.length)).length oc] ∧ RdA cdCr N cA cc d.crs ∧ RdA cdPl N iA ic (tabL d false (4 * d.crs.length)) ∧ RdA cdPl N oA oc (tabL d true (4 * d.crs.length))
def NewT (d : Dg) (v : Value) (N : Hp) : Prop :=
  (mayB d = false ∧ v = .tuple [.pointer none, .bool false].toArray) ∨
  (mayB d = true ∧ ∃ g cA iA oA cc ic oc, v = .tuple [.pointer (some ⟨g, 0, none⟩), .bool true].toArray ∧ ShM N d g cA iA oA cc ic oc)
theorem New_t {w : World} {M : Hp} {X : Fr} (d : Dg) {A : Option Addr} {c : Nat} (h : RdA cdCr (M.un X.h) A c d.crs) (S : SH w M X []) : Ct Try.prog 53 [.agg [.slice A d.crs.length c, .int .i64 d.loops].toArray] w M X (NewT d) := by
  refine (New_o d h S).mono ?_
  rintro e w' ⟨v, rfl, N, S1, ⟨hm, rfl, rfl⟩ | ⟨hm, g, vc, vi, vo, rfl, rfl, hv⟩⟩
  · exact ⟨_, rfl, M, Hp.le_refl _, S1, .inl ⟨hm, rfl⟩⟩
  · obtain ⟨hn, _⟩ := mayO hm
    have t1 := tabL_len d false (4 * d.crs.length)
    have t2 := tabL_len d true (4 * d.crs.length)
    clear hv
    obtain ⟨M1, l1, S2, ⟨cA, cc, rfl, r1⟩⟩ := S1.pubrow (i := 1) rfl rfl (by show _ * 40 ≤ _; omega)
    obtain ⟨M2, l2, S3, ⟨iA, ic, rfl, r2⟩⟩ := S2.pubrow (C := cdPl) (xs := tabL d false (4 * d.crs.length)) (i := 2) rfl rfl (by show _ * 16 ≤ _; omega)
    obtain ⟨M3, l3, S4, ⟨oA, oc, rfl, r3⟩⟩ := S3.pubrow (C := cdPl) (xs := tabL d true (4 * d.crs.length)) (i := 3) rfl rfl (by show _ * 16 ≤ _; omega)
    obtain ⟨M4, l4, S5, b⟩ := S4.pubBx (i := 0) rfl rfl
    exact ⟨_, rfl, M4, (l1.trans l2).trans (l3.trans l4), S5.pick [] [] (by decide) trivial, .inr ⟨hm, g, cA, iA, oA, cc, ic, oc, rfl, b, ((r1.mono l2).mono l3).mono l4, (r2.mono l3).mono l4, r3.mono l4⟩⟩

def DgR (d : Dg) (u : Value) (M : Hp) : Prop := ∃ A c, u = .agg [.slice A d.crs.length c, .int .i64 d.loops].toArray ∧ RdA cdCr M A c d.crs

noncomputable def DiagramOf_n0 : Code := Try.f16.body.getD .skip
noncomputable def DiagramOf_n1 : Code := cL DiagramOf_n0
noncomputable def DiagramOf_n2 : Code := cR DiagramOf_n0
noncomputable def DiagramOf_n3 : Code := cL DiagramOf_n2
noncomputable def DiagramOf_n4 : Code := cR DiagramOf_n2
noncomputable def DiagramOf_n5 : Code := cL DiagramOf_n4
noncomputable def DiagramOf_n6 : Code := cR DiagramOf_n4
set_option maxRecDepth 10000 in
theorem DiagramOf_t {w : World} {M : Hp} {X : Fr} (d : Dg) {dcrsA : Option Addr} {dcrsc : Nat} (hdcrs : RdA cdCr (M.un X.h) dcrsA dcrsc d.crs) (S : SH w M X []) : Ct Try.prog 16 [.agg [.slice dcrsA d.crs.length dcrsc, .int .i64 d.loops].toArray] w M X (DgR d) := by
  unfold Ct
  have rmhdcrs : d.crs.length * 40 ≤ 140737488355328 := hdcrs.room
  have hroom : d.crs.length * 40 ≤ 140737488355328 := hdcrs.room
  refine calls_in (b := DiagramOf_n0) Try.func16 rfl Try.ntmps16 rfl (fun C hC => ?_)
  refine ws_sub [(0, _)] ⟨rfl, trivial⟩ ?_
  refine ws_seqN DiagramOf_n1 DiagramOf_n2 rfl rfl rfl ?_
  refine ws_region rfl ?_
  refine wl_op (k := 0) (k' := 1) rfl rfl rfl (wo_box (l := [_, _]) rfl rfl rfl rfl rfl S ?_)
  intro gb1 w1 S1; clear S
  refine wl_op (k := 1) (k' := 2) rfl rfl rfl (wo_alloc (l := [_, _]) rfl rfl rfl zr27 rfl S1 ?_)
  intro gb2 w2 S2; clear S1
  refine wl_end rfl ?_
  refine nm_sub [(1, _), (2, _)] ⟨rfl, rfl, trivial⟩ ?_
  refine nm_thn ?_
  refine ws_seqN DiagramOf_n3 DiagramOf_n4 rfl rfl rfl ?_
  refine ws_region rfl ?_
  refine wl_op (k := 0) (k' := 1) rfl rfl rfl (wo_run rfl rfl (run_fieldAddr rfl rfl Try.underlying27 rfl (ce25) (nf25)) ?_)
  refine wl_op (k := 1) (k' := 2) rfl rfl rfl (wo_run rfl rfl (run_load1 rfl rfl Try.underlying25 rfl (S2.boxc (i := 1) rfl rfl)) ?_)
  have S3 := S2.nilrow cdCr; clear S2
  refine wl_op (k := 2) (k' := 3) rfl rfl rfl (wo_appendM (C := cdCr) (i := 0) rfl rfl rfl rfl rfl rfl rfl rfl sl25 S3 rfl hdcrs S3.um (by have h : _ * 40 ≤ _ := hdcrs.room; show (0 + _) * 40 ≤ _; first | omega | (simp only [List.length_set, List.length_append, List.length_replicate, List.length_singleton, List.length_cons, List.length_nil]; omega)) ?_)
  intro vr2 w3 S4; clear S3
  change SH _ _ _ [Rs.row cdCr vr2 d.crs, _, _] at S4
  refine wl_op (k := 3) (k' := 4) rfl rfl rfl (wo_run rfl rfl (run_fieldAddr rfl rfl Try.underlying27 rfl (ce25) (nf25)) ?_)
  refine wl_op (k := 4) (k' := 5) rfl rfl rfl (wo_storeB (i := 2) (us := [_]) (l' := [_, _]) (H' := [_, _, _]) rfl rfl S4 rfl rfl rfl (S4.cells1 (i := 0) rfl) sz25 rfl (ones_cons (S4.one (i := 0) rfl) rfl) rfl rfl ?_)
  intro w4 S5; clear S4
  refine wl_end rfl ?_
  refine nm_sub [(1, _), (2, _)] ⟨rfl, rfl, trivial⟩ ?_
  refine nm_thn ?_
  refine ws_seqN DiagramOf_n5 DiagramOf_n6 rfl rfl rfl ?_
  refine ws_region rfl ?_
  refine wl_op (k := 0) (k' := 1) rfl rfl rfl (wo_run rfl rfl (run_loadN (us := [_, _]) rfl rfl Try.underlying27 rfl sz27 (S5.boxcs (i := 2) rfl ⟨rfl, rfl, trivial⟩)) ?_)
  refine wl_op (k := 1) (k' := 2) rfl rfl rfl (wo_storeB (i := 1) (us := [_, _]) (l' := [_, _]) (H' := [_, _, _]) rfl rfl S5 rfl rfl rfl rfl sz27 rfl (ones_cons (S5.one (i := 0) rfl) (ones_cons rfl rfl)) rfl rfl ?_)
  intro w5 S6; clear S5
  refine wl_end rfl ?_
  refine nm_sub [(2, _)] ⟨rfl, trivial⟩ ?_
  refine nm_thn ?_
  obtain ⟨M1, hle1, S7, ⟨A1, c1, e1, hr1⟩⟩ := S6.pubrow (i := 0) (H' := [_, _, _]) rfl rfl (by show _ * 40 ≤ _; first | omega | (simp only [List.length_set, List.length_append, List.length_replicate, List.length_singleton, List.length_cons, List.length_nil]; omega))
  clear S6; subst e1
  replace hdcrs := hdcrs.mono (Hp.un_mono hle1 S7.mx)
  refine ws_ret hC [_] rfl rfl ⟨⟨_, rfl, loadVarN (us := [_, _]) Try.underlying27 rfl sz27 (S7.boxcs (i := 1) rfl ⟨rfl, rfl, trivial⟩)⟩, trivial⟩ ?_
  refine ⟨_, rfl, _, hle1, (S7.pick [] [] (by decide) trivial), ?_⟩
  exact ⟨_, _, rfl, hr1⟩

def errF (d : Dg) : Int := if mayB d = true then 0 else 7
def facesR (d : Dg) : List (List Da) := if mayB d = true then facesL d else []
def FaR (d : Dg) (u : Value) (M : Hp) : Prop := ∃ A c vs, u = .tuple [.slice A vs.length c, .int .i64 (errF d)].toArray ∧ RdA (cdV 100) M A c vs ∧ Rd2 cdDa M vs (facesR d)

noncomputable def CFaces_n0 : Code := Try.f32.body.getD .skip
noncomputable def CFaces_n1 : Code := cL CFaces_n0
noncomputable def CFaces_n2 : Code := cR CFaces_n0
noncomputable def CFaces_n3 : Code := cL CFaces_n2
noncomputable def CFaces_n4 : Code := cR CFaces_n2
noncomputable def CFaces_n5 : Code := cL CFaces_n4
noncomputable def CFaces_n6 : Code := cR CFaces_n4
noncomputable def CFaces_n7 : Code := cL CFaces_n5
noncomputable def CFaces_n8 : Code := cR CFaces_n5
noncomputable def CFaces_n9 : Code := cL CFaces_n8
noncomputable def CFaces_n10 : Code := cR CFaces_n8
noncomputable def CFaces_n11 : Code := cL CFaces_n9
noncomputable def CFaces_n12 : Code := cR CFaces_n9
noncomputable def CFaces_n13 : Code := cL CFaces_n6
noncomputable def CFaces_n14 : Code := cR CFaces_n6
set_option maxRecDepth 10000 in
theorem CFaces_t {w : World} {M : Hp} {X : Fr} (d : Dg) {dcrsA : Option Addr} {dcrsc : Nat} (hdcrs : RdA cdCr (M.un X.h) dcrsA dcrsc d.crs) (S : SH w M X []) : Ct Try.prog 32 [.agg [.slice dcrsA d.crs.length dcrsc, .int .i64 d.loops].toArray] w M X (FaR d) := by
  unfold Ct
  have rmhdcrs : d.crs.length * 40 ≤ 140737488355328 := hdcrs.room
  refine calls_in (b := CFaces_n0) Try.func32 rfl Try.ntmps32 rfl (fun C hC => ?_)
  refine ws_sub [(0, _)] ⟨rfl, trivial⟩ ?_
  refine ws_seqN CFaces_n1 CFaces_n2 rfl rfl rfl ?_
  refine ws_region rfl ?_
  refine wl_op (k := 0) (k' := 1) rfl rfl rfl (wo_box (l := [_, _]) rfl rfl rfl rfl rfl S ?_)
  intro gb1 w1 S1; clear S
  refine wl_op (k := 1) (k' := 2) rfl rfl rfl (wo_run rfl rfl (run_assign rfl rfl) ?_)
  refine wl_op (k := 2) (k' := 3) rfl rfl rfl (wo_run rfl rfl (run_assign rfl rfl) ?_)
  refine wl_end rfl ?_
  refine nm_sub [(1, _)] ⟨rfl, trivial⟩ ?_
  refine nm_thn ?_
  refine ws_seqN CFaces_n3 CFaces_n4 rfl rfl rfl ?_
  refine ws_region rfl ?_
  refine wl_op (k := 0) (k' := 1) rfl rfl rfl (wo_run rfl rfl (run_loadN (us := [_, _]) rfl rfl Try.underlying27 rfl sz27 (S1.boxcs (i := 0) rfl ⟨rfl, rfl, trivial⟩)) ?_)
  refine wl_op (k := 1) (k' := 2) rfl rfl rfl (wo_ct rfl rfl rfl rfl rfl rfl rfl cf53 S1 (New_t d (hdcrs.mono S1.un_XH) S1.lend) ?_)
  intro vw2 w2 M1 hle1 S2 hRw2; clear S1
  replace hdcrs := hdcrs.mono (Hp.un_mono hle1 S2.mx)
  rcases hRw2 with ⟨hmay8, rfl⟩ | ⟨hmay8, g1, cA8, iA8, oA8, cc8, ic8, oc8, rfl, hsb8, hsc8, hsi8, hso8⟩
  · refine wl_op (k := 2) (k' := 3) rfl rfl rfl (wo_run rfl rfl (run_move rfl rfl) ?_)
    refine wl_op (k := 3) (k' := 4) rfl rfl rfl (wo_run rfl rfl (run_extract rfl rfl rfl) ?_)
    refine wl_op (k := 4) (k' := 5) rfl rfl rfl (wo_run rfl rfl (run_extract rfl rfl rfl) ?_)
    refine wl_op (k := 5) (k' := 6) rfl rfl rfl (wo_run rfl rfl (run_assign rfl rfl) ?_)
    refine wl_op (k := 6) (k' := 7) rfl rfl rfl (wo_run rfl rfl (run_assign rfl rfl) ?_)
    refine wl_end rfl ?_
    refine nm_sub [(4, _), (5, _)] ⟨rfl, rfl, trivial⟩ ?_
    refine nm_thn ?_
    refine ws_seqN CFaces_n5 CFaces_n6 rfl rfl rfl ?_
    refine ws_seqN CFaces_n7 CFaces_n8 rfl rfl rfl ?_
    refine ws_region rfl ?_
    refine wl_op (k := 0) (k' := 1) rfl rfl rfl (wo_run rfl rfl (run_move rfl rfl) ?_)
    refine wl_op (k := 1) (k' := 2) rfl rfl rfl (wo_run rfl rfl (run_not rfl rfl) ?_)
    refine wl_end rfl ?_
    refine nm_sub [(4, _), (12, _)] ⟨rfl, rfl, trivial⟩ ?_
    refine nm_thn ?_
    refine ws_condTN CFaces_n9 rfl rfl rfl ?_
    refine ws_seqN CFaces_n11 CFaces_n12 rfl rfl rfl ?_
    refine ws_region rfl ?_
    refine wl_op (k := 0) (k' := 1) rfl rfl rfl (wo_run rfl rfl (run_assign rfl rfl) ?_)
    refine wl_op (k := 1) (k' := 2) rfl rfl rfl (wo_run rfl rfl (run_assign rfl rfl) ?_)
    refine wl_end rfl ?_
    refine nm_sub [(2, _), (3, _)] ⟨rfl, rfl, trivial⟩ ?_
    refine nm_thn ?_
    refine ws_ret hC [_, _] rfl rfl ⟨rfl, rfl, trivial⟩ ?_
    refine ⟨_, rfl, _, hle1, (S2.pick [] [] (by decide) trivial), ?_⟩
    have e0 : errF d = 7 := by unfold errF; rw [if_neg (by rw [hmay8]; exact Bool.false_ne_true)]
    have e1 : facesR d = [] := by unfold facesR; rw [if_neg (by rw [hmay8]; exact Bool.false_ne_true)]
    unfold FaR
    rw [e0, e1]
    exact ⟨none, 0, [], rfl, RdA.nil_, Rd2.nil_⟩
  · obtain ⟨hn, hab, hlo0, hlo1⟩ := mayO hmay8
    refine wl_op (k := 2) (k' := 3) rfl rfl rfl (wo_run rfl rfl (run_move rfl rfl) ?_)
    refine wl_op (k := 3) (k' := 4) rfl rfl rfl (wo_run rfl rfl (run_extract rfl rfl rfl) ?_)
    refine wl_op (k := 4) (k' := 5) rfl rfl rfl (wo_run rfl rfl (run_extract rfl rfl rfl) ?_)
    refine wl_op (k := 5) (k' := 6) rfl rfl rfl (wo_run rfl rfl (run_assign rfl rfl) ?_)
    refine wl_op (k := 6) (k' := 7) rfl rfl rfl (wo_run rfl rfl (run_assign rfl rfl) ?_)
    refine wl_end rfl ?_
    refine nm_sub [(4, _), (5, _)] ⟨rfl, rfl, trivial⟩ ?_
    refine nm_thn ?_
    refine ws_seqN CFaces_n5 CFaces_n6 rfl rfl rfl ?_
    refine ws_seqN CFaces_n7 CFaces_n8 rfl rfl rfl ?_
    refine ws_region rfl ?_
    refine wl_op (k := 0) (k' := 1) rfl rfl rfl (wo_run rfl rfl (run_move rfl rfl) ?_)
    refine wl_op (k := 1) (k' := 2) rfl rfl rfl (wo_run rfl rfl (run_not rfl rfl) ?_)
    refine wl_end rfl ?_
    refine nm_sub [(4, _), (12, _)] ⟨rfl, rfl, trivial⟩ ?_
    refine nm_thn ?_
    refine ws_condFN CFaces_n10 rfl rfl rfl ?_
    refine ws_skip rfl ?_
    refine nm_sub [(4, _)] ⟨rfl, trivial⟩ ?_
    refine nm_thn ?_
    refine ws_seqN CFaces_n13 CFaces_n14 rfl rfl rfl ?_
    refine ws_region rfl ?_
    refine wl_op (k := 0) (k' := 1) rfl rfl rfl (wo_run rfl rfl (run_move rfl rfl) ?_)
    refine wl_op (k := 1) (k' := 2) rfl rfl rfl (wo_ct rfl rfl rfl rfl rfl rfl rfl cf66 S2 (InF.Faces_t d hsb8 hsc8 hsi8 hso8 hn hab S2.lend) ?_)
    intro vw3 w3 M2 hle2 S3 hRw3; clear S2
    replace hdcrs := hdcrs.mono (Hp.un_mono hle2 S3.mx)
    replace hsb8 := hsb8.mono hle2
    replace hsc8 := hsc8.mono hle2
    replace hsi8 := hsi8.mono hle2
    replace hso8 := hso8.mono hle2
    obtain ⟨A1, c1, vs1, rfl, hr1, hd1⟩ := hRw3
    have hlenfacesL := hd1.1
    refine wl_op (k := 2) (k' := 3) rfl rfl rfl (wo_run rfl rfl (run_assign rfl rfl) ?_)
    refine wl_op (k := 3) (k' := 4) rfl rfl rfl (wo_run rfl rfl (run_assign rfl rfl) ?_)
    refine wl_end rfl ?_
    refine nm_sub [(2, _), (3, _)] ⟨rfl, rfl, trivial⟩ ?_
    refine nm_thn ?_
    refine ws_ret hC [_, _] rfl rfl ⟨rfl, rfl, trivial⟩ ?_
    refine ⟨_, rfl, _, hle1.trans hle2, (S3.pick [] [] (by decide) trivial), ?_⟩
    have e0 : errF d = 0 := by unfold errF; rw [if_pos hmay8]
    have e1 : facesR d = facesL d := by unfold facesR; rw [if_pos hmay8]
    unfold FaR
    rw [e0, e1]
    exact ⟨_, _, _, rfl, hr1, hd1⟩

noncomputable def CPlanar_n0 : Code := Try.f33.body.getD .skip
noncomputable def CPlanar_n1 : Code := cL CPlanar_n0
noncomputable def CPlanar_n2 : Code := cR CPlanar_n0
noncomputable def CPlanar_n3 : Code := cL CPlanar_n2
noncomputable def CPlanar_n4 : Code := cR CPlanar_n2
noncomputable def CPlanar_n5 : Code := cL CPlanar_n4
noncomputable def CPlanar_n6 : Code := cR CPlanar_n4
noncomputable def CPlanar_n7 : Code := cL CPlanar_n5
noncomputable def CPlanar_n8 : Code := cR CPlanar_n5
noncomputable def CPlanar_n9 : Code := cL CPlanar_n8
noncomputable def CPlanar_n10 : Code := cR CPlanar_n8
noncomputable def CPlanar_n11 : Code := cL CPlanar_n9
noncomputable def CPlanar_n12 : Code := cR CPlanar_n9
noncomputable def CPlanar_n13 : Code := cL CPlanar_n6
noncomputable def CPlanar_n14 : Code := cR CPlanar_n6
set_option maxRecDepth 10000 in
theorem CPlanar_t {w : World} {M : Hp} {X : Fr} (d : Dg) {dcrsA : Option Addr} {dcrsc : Nat} (hdcrs : RdA cdCr (M.un X.h) dcrsA dcrsc d.crs) (S : SH w M X []) : Ct Try.prog 33 [.agg [.slice dcrsA d.crs.length dcrsc, .int .i64 d.loops].toArray] w M X (fun u _ => u = .tuple [.bool (mayB d && planP d), .int .i64 (errF d)].toArray) := by
  unfold Ct
  have rmhdcrs : d.crs.length * 40 ≤ 140737488355328 := hdcrs.room
  refine calls_in (b := CPlanar_n0) Try.func33 rfl Try.ntmps33 rfl (fun C hC => ?_)
  refine ws_sub [(0, _)] ⟨rfl, trivial⟩ ?_
  refine ws_seqN CPlanar_n1 CPlanar_n2 rfl rfl rfl ?_
  refine ws_region rfl ?_
  refine wl_op (k := 0) (k' := 1) rfl rfl rfl (wo_box (l := [_, _]) rfl rfl rfl rfl rfl S ?_)
  intro gb1 w1 S1; clear S
  refine wl_op (k := 1) (k' := 2) rfl rfl rfl (wo_run rfl rfl (run_assign rfl rfl) ?_)
  refine wl_op (k := 2) (k' := 3) rfl rfl rfl (wo_run rfl rfl (run_assign rfl rfl) ?_)
  refine wl_end rfl ?_
  refine nm_sub [(1, _)] ⟨rfl, trivial⟩ ?_
  refine nm_thn ?_
  refine ws_seqN CPlanar_n3 CPlanar_n4 rfl rfl rfl ?_
  refine ws_region rfl ?_
  refine wl_op (k := 0) (k' := 1) rfl rfl rfl (wo_run rfl rfl (run_loadN (us := [_, _]) rfl rfl Try.underlying27 rfl sz27 (S1.boxcs (i := 0) rfl ⟨rfl, rfl, trivial⟩)) ?_)
  refine wl_op (k := 1) (k' := 2) rfl rfl rfl (wo_ct rfl rfl rfl rfl rfl rfl rfl cf53 S1 (New_t d (hdcrs.mono S1.un_XH) S1.lend) ?_)
  intro vw2 w2 M1 hle1 S2 hRw2; clear S1
  replace hdcrs := hdcrs.mono (Hp.un_mono hle1 S2.mx)
  rcases hRw2 with ⟨hmay8, rfl⟩ | ⟨hmay8, g1, cA8, iA8, oA8, cc8, ic8, oc8, rfl, hsb8, hsc8, hsi8, hso8⟩
  · refine wl_op (k := 2) (k' := 3) rfl rfl rfl (wo_run rfl rfl (run_move rfl rfl) ?_)
    refine wl_op (k := 3) (k' := 4) rfl rfl rfl (wo_run rfl rfl (run_extract rfl rfl rfl) ?_)
    refine wl_op (k := 4) (k' := 5) rfl rfl rfl (wo_run rfl rfl (run_extract rfl rfl rfl) ?_)
    refine wl_op (k := 5) (k' := 6) rfl rfl rfl (wo_run rfl rfl (run_assign rfl rfl) ?_)
    refine wl_op (k := 6) (k' := 7) rfl rfl rfl (wo_run rfl rfl (run_assign rfl rfl) ?_)
    refine wl_end rfl ?_
    refine nm_sub [(4, _), (5, _)] ⟨rfl, rfl, trivial⟩ ?_
    refine nm_thn ?_
    refine ws_seqN CPlanar_n5 CPlanar_n6 rfl rfl rfl ?_
    refine ws_seqN CPlanar_n7 CPlanar_n8 rfl rfl rfl ?_
    refine ws_region rfl ?_
    refine wl_op (k := 0) (k' := 1) rfl rfl rfl (wo_run rfl rfl (run_move rfl rfl) ?_)
    refine wl_op (k := 1) (k' := 2) rfl rfl rfl (wo_run rfl rfl (run_not rfl rfl) ?_)
    refine wl_end rfl ?_
    refine nm_sub [(4, _), (12, _)] ⟨rfl, rfl, trivial⟩ ?_
    refine nm_thn ?_
    refine ws_condTN CPlanar_n9 rfl rfl rfl ?_
    refine ws_seqN CPlanar_n11 CPlanar_n12 rfl rfl rfl ?_
    refine ws_region rfl ?_
    refine wl_op (k := 0) (k' := 1) rfl rfl rfl (wo_run rfl rfl (run_assign rfl rfl) ?_)
    refine wl_op (k := 1) (k' := 2) rfl rfl rfl (wo_run rfl rfl (run_assign rfl rfl) ?_)
    refine wl_end rfl ?_
    refine nm_sub [(2, _), (3, _)] ⟨rfl, rfl, trivial⟩ ?_
    refine nm_thn ?_
    refine ws_ret hC [_, _] rfl rfl ⟨rfl, rfl, trivial⟩ ?_
    refine ⟨_, rfl, _, hle1, (S2.pick [] [] (by decide) trivial), ?_⟩
    have e0 : errF d = 7 := by unfold errF; rw [if_neg (by rw [hmay8]; exact Bool.false_ne_true)]
    rw [e0, hmay8]
    rfl
  · obtain ⟨hn, hab, hlo0, hlo1⟩ := mayO hmay8
    refine wl_op (k := 2) (k' := 3) rfl rfl rfl (wo_run rfl rfl (run_move rfl rfl) ?_)
    refine wl_op (k := 3) (k' := 4) rfl rfl rfl (wo_run rfl rfl (run_extract rfl rfl rfl) ?_)
    refine wl_op (k := 4) (k' := 5) rfl rfl rfl (wo_run rfl rfl (run_extract rfl rfl rfl) ?_)
    refine wl_op (k := 5) (k' := 6) rfl rfl rfl (wo_run rfl rfl (run_assign rfl rfl) ?_)
    refine wl_op (k := 6) (k' := 7) rfl rfl rfl (wo_run rfl rfl (run_assign rfl rfl) ?_)
    refine wl_end rfl ?_
    refine nm_sub [(4, _), (5, _)] ⟨rfl, rfl, trivial⟩ ?_
    refine nm_thn ?_
    refine ws_seqN CPlanar_n5 CPlanar_n6 rfl rfl rfl ?_
    refine ws_seqN CPlanar_n7 CPlanar_n8 rfl rfl rfl ?_
    refine ws_region rfl ?_
    refine wl_op (k := 0) (k' := 1) rfl rfl rfl (wo_run rfl rfl (run_move rfl rfl) ?_)
    refine wl_op (k := 1) (k' := 2) rfl rfl rfl (wo_run rfl rfl (run_not rfl rfl) ?_)
    refine wl_end rfl ?_
    refine nm_sub [(4, _), (12, _)] ⟨rfl, rfl, trivial⟩ ?_
    refine nm_thn ?_
    refine ws_condFN CPlanar_n10 rfl rfl rfl ?_
    refine ws_skip rfl ?_
    refine nm_sub [(4, _)] ⟨rfl, trivial⟩ ?_
    refine nm_thn ?_
    refine ws_seqN CPlanar_n13 CPlanar_n14 rfl rfl rfl ?_
    refine ws_region rfl ?_
    refine wl_op (k := 0) (k' := 1) rfl rfl rfl (wo_run rfl rfl (run_move rfl rfl) ?_)
    refine wl_op (k := 1) (k' := 2) rfl rfl rfl (wo_ct rfl rfl rfl rfl rfl rfl rfl cf67 S2 (Planar_t d hsb8 hsc8 hsi8 hso8 hn hab S2.lend) ?_)
    intro vw3 w3 M2 hle2 S3 hRw3; clear S2
    replace hdcrs := hdcrs.mono (Hp.un_mono hle2 S3.mx)
    replace hsb8 := hsb8.mono hle2
    replace hsc8 := hsc8.mono hle2
    replace hsi8 := hsi8.mono hle2
    replace hso8 := hso8.mono hle2
    obtain rfl := hRw3
    refine wl_op (k := 2) (k' := 3) rfl rfl rfl (wo_run rfl rfl (run_assign rfl rfl) ?_)
    refine wl_op (k := 3) (k' := 4) rfl rfl rfl (wo_run rfl rfl (run_assign rfl rfl) ?_)
    refine wl_end rfl ?_
    refine nm_sub [(2, _), (3, _)] ⟨rfl, rfl, trivial⟩ ?_
    refine nm_thn ?_
    refine ws_ret hC [_, _] rfl rfl ⟨rfl, rfl, trivial⟩ ?_
    refine ⟨_, rfl, _, hle1.trans hle2, (S3.pick [] [] (by decide) trivial), ?_⟩
    have e0 : errF d = 0 := by unfold errF; rw [if_pos hmay8]
    rw [e0, hmay8]
    rfl

noncomputable def CMay_n0 : Code := Try.f34.body.getD .skip
noncomputable def CMay_n1 : Code := cL CMay_n0
noncomputable def CMay_n2 : Code := cR CMay_n0
noncomputable def CMay_n3 : Code := cL CMay_n2
noncomputable def CMay_n4 : Code := cR CMay_n2
noncomputable def CMay_n5 : Code := cL CMay_n4
noncomputable def CMay_n6 : Code := cR CMay_n4
set_option maxRecDepth 10000 in
theorem CMay_t {w : World} {M : Hp} {X : Fr} (d : Dg) {dcrsA : Option Addr} {dcrsc : Nat} (hdcrs : RdA cdCr (M.un X.h) dcrsA dcrsc d.crs) (S : SH w M X []) : Ct Try.prog 34 [.agg [.slice dcrsA d.crs.length dcrsc, .int .i64 d.loops].toArray] w M X (fun u _ => u = .bool (mayB d)) := by
  unfold Ct
  have rmhdcrs : d.crs.length * 40 ≤ 140737488355328 := hdcrs.room
  refine calls_in (b := CMay_n0) Try.func34 rfl Try.ntmps34 rfl (fun C hC => ?_)
  refine ws_sub [(0, _)] ⟨rfl, trivial⟩ ?_
  refine ws_seqN CMay_n1 CMay_n2 rfl rfl rfl ?_
  refine ws_region rfl ?_
  refine wl_op (k := 0) (k' := 1) rfl rfl rfl (wo_box (l := [_, _]) rfl rfl rfl rfl rfl S ?_)
  intro gb1 w1 S1; clear S
  refine wl_op (k := 1) (k' := 2) rfl rfl rfl (wo_run rfl rfl (run_assign rfl rfl) ?_)
  refine wl_end rfl ?_
  refine nm_sub [(1, _)] ⟨rfl, trivial⟩ ?_
  refine nm_thn ?_
  refine ws_seqN CMay_n3 CMay_n4 rfl rfl rfl ?_
  refine ws_region rfl ?_
  refine wl_op (k := 0) (k' := 1) rfl rfl rfl (wo_run rfl rfl (run_loadN (us := [_, _]) rfl rfl Try.underlying27 rfl sz27 (S1.boxcs (i := 0) rfl ⟨rfl, rfl, trivial⟩)) ?_)
  refine wl_op (k := 1) (k' := 2) rfl rfl rfl (wo_ct rfl rfl rfl rfl rfl rfl rfl cf53 S1 (New_t d (hdcrs.mono S1.un_XH) S1.lend) ?_)
  intro vw2 w2 M1 hle1 S2 hRw2; clear S1
  replace hdcrs := hdcrs.mono (Hp.un_mono hle1 S2.mx)
  rcases hRw2 with ⟨hmay7, rfl⟩ | ⟨hmay7, g1, cA7, iA7, oA7, cc7, ic7, oc7, rfl, hsb7, hsc7, hsi7, hso7⟩
  · refine wl_op (k := 2) (k' := 3) rfl rfl rfl (wo_run rfl rfl (run_move rfl rfl) ?_)
    refine wl_op (k := 3) (k' := 4) rfl rfl rfl (wo_run rfl rfl (run_extract rfl rfl rfl) ?_)
    refine wl_op (k := 4) (k' := 5) rfl rfl rfl (wo_run rfl rfl (run_extract rfl rfl rfl) ?_)
    refine wl_op (k := 5) (k' := 6) rfl rfl rfl (wo_run rfl rfl (run_assign rfl rfl) ?_)
    refine wl_op (k := 6) (k' := 7) rfl rfl rfl (wo_run rfl rfl (run_assign rfl rfl) ?_)
    refine wl_end rfl ?_
    refine nm_sub [(4, _)] ⟨rfl, trivial⟩ ?_
    refine nm_thn ?_
    refine ws_seqN CMay_n5 CMay_n6 rfl rfl rfl ?_
    refine ws_region rfl ?_
    refine wl_op (k := 0) (k' := 1) rfl rfl rfl (wo_run rfl rfl (run_move rfl rfl) ?_)
    refine wl_op (k := 1) (k' := 2) rfl rfl rfl (wo_run rfl rfl (run_assign rfl rfl) ?_)
    refine wl_end rfl ?_
    refine nm_sub [(2, _)] ⟨rfl, trivial⟩ ?_
    refine nm_thn ?_
    refine ws_ret hC [_] rfl rfl ⟨rfl, trivial⟩ ?_
    refine ⟨_, rfl, _, hle1, (S2.pick [] [] (by decide) trivial), ?_⟩
    exact congrArg Value.bool hmay7.symm
  · obtain ⟨hn, hab, hlo0, hlo1⟩ := mayO hmay7
    refine wl_op (k := 2) (k' := 3) rfl rfl rfl (wo_run rfl rfl (run_move rfl rfl) ?_)
    refine wl_op (k := 3) (k' := 4) rfl rfl rfl (wo_run rfl rfl (run_extract rfl rfl rfl) ?_)
    refine wl_op (k := 4) (k' := 5) rfl rfl rfl (wo_run rfl rfl (run_extract rfl rfl rfl) ?_)
    refine wl_op (k := 5) (k' := 6) rfl rfl rfl (wo_run rfl rfl (run_assign rfl rfl) ?_)
    refine wl_op (k := 6) (k' := 7) rfl rfl rfl (wo_run rfl rfl (run_assign rfl rfl) ?_)
    refine wl_end rfl ?_
    refine nm_sub [(4, _)] ⟨rfl, trivial⟩ ?_
    refine nm_thn ?_
    refine ws_seqN CMay_n5 CMay_n6 rfl rfl rfl ?_
    refine ws_region rfl ?_
    refine wl_op (k := 0) (k' := 1) rfl rfl rfl (wo_run rfl rfl (run_move rfl rfl) ?_)
    refine wl_op (k := 1) (k' := 2) rfl rfl rfl (wo_run rfl rfl (run_assign rfl rfl) ?_)
    refine wl_end rfl ?_
    refine nm_sub [(2, _)] ⟨rfl, trivial⟩ ?_
    refine nm_thn ?_
    refine ws_ret hC [_] rfl rfl ⟨rfl, trivial⟩ ?_
    refine ⟨_, rfl, _, hle1, (S2.pick [] [] (by decide) trivial), ?_⟩
    exact congrArg Value.bool hmay7.symm

noncomputable def sameDarts_n0 : Code := Try.f35.body.getD .skip
noncomputable def sameDarts_n1 : Code := cL sameDarts_n0
noncomputable def sameDarts_n2 : Code := cR sameDarts_n0
noncomputable def sameDarts_n3 : Code := cL sameDarts_n2
noncomputable def sameDarts_n4 : Code := cR sameDarts_n2
noncomputable def sameDarts_n5 : Code := cL sameDarts_n3
noncomputable def sameDarts_n6 : Code := cR sameDarts_n3
noncomputable def sameDarts_n7 : Code := cL sameDarts_n6
noncomputable def sameDarts_n8 : Code := cR sameDarts_n6
noncomputable def sameDarts_n9 : Code := cL sameDarts_n4
noncomputable def sameDarts_n10 : Code := cR sameDarts_n4
noncomputable def sameDarts_n11 : Code := cL sameDarts_n9
noncomputable def sameDarts_n12 : Code := cR sameDarts_n9
noncomputable def sameDarts_n13 : Code := cL sameDarts_n12
noncomputable def sameDarts_n14 : Code := cL sameDarts_n13
noncomputable def sameDarts_n15 : Code := cL sameDarts_n14
noncomputable def sameDarts_n16 : Code := cR sameDarts_n14
noncomputable def sameDarts_n17 : Code := cL sameDarts_n15
noncomputable def sameDarts_n18 : Code := cR sameDarts_n15
noncomputable def sameDarts_n19 : Code := cL sameDarts_n18
noncomputable def sameDarts_n20 : Code := cR sameDarts_n18
noncomputable def sameDarts_n21 : Code := cL sameDarts_n16
noncomputable def sameDarts_n22 : Code := cR sameDarts_n16
noncomputable def sameDarts_n23 : Code := cL sameDarts_n21
noncomputable def sameDarts_n24 : Code := cL sameDarts_n23
noncomputable def sameDarts_n25 : Code := cR sameDarts_n23
noncomputable def sameDarts_n26 : Code := cL sameDarts_n24
noncomputable def sameDarts_n27 : Code := cR sameDarts_n24
noncomputable def sameDarts_n28 : Code := cL sameDarts_n27
noncomputable def sameDarts_n29 : Code := cR sameDarts_n27
noncomputable def sameDarts_n30 : Code := cL sameDarts_n25
noncomputable def sameDarts_n31 : Code := cR sameDarts_n25
noncomputable def sameDarts_n32 : Code := cL sameDarts_n31
noncomputable def sameDarts_n33 : Code := cL sameDarts_n32
noncomputable def sameDarts_n34 : Code := cL sameDarts_n33
noncomputable def sameDarts_n35 : Code := cR sameDarts_n33
noncomputable def sameDarts_n36 : Code := cL sameDarts_n34
noncomputable def sameDarts_n37 : Code := cR sameDarts_n34
noncomputable def sameDarts_n38 : Code := cL sameDarts_n37
noncomputable def sameDarts_n39 : Code := cR sameDarts_n37
noncomputable def sameDarts_n40 : Code := cL sameDarts_n35
noncomputable def sameDarts_n41 : Code := cR sameDarts_n35
noncomputable def sameDarts_n42 : Code := cL sameDarts_n40
noncomputable def sameDarts_n43 : Code := cL sameDarts_n42
noncomputable def sameDarts_n44 : Code := cR sameDarts_n42
noncomputable def sameDarts_n45 : Code := cL sameDarts_n44
noncomputable def sameDarts_n46 : Code := cR sameDarts_n44
noncomputable def sameDarts_n47 : Code := cL sameDarts_n10
noncomputable def sameDarts_n48 : Code := cR sameDarts_n10
set_option maxRecDepth 10000 in
theorem sameDarts_q {w : World} {M : Hp} {X : Fr} (p : List (List Da)) {pA : Option Addr} {pc : Nat} {pv : List SlV} (q : List (List Da)) {qA : Option Addr} {qc : Nat} {qv : List SlV} (hp : RdA (cdV 100) (M.un X.h) pA pc pv) (hdp : Rd2 cdDa (M.un X.h) pv p) (hq : RdA (cdV 100) (M.un X.h) qA qc qv) (hdq : Rd2 cdDa (M.un X.h) qv q) (he : p = q) (S : SH w M X []) : Cq Try.prog 35 [.slice pA pv.length pc, .slice qA qv.length qc] w M X (fun u => u = .bool true) := by
  unfold Cq
  have rmhp : pv.length * 24 ≤ 140737488355328 := hp.room
  have rmhq : qv.length * 24 ≤ 140737488355328 := hq.room
  have hle : p.length = q.length := by rw [he]
  have hlp := hdp.1
  have hlq := hdq.1
  have hge : ∀ j, (ga p j).length = (ga q j).length := fun j => by rw [he]
  refine calls_in (b := sameDarts_n0) Try.func35 rfl Try.ntmps35 rfl (fun C hC => ?_)
  refine ws_sub [(0, _), (1, _)] ⟨rfl, rfl, trivial⟩ ?_
  refine ws_seqN sameDarts_n1 sameDarts_n2 rfl rfl rfl ?_
  refine ws_region rfl ?_
  refine wl_op (k := 0) (k' := 1) rfl rfl rfl (wo_run rfl rfl (run_assign rfl rfl) ?_)
  refine wl_end rfl ?_
  refine nm_sub [(0, _), (1, _)] ⟨rfl, rfl, trivial⟩ ?_
  refine nm_thn ?_
  refine ws_seqN sameDarts_n3 sameDarts_n4 rfl rfl rfl ?_
  refine ws_seqN sameDarts_n5 sameDarts_n6 rfl rfl rfl ?_
  refine ws_region rfl ?_
  refine wl_op (k := 0) (k' := 1) rfl rfl rfl (wo_run rfl rfl (run_move rfl rfl) ?_)
  refine wl_op (k := 1) (k' := 2) rfl rfl rfl (wo_run rfl rfl (run_len rfl rfl rfl rfl rfl rfl Try.underlying54) ?_)
  refine wl_op (k := 2) (k' := 3) rfl rfl rfl (wo_run rfl rfl (run_move rfl rfl) ?_)
  refine wl_op (k := 3) (k' := 4) rfl rfl rfl (wo_run rfl rfl (run_len rfl rfl rfl rfl rfl rfl Try.underlying54) ?_)
  refine wl_op (k := 4) (k' := 5) rfl rfl rfl (wo_run rfl rfl (run_neq rfl rfl rfl) ?_)
  refine wl_end rfl ?_
  refine nm_sub [(0, _), (1, _), (11, _)] ⟨rfl, rfl, rfl, trivial⟩ ?_
  refine nm_thn ?_
  refine ws_condN sameDarts_n7 sameDarts_n8 rfl rfl rfl rfl (fun hb11 => ?_) (fun hb11 => ?_)
  · have hb11 := of_decide_eq_true hb11
    exfalso; omega
  · have hb11 := of_decide_eq_false hb11
    refine ws_skip rfl ?_
    refine nm_sub [(0, _), (1, _)] ⟨rfl, rfl, trivial⟩ ?_
    refine nm_thn ?_
    refine ws_seqN sameDarts_n9 sameDarts_n10 rfl rfl rfl ?_
    refine ws_seqN sameDarts_n11 sameDarts_n12 rfl rfl rfl ?_
    refine ws_region rfl ?_
    refine wl_op (k := 0) (k' := 1) rfl rfl rfl (wo_run rfl rfl (run_assign rfl rfl) ?_)
    refine wl_end rfl ?_
    refine nm_thn ?_
    refine ws_blockN sameDarts_n13 0 rfl rfl rfl ?_
    refine ws_loopE (fun mx_ ax_ wx_ => ∃ (i : Nat), mx_ = pv.length - i ∧ Env 53 [(0, .slice pA pv.length pc), (1, .slice qA qv.length qc), (5, .int .i64 (i : Int))] ax_ ∧ SH wx_ M X [] ∧ i ≤ pv.length) rfl ?_ ?_
    · intro ax_ hax_
      refine ⟨_, ⟨0, rfl, hax_.sub ⟨rfl, rfl, rfl, trivial⟩, S.pick [] [] (by decide) trivial, ?hq1f0⟩⟩
      case hq1f0 => omega
    · rintro m1 a1 w1 ⟨i, rfl, he1, S1, hi⟩
      clear S
      refine ws_in he1 (c := sameDarts_n14) rfl ?_
      clear he1 a1
      refine ws_seqN sameDarts_n15 sameDarts_n16 rfl rfl rfl ?_
      refine ws_seqN sameDarts_n17 sameDarts_n18 rfl rfl rfl ?_
      refine ws_region rfl ?_
      refine wl_op (k := 0) (k' := 1) rfl rfl rfl (wo_run rfl rfl (run_move rfl rfl) ?_)
      refine wl_op (k := 1) (k' := 2) rfl rfl rfl (wo_run rfl rfl (run_move rfl rfl) ?_)
      refine wl_op (k := 2) (k' := 3) rfl rfl rfl (wo_run rfl rfl (run_len rfl rfl rfl rfl rfl rfl Try.underlying54) ?_)
      refine wl_op (k := 3) (k' := 4) rfl rfl rfl (wo_run rfl rfl (run_lss rfl rfl rfl) ?_)
      refine wl_end rfl ?_
      refine nm_sub [(0, _), (1, _), (5, _), (15, _)] ⟨rfl, rfl, rfl, rfl, trivial⟩ ?_
      refine nm_thn ?_
      refine ws_condN sameDarts_n19 sameDarts_n20 rfl rfl rfl rfl (fun hb15 => ?_) (fun hb15 => ?_)
      · have hb15 := of_decide_eq_true hb15
        have hgi := hge i
        refine ws_skip rfl ?_
        refine nm_sub [(0, _), (1, _), (5, _)] ⟨rfl, rfl, rfl, trivial⟩ ?_
        refine nm_thn ?_
        refine ws_seqN sameDarts_n21 sameDarts_n22 rfl rfl rfl ?_
        refine ws_blockN sameDarts_n23 1 rfl rfl rfl ?_
        refine ws_seqN sameDarts_n24 sameDarts_n25 rfl rfl rfl ?_
        refine ws_seqN sameDarts_n26 sameDarts_n27 rfl rfl rfl ?_
        refine ws_draw rfl (by kernel_rfl) S1 11 rfl ?_
        clear S1
        refine wa_takeP (i := 0) (d := 18) 10 rfl (by kernel_rfl) (by kernel_rfl) (by kernel_rfl) rfl rfl rfl (fun w2 => run_move rfl rfl) ?_
        refine wa_takeP (i := 1) (d := 19) 9 rfl (by kernel_rfl) (by kernel_rfl) (by kernel_rfl) rfl rfl rfl (fun w3 => run_move rfl rfl) ?_
        refine wa_take (i := 2) (d := 20) 8 rfl (by kernel_rfl) (by kernel_rfl) (by kernel_rfl) rfl rfl rfl (fun M3 N3 w4 hle4 S4 => .inl (run_indexM (C := (cdV 100)) i rfl rfl rfl sl54 (by first | rfl | omega) (hp.mono (Hp.un_mono hle4 S4.mx)) (by first | omega | (simp only [List.length_set, List.length_append, List.length_replicate, List.length_singleton, List.length_cons, List.length_nil]; omega)))) ?_
        obtain ⟨hn1, hr1⟩ := hdp.2 i (by first | omega | (simp only [List.length_set, List.length_append, List.length_replicate, List.length_singleton, List.length_cons, List.length_nil]; omega))
        have rmhr1 : (ga p i).length * 16 ≤ 140737488355328 := hr1.room
        refine wa_take (i := 3) (d := 21) 7 rfl (by kernel_rfl) (by kernel_rfl) (by kernel_rfl) rfl rfl rfl (fun M4 N4 w5 hle5 S5 => .inl (run_load1 rfl rfl Try.underlying100 rfl ((hp.mono (Hp.un_mono hle5 S5.mx)).cell S5.um (i := i) (by first | omega | (simp only [List.length_set, List.length_append, List.length_replicate, List.length_singleton, List.length_cons, List.length_nil]; omega)) 0 rfl (congrArg (fun n => some (Value.slice _ n _)) hn1)))) ?_
        refine wa_take (i := 4) (d := 22) 6 rfl (by kernel_rfl) (by kernel_rfl) (by kernel_rfl) rfl rfl rfl (fun M5 N5 w6 hle6 S6 => .inl (run_len rfl rfl rfl rfl rfl rfl Try.underlying100)) ?_
        refine wa_takeP (i := 5) (d := 23) 5 rfl (by kernel_rfl) (by kernel_rfl) (by kernel_rfl) rfl rfl rfl (fun w7 => run_move rfl rfl) ?_
        refine wa_takeP (i := 6) (d := 24) 4 rfl (by kernel_rfl) (by kernel_rfl) (by kernel_rfl) rfl rfl rfl (fun w8 => run_move rfl rfl) ?_
        refine wa_take (i := 7) (d := 25) 3 rfl (by kernel_rfl) (by kernel_rfl) (by kernel_rfl) rfl rfl rfl (fun M8 N8 w9 hle9 S9 => .inl (run_indexM (C := (cdV 100)) i rfl rfl rfl sl54 (by first | rfl | omega) (hq.mono (Hp.un_mono hle9 S9.mx)) (by first | omega | (simp only [List.length_set, List.length_append, List.length_replicate, List.length_singleton, List.length_cons, List.length_nil]; omega)))) ?_
        obtain ⟨hn2, hr2⟩ := hdq.2 i (by first | omega | (simp only [List.length_set, List.length_append, List.length_replicate, List.length_singleton, List.length_cons, List.length_nil]; omega))
        have rmhr2 : (ga q i).length * 16 ≤ 140737488355328 := hr2.room
        refine wa_take (i := 8) (d := 26) 2 rfl (by kernel_rfl) (by kernel_rfl) (by kernel_rfl) rfl rfl rfl (fun M9 N9 w10 hle10 S10 => .inl (run_load1 rfl rfl Try.underlying100 rfl ((hq.mono (Hp.un_mono hle10 S10.mx)).cell S10.um (i := i) (by first | omega | (simp only [List.length_set, List.length_append, List.length_replicate, List.length_singleton, List.length_cons, List.length_nil]; omega)) 0 rfl (congrArg (fun n => some (Value.slice _ n _)) hn2)))) ?_
        refine wa_take (i := 9) (d := 27) 1 rfl (by kernel_rfl) (by kernel_rfl) (by kernel_rfl) rfl rfl rfl (fun M10 N10 w11 hle11 S11 => .inl (run_len rfl rfl rfl rfl rfl rfl Try.underlying100)) ?_
        refine wa_takeP (i := 10) (d := 28) 0 rfl (by kernel_rfl) (by kernel_rfl) (by kernel_rfl) rfl rfl rfl (fun w12 => run_neq rfl rfl rfl) ?_
        refine wa_end (by kernel_rfl) (fun w13 S13 => ?_)
        refine nm_sub [(0, _), (1, _), (5, _), (28, _)] ⟨rfl, rfl, rfl, rfl, trivial⟩ ?_
        refine nm_thn ?_
        refine ws_condN sameDarts_n28 sameDarts_n29 rfl rfl rfl rfl (fun hb28 => ?_) (fun hb28 => ?_)
        · have hb28 := of_decide_eq_true hb28
          exfalso; omega
        · have hb28 := of_decide_eq_false hb28
          refine ws_skip rfl ?_
          refine nm_sub [(0, _), (1, _), (5, _)] ⟨rfl, rfl, rfl, trivial⟩ ?_
          refine nm_thn ?_
          refine ws_seqN sameDarts_n30 sameDarts_n31 rfl rfl rfl ?_
          refine ws_region rfl ?_
          refine wl_op (k := 0) (k' := 1) rfl rfl rfl (wo_run rfl rfl (run_assign rfl rfl) ?_)
          refine wl_end rfl ?_
          refine nm_thn ?_
          refine ws_blockN sameDarts_n32 2 rfl rfl rfl ?_
          refine ws_loopE (fun mx_ ax_ wx_ => ∃ (k : Nat), mx_ = (ga p i).length - k ∧ Env 53 [(0, .slice pA pv.length pc), (1, .slice qA qv.length qc), (5, .int .i64 (i : Int)), (6, .int .i64 (k : Int))] ax_ ∧ SH wx_ M X [] ∧ k ≤ (ga p i).length) rfl ?_ ?_
          · intro ax_ hax_
            refine ⟨_, ⟨0, rfl, hax_.sub ⟨rfl, rfl, rfl, rfl, trivial⟩, S13.pick [] [] (by decide) trivial, ?hq2f0⟩⟩
            case hq2f0 => omega
          · rintro m2 a2 w14 ⟨k, rfl, he2, S14, hk⟩
            clear S13
            refine ws_in he2 (c := sameDarts_n33) rfl ?_
            clear he2 a2
            refine ws_seqN sameDarts_n34 sameDarts_n35 rfl rfl rfl ?_
            refine ws_seqN sameDarts_n36 sameDarts_n37 rfl rfl rfl ?_
            refine ws_region rfl ?_
            refine wl_op (k := 0) (k' := 1) rfl rfl rfl (wo_run rfl rfl (run_move rfl rfl) ?_)
            refine wl_op (k := 1) (k' := 2) rfl rfl rfl (wo_run rfl rfl (run_move rfl rfl) ?_)
            refine wl_op (k := 2) (k' := 3) rfl rfl rfl (wo_run rfl rfl (run_move rfl rfl) ?_)
            refine wl_op (k := 3) (k' := 4) rfl rfl rfl (wo_run rfl rfl (run_indexM (C := (cdV 100)) i rfl rfl rfl sl54 (by first | rfl | omega) hp (by first | omega | (simp only [List.length_set, List.length_append, List.length_replicate, List.length_singleton, List.length_cons, List.length_nil]; omega))) ?_)
            obtain ⟨hn3, hr3⟩ := hdp.2 i (by first | omega | (simp only [List.length_set, List.length_append, List.length_replicate, List.length_singleton, List.length_cons, List.length_nil]; omega))
            have rmhr3 : (ga p i).length * 16 ≤ 140737488355328 := hr3.room
            refine wl_op (k := 4) (k' := 5) rfl rfl rfl (wo_run rfl rfl (run_load1 rfl rfl Try.underlying100 rfl (hp.cell S14.um (i := i) (by first | omega | (simp only [List.length_set, List.length_append, List.length_replicate, List.length_singleton, List.length_cons, List.length_nil]; omega)) 0 rfl (congrArg (fun n => some (Value.slice _ n _)) hn3))) ?_)
            refine wl_op (k := 5) (k' := 6) rfl rfl rfl (wo_run rfl rfl (run_len rfl rfl rfl rfl rfl rfl Try.underlying100) ?_)
            refine wl_op (k := 6) (k' := 7) rfl rfl rfl (wo_run rfl rfl (run_lss rfl rfl rfl) ?_)
            refine wl_end rfl ?_
            refine nm_sub [(0, _), (1, _), (5, _), (6, _), (35, _)] ⟨rfl, rfl, rfl, rfl, rfl, trivial⟩ ?_
            refine nm_thn ?_
            refine ws_condN sameDarts_n38 sameDarts_n39 rfl rfl rfl rfl (fun hb35 => ?_) (fun hb35 => ?_)
            · have hb35 := of_decide_eq_true hb35
              refine ws_skip rfl ?_
              refine nm_sub [(0, _), (1, _), (5, _), (6, _)] ⟨rfl, rfl, rfl, rfl, trivial⟩ ?_
              refine nm_thn ?_
              refine ws_seqN sameDarts_n40 sameDarts_n41 rfl rfl rfl ?_
              refine ws_blockN sameDarts_n42 3 rfl rfl rfl ?_
              refine ws_seqN sameDarts_n43 sameDarts_n44 rfl rfl rfl ?_
              refine ws_draw rfl (by kernel_rfl) S14 15 rfl ?_
              clear S14
              refine wa_takeP (i := 0) (d := 38) 14 rfl (by kernel_rfl) (by kernel_rfl) (by kernel_rfl) rfl rfl rfl (fun w15 => run_move rfl rfl) ?_
              refine wa_takeP (i := 1) (d := 39) 13 rfl (by kernel_rfl) (by kernel_rfl) (by kernel_rfl) rfl rfl rfl (fun w16 => run_move rfl rfl) ?_
              refine wa_take (i := 2) (d := 40) 12 rfl (by kernel_rfl) (by kernel_rfl) (by kernel_rfl) rfl rfl rfl (fun M14 N14 w17 hle16 S17 => .inl (run_indexM (C := (cdV 100)) i rfl rfl rfl sl54 (by first | rfl | omega) (hp.mono (Hp.un_mono hle16 S17.mx)) (by first | omega | (simp only [List.length_set, List.length_append, List.length_replicate, List.length_singleton, List.length_cons, List.length_nil]; omega)))) ?_
              obtain ⟨hn4, hr4⟩ := hdp.2 i (by first | omega | (simp only [List.length_set, List.length_append, List.length_replicate, List.length_singleton, List.length_cons, List.length_nil]; omega))
              have rmhr4 : (ga p i).length * 16 ≤ 140737488355328 := hr4.room
              refine wa_take (i := 3) (d := 41) 11 rfl (by kernel_rfl) (by kernel_rfl) (by kernel_rfl) rfl rfl rfl (fun M15 N15 w18 hle17 S18 => .inl (run_load1 rfl rfl Try.underlying100 rfl ((hp.mono (Hp.un_mono hle17 S18.mx)).cell S18.um (i := i) (by first | omega | (simp only [List.length_set, List.length_append, List.length_replicate, List.length_singleton, List.length_cons, List.length_nil]; omega)) 0 rfl (congrArg (fun n => some (Value.slice _ n _)) hn4)))) ?_
              refine wa_takeP (i := 4) (d := 42) 10 rfl (by kernel_rfl) (by kernel_rfl) (by kernel_rfl) rfl rfl rfl (fun w19 => run_move rfl rfl) ?_
              refine wa_take (i := 5) (d := 43) 9 rfl (by kernel_rfl) (by kernel_rfl) (by kernel_rfl) rfl rfl rfl (fun M17 N17 w20 hle19 S20 => .inl (run_indexM (C := cdDa) k rfl rfl rfl sl100 (by first | rfl | omega) (hr4.mono (Hp.un_mono hle19 S20.mx)) (by first | omega | (simp only [List.length_set, List.length_append, List.length_replicate, List.length_singleton, List.length_cons, List.length_nil]; omega)))) ?_
              refine wa_take (i := 6) (d := 44) 8 rfl (by kernel_rfl) (by kernel_rfl) (by kernel_rfl) rfl rfl rfl (fun M18 N18 w21 hle20 S21 => .inl (run_loadN (us := [_, _]) rfl rfl Try.underlying102 rfl sz102 ((hr4.mono (Hp.un_mono hle20 S21.mx)).cellsAt S21.um (e := k) (by first | omega | (simp only [List.length_set, List.length_append, List.length_replicate, List.length_singleton, List.length_cons, List.length_nil]; omega)) (j := 0) ⟨rfl, rfl, trivial⟩))) ?_
              refine wa_takeP (i := 7) (d := 45) 7 rfl (by kernel_rfl) (by kernel_rfl) (by kernel_rfl) rfl rfl rfl (fun w22 => run_move rfl rfl) ?_
              refine wa_takeP (i := 8) (d := 46) 6 rfl (by kernel_rfl) (by kernel_rfl) (by kernel_rfl) rfl rfl rfl (fun w23 => run_move rfl rfl) ?_
              refine wa_take (i := 9) (d := 47) 5 rfl (by kernel_rfl) (by kernel_rfl) (by kernel_rfl) rfl rfl rfl (fun M21 N21 w24 hle23 S24 => .inl (run_indexM (C := (cdV 100)) i rfl rfl rfl sl54 (by first | rfl | omega) (hq.mono (Hp.un_mono hle23 S24.mx)) (by first | omega | (simp only [List.length_set, List.length_append, List.length_replicate, List.length_singleton, List.length_cons, List.length_nil]; omega)))) ?_
              obtain ⟨hn5, hr5⟩ := hdq.2 i (by first | omega | (simp only [List.length_set, List.length_append, List.length_replicate, List.length_singleton, List.length_cons, List.length_nil]; omega))
              have rmhr5 : (ga q i).length * 16 ≤ 140737488355328 := hr5.room
              refine wa_take (i := 10) (d := 48) 4 rfl (by kernel_rfl) (by kernel_rfl) (by kernel_rfl) rfl rfl rfl (fun M22 N22 w25 hle24 S25 => .inl (run_load1 rfl rfl Try.underlying100 rfl ((hq.mono (Hp.un_mono hle24 S25.mx)).cell S25.um (i := i) (by first | omega | (simp only [List.length_set, List.length_append, List.length_replicate, List.length_singleton, List.length_cons, List.length_nil]; omega)) 0 rfl (congrArg (fun n => some (Value.slice _ n _)) hn5)))) ?_
              refine wa_takeP (i := 11) (d := 49) 3 rfl (by kernel_rfl) (by kernel_rfl) (by kernel_rfl) rfl rfl rfl (fun w26 => run_move rfl rfl) ?_
              refine wa_take (i := 12) (d := 50) 2 rfl (by kernel_rfl) (by kernel_rfl) (by kernel_rfl) rfl rfl rfl (fun M24 N24 w27 hle26 S27 => .inl (run_indexM (C := cdDa) k rfl rfl rfl sl100 (by first | rfl | omega) (hr5.mono (Hp.un_mono hle26 S27.mx)) (by first | omega | (simp only [List.length_set, List.length_append, List.length_replicate, List.length_singleton, List.length_cons, List.length_nil]; omega)))) ?_
              refine wa_take (i := 13) (d := 51) 1 rfl (by kernel_rfl) (by kernel_rfl) (by kernel_rfl) rfl rfl rfl (fun M25 N25 w28 hle27 S28 => .inl (run_loadN (us := [_, _]) rfl rfl Try.underlying102 rfl sz102 ((hr5.mono (Hp.un_mono hle27 S28.mx)).cellsAt S28.um (e := k) (by first | omega | (simp only [List.length_set, List.length_append, List.length_replicate, List.length_singleton, List.length_cons, List.length_nil]; omega)) (j := 0) ⟨rfl, rfl, trivial⟩))) ?_
              refine wa_takeP (i := 14) (d := 52) 0 rfl (by kernel_rfl) (by kernel_rfl) (by kernel_rfl) rfl rfl rfl (fun w29 => run_neSt (Q := ((ga (ga p i) k).a) = ((ga (ga q i) k).a) ∧ ((ga (ga p i) k).b) = ((ga (ga q i) k).b)) rfl rfl rfl se102 ⟨_, _, _, _, rfl, rfl, ⟨_, _, rfl, rfl, rfl⟩, rfl⟩) ?_
              refine wa_end (by kernel_rfl) (fun w30 S30 => ?_)
              refine nm_sub [(0, _), (1, _), (5, _), (6, _), (52, _)] ⟨rfl, rfl, rfl, rfl, rfl, trivial⟩ ?_
              refine nm_thn ?_
              refine ws_condN sameDarts_n45 sameDarts_n46 rfl rfl rfl rfl (fun hb52 => ?_) (fun hb52 => ?_)
              · have hb52 := of_decide_eq_true hb52
                exfalso; exact hb52 (by rw [he]; exact ⟨rfl, rfl⟩)
              · have hb52 := of_decide_eq_false hb52
                refine ws_skip rfl ?_
                refine nm_blk ?_
                refine nm_sub [(0, _), (1, _), (5, _), (6, _)] ⟨rfl, rfl, rfl, rfl, trivial⟩ ?_
                refine nm_thn ?_
                refine ws_region rfl ?_
                refine wl_op (k := 0) (k' := 1) rfl rfl rfl (wo_run rfl rfl (run_move rfl rfl) ?_)
                refine wl_op (k := 1) (k' := 2) rfl rfl rfl (wo_run rfl rfl (run_add rfl rfl rfl (by first | omega | (simp only [List.length_set, List.length_append, List.length_replicate, List.length_singleton, List.length_cons, List.length_nil]; omega))) ?_)
                refine wl_op (k := 2) (k' := 3) rfl rfl rfl (wo_run rfl rfl (run_assign rfl rfl) ?_)
                refine wl_end rfl ?_
                refine nm_lp ?_
                intro ax_ hax_
                refine ⟨_, ?hq3m, ⟨k + 1, rfl, hax_.sub ⟨rfl, rfl, rfl, rfl, trivial⟩, S30.pick [] [] (by decide) trivial, ?hq3f0⟩⟩
                case hq3f0 => omega
                case hq3m => omega
            · have hb35 := of_decide_eq_false hb35
              refine ws_exit rfl rfl ?_
              refine nm_blk ?_
              refine nm_sub [(0, _), (1, _), (5, _)] ⟨rfl, rfl, rfl, trivial⟩ ?_
              refine nm_thn ?_
              refine ws_region rfl ?_
              refine wl_op (k := 0) (k' := 1) rfl rfl rfl (wo_run rfl rfl (run_move rfl rfl) ?_)
              refine wl_op (k := 1) (k' := 2) rfl rfl rfl (wo_run rfl rfl (run_add rfl rfl rfl (by first | omega | (simp only [List.length_set, List.length_append, List.length_replicate, List.length_singleton, List.length_cons, List.length_nil]; omega))) ?_)
              refine wl_op (k := 2) (k' := 3) rfl rfl rfl (wo_run rfl rfl (run_assign rfl rfl) ?_)
              refine wl_end rfl ?_
              refine nm_lp ?_
              intro ax_ hax_
              refine ⟨_, ?hq4m, ⟨i + 1, rfl, hax_.sub ⟨rfl, rfl, rfl, trivial⟩, S14.pick [] [] (by decide) trivial, ?hq4f0⟩⟩
              case hq4f0 => omega
              case hq4m => omega
      · have hb15 := of_decide_eq_false hb15
        refine ws_exit rfl rfl ?_
        refine nm_sub [] trivial ?_
        refine nm_thn ?_
        refine ws_seqN sameDarts_n47 sameDarts_n48 rfl rfl rfl ?_
        refine ws_region rfl ?_
        refine wl_op (k := 0) (k' := 1) rfl rfl rfl (wo_run rfl rfl (run_assign rfl rfl) ?_)
        refine wl_end rfl ?_
        refine nm_thn ?_
        refine ws_ret hC [_] rfl rfl ⟨rfl, trivial⟩ ?_
        exact ⟨_, rfl, (S1.pick [] [] (by decide) trivial), rfl⟩

end Go.Proofs.Ytlbpgnimpcflaaa
