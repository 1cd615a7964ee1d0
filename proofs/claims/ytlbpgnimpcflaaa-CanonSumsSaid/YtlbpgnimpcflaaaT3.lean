/- Walks printed by eng.py. -/
import Derived.Test.YtlbpgnimpcflaaaT2
namespace Go.Proofs.Ytlbpgnimpcflaaa
set_option linter.unusedSimpArgs false
set_option linter.unusedVariables false
open Go.ChangeShapes Go.WideShapes Go.ChangeAt Go.RowKit
def DgR (d : Dg) (u : Value) (M : Hp) : Prop := ∃ A c, u = .agg [.slice A d.crs.length c, .int .i64 d.loops].toArray ∧ RdA cdCr M A c d.crs

noncomputable def DiagramOf_n0 : Code := Try.f16.body.getD .skip
noncomputable def DiagramOf_n1 : Code := cL DiagramOf_n0
noncomputable def DiagramOf_n2 : Code := cR DiagramOf_n0
noncomputable def DiagramOf_n3 : Code := cL DiagramOf_n2
noncomputable def DiagramOf_n4 : Code := cR DiagramOf_n2
noncomputable def DiagramOf_n5 : Code := cL DiagramOf_n4
noncomputable def DiagramOf_n6 : Code := cR DiagramOf_n4
set_option maxRecDepth 10000 in
theorem DiagramOf_t {w : World} {M : Hp} {X : Fr} (d : Dg) {dcrsA : Option Addr} {dcrsc : Nat} (hdcrs : RdA cdCr (M.un X.h) dcrsA dcrsc d.crs) (S : SH w M X []) : Ct Try.prog 16 [.agg [.slice dcrsA d.crs.length dcrsc, .int .i64 d.loops].toArray] w M X (DgR d) := by
  unfold Ct
  have hroom : d.crs.length * 40 ≤ 140737488355328 := hdcrs.room
  refine calls_in (b := DiagramOf_n0) Try.func16 rfl Try.ntmps16 rfl (fun C hC => ?_)
  refine ws_sub [(0, _)] ⟨rfl, trivial⟩ ?_
  refine ws_seqN DiagramOf_n1 DiagramOf_n2 rfl rfl rfl ?_
  refine ws_region rfl ?_
  refine wl_op (k := 0) (k' := 1) rfl rfl rfl (wo_box (l := [_, _]) rfl rfl rfl rfl rfl S ?_)
  intro gb1 w1 S1; clear S
  refine wl_op (k := 1) (k' := 2) rfl rfl rfl (wo_alloc (l := [_, _]) rfl rfl rfl zr27 rfl S1 ?_)
  intro gb2 w2 S2; clear S1
  refine wl_end rfl ?_
  refine nm_sub [(1, _), (2, _)] ⟨rfl, rfl, trivial⟩ ?_
  refine nm_thn ?_
  refine ws_seqN DiagramOf_n3 DiagramOf_n4 rfl rfl rfl ?_
  refine ws_region rfl ?_
  refine wl_op (k := 0) (k' := 1) rfl rfl rfl (wo_run rfl rfl (run_fieldAddr rfl rfl Try.underlying27 rfl (ce25) (nf25)) ?_)
  refine wl_op (k := 1) (k' := 2) rfl rfl rfl (wo_run rfl rfl (run_load1 rfl rfl Try.underlying25 rfl (S2.boxc (i := 1) rfl rfl)) ?_)
  have S3 := S2.nilrow cdCr; clear S2
  refine wl_op (k := 2) (k' := 3) rfl rfl rfl (wo_appendM (C := cdCr) (i := 0) rfl rfl rfl rfl rfl rfl rfl rfl sl25 S3 rfl hdcrs S3.um (by have h : _ * 40 ≤ _ := hdcrs.room; show (0 + _) * 40 ≤ _; first | omega | (simp only [List.length_set, List.length_append, List.length_replicate, List.length_singleton, List.length_cons, List.length_nil]; omega)) ?_)
  intro vr2 w3 S4; clear S3
  change SH _ _ _ [Rs.row cdCr vr2 d.crs, _, _] at S4
  refine wl_op (k := 3) (k' := 4) rfl rfl rfl (wo_run rfl rfl (run_fieldAddr rfl rfl Try.underlying27 rfl (ce25) (nf25)) ?_)
  refine wl_op (k := 4) (k' := 5) rfl rfl rfl (wo_storeB (i := 2) (us := [_]) (l' := [_, _]) (H' := [_, _, _]) rfl rfl S4 rfl rfl rfl (S4.cells1 (i := 0) rfl) sz25 rfl (ones_cons (S4.one (i := 0) rfl) rfl) rfl rfl ?_)
  intro w4 S5; clear S4
  refine wl_end rfl ?_
  refine nm_sub [(1, _), (2, _)] ⟨rfl, rfl, trivial⟩ ?_
  refine nm_thn ?_
  refine ws_seqN DiagramOf_n5 DiagramOf_n6 rfl rfl rfl ?_
  refine ws_region rfl ?_
  refine wl_op (k := 0) (k' := 1) rfl rfl rfl (wo_run rfl rfl (run_loadN (us := [_, _]) rfl rfl Try.underlying27 rfl sz27 (S5.boxcs (i := 2) rfl ⟨rfl, rfl, trivial⟩)) ?_)
  refine wl_op (k := 1) (k' := 2) rfl rfl rfl (wo_storeB (i := 1) (us := [_, _]) (l' := [_, _]) (H' := [_, _, _]) rfl rfl S5 rfl rfl rfl rfl sz27 rfl (ones_cons (S5.one (i := 0) rfl) (ones_cons rfl rfl)) rfl rfl ?_)
  intro w5 S6; clear S5
  refine wl_end rfl ?_
  refine nm_sub [(2, _)] ⟨rfl, trivial⟩ ?_
  refine nm_thn ?_
  obtain ⟨M1, hle1, S7, ⟨A1, c1, e1, hr1⟩⟩ := S6.pubrow (i := 0) (H' := [_, _, _]) rfl rfl (by show _ * 40 ≤ _; first | omega | (simp only [List.length_set, List.length_append, List.length_replicate, List.length_singleton, List.length_cons, List.length_nil]; omega))
  clear S6; subst e1
  replace hdcrs := hdcrs.mono (Hp.un_mono hle1 S7.mx)
  refine ws_ret hC [_] rfl rfl ⟨⟨_, rfl, loadVarN (us := [_, _]) Try.underlying27 rfl sz27 (S7.boxcs (i := 1) rfl ⟨rfl, rfl, trivial⟩)⟩, trivial⟩ ?_
  refine ⟨_, rfl, _, hle1, (S7.pick [] [] (by decide) trivial), ?_⟩
  exact ⟨_, _, rfl, hr1⟩

def sumP (a b : Dg) (x y : Int) : Dg × Int := if mayB a && mayB b then sumR a b x y else (⟨[], 0⟩, 7)
theorem may_loops {d : Dg} (h : mayB d = true) : 0 ≤ d.loops ∧ d.loops ≤ 16 := by
  rw [mayB_arcs, Bool.and_eq_true, decide_eq_true_iff] at h
  exact ⟨h.1.2.1, h.1.2.2.1⟩

noncomputable def Sum_n0 : Code := Try.f15.body.getD .skip
noncomputable def Sum_n1 : Code := cL Sum_n0
noncomputable def Sum_n2 : Code := cR Sum_n0
noncomputable def Sum_n3 : Code := cL Sum_n2
noncomputable def Sum_n4 : Code := cR Sum_n2
noncomputable def Sum_n5 : Code := cL Sum_n4
noncomputable def Sum_n6 : Code := cR Sum_n4
noncomputable def Sum_n7 : Code := cL Sum_n6
noncomputable def Sum_n8 : Code := cR Sum_n6
noncomputable def Sum_n9 : Code := cL Sum_n7
noncomputable def Sum_n10 : Code := cL Sum_n9
noncomputable def Sum_n11 : Code := cR Sum_n9
noncomputable def Sum_n12 : Code := cL Sum_n11
noncomputable def Sum_n13 : Code := cR Sum_n11
noncomputable def Sum_n14 : Code := cL Sum_n12
noncomputable def Sum_n15 : Code := cR Sum_n12
noncomputable def Sum_n16 : Code := cL Sum_n13
noncomputable def Sum_n17 : Code := cR Sum_n13
noncomputable def Sum_n18 : Code := cL Sum_n17
noncomputable def Sum_n19 : Code := cR Sum_n17
noncomputable def Sum_n20 : Code := cL Sum_n18
noncomputable def Sum_n21 : Code := cR Sum_n18
noncomputable def Sum_n22 : Code := cL Sum_n19
noncomputable def Sum_n23 : Code := cR Sum_n19
noncomputable def Sum_n24 : Code := cL Sum_n23
noncomputable def Sum_n25 : Code := cR Sum_n23
noncomputable def Sum_n26 : Code := cL Sum_n24
noncomputable def Sum_n27 : Code := cR Sum_n24
noncomputable def Sum_n28 : Code := cL Sum_n8
noncomputable def Sum_n29 : Code := cR Sum_n8
noncomputable def Sum_n30 : Code := cL Sum_n29
noncomputable def Sum_n31 : Code := cR Sum_n29
noncomputable def Sum_n32 : Code := cL Sum_n31
noncomputable def Sum_n33 : Code := cR Sum_n31
noncomputable def Sum_n34 : Code := cL Sum_n32
noncomputable def Sum_n35 : Code := cR Sum_n32
noncomputable def Sum_n36 : Code := cL Sum_n35
noncomputable def Sum_n37 : Code := cL Sum_n36
noncomputable def Sum_n38 : Code := cL Sum_n37
noncomputable def Sum_n39 : Code := cR Sum_n37
noncomputable def Sum_n40 : Code := cL Sum_n39
noncomputable def Sum_n41 : Code := cR Sum_n39
noncomputable def Sum_n42 : Code := cL Sum_n40
noncomputable def Sum_n43 : Code := cR Sum_n40
noncomputable def Sum_n44 : Code := cL Sum_n41
noncomputable def Sum_n45 : Code := cR Sum_n41
noncomputable def Sum_n46 : Code := cL Sum_n44
noncomputable def Sum_n47 : Code := cL Sum_n46
noncomputable def Sum_n48 : Code := cR Sum_n46
noncomputable def Sum_n49 : Code := cL Sum_n48
noncomputable def Sum_n50 : Code := cR Sum_n48
noncomputable def Sum_n51 : Code := cL Sum_n33
noncomputable def Sum_n52 : Code := cR Sum_n33
noncomputable def Sum_n53 : Code := cL Sum_n52
noncomputable def Sum_n54 : Code := cR Sum_n52
noncomputable def Sum_n55 : Code := cL Sum_n54
noncomputable def Sum_n56 : Code := cR Sum_n54
noncomputable def Sum_n57 : Code := cL Sum_n56
noncomputable def Sum_n58 : Code := cR Sum_n56
set_option maxRecDepth 10000 in
theorem Sum_t {w : World} {M : Hp} {X : Fr} (a : Dg) {acrsA : Option Addr} {acrsc : Nat} (x : Int) (b : Dg) {bcrsA : Option Addr} {bcrsc : Nat} (y : Int) (hacrs : RdA cdCr (M.un X.h) acrsA acrsc a.crs) (hbcrs : RdA cdCr (M.un X.h) bcrsA bcrsc b.crs) (hx : -9223372036854775808 ≤ x ∧ x ≤ 9223372036854775807) (hy : -9223372036854775808 ≤ y ∧ y ≤ 9223372036854775807) (S : SH w M X []) : Ct Try.prog 15 [.agg [.slice acrsA a.crs.length acrsc, .int .i64 a.loops].toArray, .int .i64 x, .agg [.slice bcrsA b.crs.length bcrsc, .int .i64 b.loops].toArray, .int .i64 y] w M X (DgE (sumP a b x y)) := by
  unfold Ct
  refine calls_in (b := Sum_n0) Try.func15 rfl Try.ntmps15 rfl (fun C hC => ?_)
  refine ws_sub [(0, _), (1, _), (2, _), (3, _)] ⟨rfl, rfl, rfl, rfl, trivial⟩ ?_
  refine ws_seqN Sum_n1 Sum_n2 rfl rfl rfl ?_
  refine ws_region rfl ?_
  refine wl_op (k := 0) (k' := 1) rfl rfl rfl (wo_box (l := [_, _]) rfl rfl rfl rfl rfl S ?_)
  intro gb1 w1 S1; clear S
  refine wl_op (k := 1) (k' := 2) rfl rfl rfl (wo_box (l := [_, _]) rfl rfl rfl rfl rfl S1 ?_)
  intro gb2 w2 S2; clear S1
  refine wl_op (k := 2) (k' := 3) rfl rfl rfl (wo_alloc (l := [_, _]) rfl rfl rfl zr27 rfl S2 ?_)
  intro gb3 w3 S3; clear S2
  refine wl_op (k := 3) (k' := 4) rfl rfl rfl (wo_run rfl rfl (run_assign rfl rfl) ?_)
  refine wl_end rfl ?_
  refine nm_sub [(1, _), (3, _), (4, _), (6, _), (8, _)] ⟨rfl, rfl, rfl, rfl, rfl, trivial⟩ ?_
  refine nm_thn ?_
  refine ws_seqN Sum_n3 Sum_n4 rfl rfl rfl ?_
  refine ws_region rfl ?_
  refine wl_op (k := 0) (k' := 1) rfl rfl rfl (wo_run rfl rfl (run_loadN (us := [_, _]) rfl rfl Try.underlying27 rfl sz27 (S3.boxcs (i := 2) rfl ⟨rfl, rfl, trivial⟩)) ?_)
  refine wl_op (k := 1) (k' := 2) rfl rfl rfl (wo_co rfl rfl rfl rfl rfl rfl rfl cf53 S3 (New_o a (hacrs.mono S3.un_XH) S3.lend) ?_)
  intro vw4 w4 Nw4 S4 hRw4; clear S3
  rcases hRw4 with ⟨hmay23, rfl, rfl⟩ | ⟨hmay23, gsh1, vshc1, vshi1, vsho1, rfl, rfl, hsh23⟩
  · change SH _ _ _ [_, _, _] at S4
    refine wl_op (k := 2) (k' := 3) rfl rfl rfl (wo_run rfl rfl (run_move rfl rfl) ?_)
    refine wl_op (k := 3) (k' := 4) rfl rfl rfl (wo_run rfl rfl (run_extract rfl rfl rfl) ?_)
    refine wl_op (k := 4) (k' := 5) rfl rfl rfl (wo_run rfl rfl (run_extract rfl rfl rfl) ?_)
    refine wl_op (k := 5) (k' := 6) rfl rfl rfl (wo_run rfl rfl (run_assign rfl rfl) ?_)
    refine wl_op (k := 6) (k' := 7) rfl rfl rfl (wo_run rfl rfl (run_assign rfl rfl) ?_)
    refine wl_end rfl ?_
    refine nm_sub [(1, _), (3, _), (6, _), (8, _), (10, _), (11, _)] ⟨rfl, rfl, rfl, rfl, rfl, rfl, trivial⟩ ?_
    refine nm_thn ?_
    refine ws_seqN Sum_n5 Sum_n6 rfl rfl rfl ?_
    refine ws_region rfl ?_
    refine wl_op (k := 0) (k' := 1) rfl rfl rfl (wo_run rfl rfl (run_loadN (us := [_, _]) rfl rfl Try.underlying27 rfl sz27 (S4.boxcs (i := 1) rfl ⟨rfl, rfl, trivial⟩)) ?_)
    refine wl_op (k := 1) (k' := 2) rfl rfl rfl (wo_co rfl rfl rfl rfl rfl rfl rfl cf53 S4 (New_o b (hbcrs.mono S4.un_XH) S4.lend) ?_)
    intro vw5 w5 Nw5 S5 hRw5; clear S4
    rcases hRw5 with ⟨hmay28, rfl, rfl⟩ | ⟨hmay28, gsh2, vshc2, vshi2, vsho2, rfl, rfl, hsh28⟩
    · change SH _ _ _ [_, _, _] at S5
      refine wl_op (k := 2) (k' := 3) rfl rfl rfl (wo_run rfl rfl (run_move rfl rfl) ?_)
      refine wl_op (k := 3) (k' := 4) rfl rfl rfl (wo_run rfl rfl (run_extract rfl rfl rfl) ?_)
      refine wl_op (k := 4) (k' := 5) rfl rfl rfl (wo_run rfl rfl (run_extract rfl rfl rfl) ?_)
      refine wl_op (k := 5) (k' := 6) rfl rfl rfl (wo_run rfl rfl (run_assign rfl rfl) ?_)
      refine wl_op (k := 6) (k' := 7) rfl rfl rfl (wo_run rfl rfl (run_assign rfl rfl) ?_)
      refine wl_end rfl ?_
      refine nm_sub [(1, _), (3, _), (8, _), (10, _), (11, _), (12, _), (13, _)] ⟨rfl, rfl, rfl, rfl, rfl, rfl, rfl, trivial⟩ ?_
      refine nm_thn ?_
      refine ws_seqN Sum_n7 Sum_n8 rfl rfl rfl ?_
      refine ws_blockN Sum_n9 0 rfl rfl rfl ?_
      refine ws_seqN Sum_n10 Sum_n11 rfl rfl rfl ?_
      refine ws_region rfl ?_
      refine wl_op (k := 0) (k' := 1) rfl rfl rfl (wo_run rfl rfl (run_move rfl rfl) ?_)
      refine wl_op (k := 1) (k' := 2) rfl rfl rfl (wo_run rfl rfl (run_not rfl rfl) ?_)
      refine wl_op (k := 2) (k' := 3) rfl rfl rfl (wo_run rfl rfl (run_move rfl rfl) ?_)
      refine wl_no (k := 3) (k' := 4) (d := 35) rfl rfl ⟨_, _, _, rfl, rfl, rfl, rfl⟩ rfl rfl ?_
      refine wl_no (k := 4) (k' := 5) (d := 36) rfl rfl ⟨_, _, _, rfl, rfl, rfl, rfl⟩ rfl rfl ?_
      refine wl_op (k := 5) (k' := 6) rfl rfl rfl (wo_run rfl rfl (run_pickT rfl rfl rfl) ?_)
      refine wl_op (k := 6) (k' := 7) rfl rfl rfl (wo_run rfl rfl (run_assign rfl rfl) ?_)
      refine wl_end rfl ?_
      refine nm_sub [(1, _), (3, _), (8, _), (10, _), (12, _), (31, _)] ⟨rfl, rfl, rfl, rfl, rfl, rfl, trivial⟩ ?_
      refine nm_thn ?_
      refine ws_condTN Sum_n12 rfl rfl rfl ?_
      refine ws_seqN Sum_n14 Sum_n15 rfl rfl rfl ?_
      refine ws_region rfl ?_
      refine wl_op (k := 0) (k' := 1) rfl rfl rfl (wo_run rfl rfl (run_build (l := [_, _]) rfl rfl st27 rfl rfl) ?_)
      refine wl_op (k := 1) (k' := 2) rfl rfl rfl (wo_storeB (i := 0) (us := [_, _]) (l' := [_, _]) (H' := [_, _, _]) rfl rfl S5 rfl rfl rfl rfl sz27 rfl rfl rfl rfl ?_)
      intro w6 S6; clear S5
      refine wl_op (k := 2) (k' := 3) rfl rfl rfl (wo_run rfl rfl (run_assign rfl rfl) ?_)
      refine wl_end rfl ?_
      refine nm_sub [(8, _), (9, _)] ⟨rfl, rfl, trivial⟩ ?_
      refine nm_thn ?_
      refine ws_ret hC [_, _] rfl rfl ⟨⟨_, rfl, loadVarN (us := [_, _]) Try.underlying27 rfl sz27 (S6.boxcs (i := 0) rfl ⟨rfl, rfl, trivial⟩)⟩, rfl, trivial⟩ ?_
      refine ⟨_, rfl, _, Hp.le_refl _, (S6.pick [] [] (by decide) trivial), ?_⟩
      have e0 : sumP a b x y = (⟨[], 0⟩, 7) := by simp [sumP, *]
      rw [e0]
      exact ⟨none, 0, rfl, RdA.nil_⟩
    · change SH _ _ _ [_, _, _, _, _, _, _] at S5
      obtain ⟨hcr28, harc28⟩ := may_arcs hmay28
      refine wl_op (k := 2) (k' := 3) rfl rfl rfl (wo_run rfl rfl (run_move rfl rfl) ?_)
      refine wl_op (k := 3) (k' := 4) rfl rfl rfl (wo_run rfl rfl (run_extract rfl rfl rfl) ?_)
      refine wl_op (k := 4) (k' := 5) rfl rfl rfl (wo_run rfl rfl (run_extract rfl rfl rfl) ?_)
      refine wl_op (k := 5) (k' := 6) rfl rfl rfl (wo_run rfl rfl (run_assign rfl rfl) ?_)
      refine wl_op (k := 6) (k' := 7) rfl rfl rfl (wo_run rfl rfl (run_assign rfl rfl) ?_)
      refine wl_end rfl ?_
      refine nm_sub [(1, _), (3, _), (8, _), (10, _), (11, _), (12, _), (13, _)] ⟨rfl, rfl, rfl, rfl, rfl, rfl, rfl, trivial⟩ ?_
      refine nm_thn ?_
      refine ws_seqN Sum_n7 Sum_n8 rfl rfl rfl ?_
      refine ws_blockN Sum_n9 0 rfl rfl rfl ?_
      refine ws_seqN Sum_n10 Sum_n11 rfl rfl rfl ?_
      refine ws_region rfl ?_
      refine wl_op (k := 0) (k' := 1) rfl rfl rfl (wo_run rfl rfl (run_move rfl rfl) ?_)
      refine wl_op (k := 1) (k' := 2) rfl rfl rfl (wo_run rfl rfl (run_not rfl rfl) ?_)
      refine wl_op (k := 2) (k' := 3) rfl rfl rfl (wo_run rfl rfl (run_move rfl rfl) ?_)
      refine wl_no (k := 3) (k' := 4) (d := 35) rfl rfl ⟨_, _, _, rfl, rfl, rfl, rfl⟩ rfl rfl ?_
      refine wl_no (k := 4) (k' := 5) (d := 36) rfl rfl ⟨_, _, _, rfl, rfl, rfl, rfl⟩ rfl rfl ?_
      refine wl_op (k := 5) (k' := 6) rfl rfl rfl (wo_run rfl rfl (run_pickT rfl rfl rfl) ?_)
      refine wl_op (k := 6) (k' := 7) rfl rfl rfl (wo_run rfl rfl (run_assign rfl rfl) ?_)
      refine wl_end rfl ?_
      refine nm_sub [(1, _), (3, _), (8, _), (10, _), (12, _), (31, _)] ⟨rfl, rfl, rfl, rfl, rfl, rfl, trivial⟩ ?_
      refine nm_thn ?_
      refine ws_condTN Sum_n12 rfl rfl rfl ?_
      refine ws_seqN Sum_n14 Sum_n15 rfl rfl rfl ?_
      refine ws_region rfl ?_
      refine wl_op (k := 0) (k' := 1) rfl rfl rfl (wo_run rfl rfl (run_build (l := [_, _]) rfl rfl st27 rfl rfl) ?_)
      refine wl_op (k := 1) (k' := 2) rfl rfl rfl (wo_storeB (i := 4) (us := [_, _]) (l' := [_, _]) (H' := [_, _, _, _, _, _, _]) rfl rfl S5 rfl rfl rfl rfl sz27 rfl rfl rfl rfl ?_)
      intro w7 S7; clear S5
      refine wl_op (k := 2) (k' := 3) rfl rfl rfl (wo_run rfl rfl (run_assign rfl rfl) ?_)
      refine wl_end rfl ?_
      refine nm_sub [(8, _), (9, _)] ⟨rfl, rfl, trivial⟩ ?_
      refine nm_thn ?_
      refine ws_ret hC [_, _] rfl rfl ⟨⟨_, rfl, loadVarN (us := [_, _]) Try.underlying27 rfl sz27 (S7.boxcs (i := 4) rfl ⟨rfl, rfl, trivial⟩)⟩, rfl, trivial⟩ ?_
      refine ⟨_, rfl, _, Hp.le_refl _, (S7.pick [] [] (by decide) trivial), ?_⟩
      have e0 : sumP a b x y = (⟨[], 0⟩, 7) := by simp [sumP, *]
      rw [e0]
      exact ⟨none, 0, rfl, RdA.nil_⟩
  · change SH _ _ _ [_, _, _, _, _, _, _] at S4
    obtain ⟨hcr23, harc23⟩ := may_arcs hmay23
    refine wl_op (k := 2) (k' := 3) rfl rfl rfl (wo_run rfl rfl (run_move rfl rfl) ?_)
    refine wl_op (k := 3) (k' := 4) rfl rfl rfl (wo_run rfl rfl (run_extract rfl rfl rfl) ?_)
    refine wl_op (k := 4) (k' := 5) rfl rfl rfl (wo_run rfl rfl (run_extract rfl rfl rfl) ?_)
    refine wl_op (k := 5) (k' := 6) rfl rfl rfl (wo_run rfl rfl (run_assign rfl rfl) ?_)
    refine wl_op (k := 6) (k' := 7) rfl rfl rfl (wo_run rfl rfl (run_assign rfl rfl) ?_)
    refine wl_end rfl ?_
    refine nm_sub [(1, _), (3, _), (6, _), (8, _), (10, _), (11, _)] ⟨rfl, rfl, rfl, rfl, rfl, rfl, trivial⟩ ?_
    refine nm_thn ?_
    refine ws_seqN Sum_n5 Sum_n6 rfl rfl rfl ?_
    refine ws_region rfl ?_
    refine wl_op (k := 0) (k' := 1) rfl rfl rfl (wo_run rfl rfl (run_loadN (us := [_, _]) rfl rfl Try.underlying27 rfl sz27 (S4.boxcs (i := 5) rfl ⟨rfl, rfl, trivial⟩)) ?_)
    refine wl_op (k := 1) (k' := 2) rfl rfl rfl (wo_co rfl rfl rfl rfl rfl rfl rfl cf53 S4 (New_o b (hbcrs.mono S4.un_XH) S4.lend) ?_)
    intro vw8 w8 Nw8 S8 hRw8; clear S4
    rcases hRw8 with ⟨hmay28, rfl, rfl⟩ | ⟨hmay28, gsh3, vshc3, vshi3, vsho3, rfl, rfl, hsh28⟩
    · change SH _ _ _ [_, _, _, _, _, _, _] at S8
      refine wl_op (k := 2) (k' := 3) rfl rfl rfl (wo_run rfl rfl (run_move rfl rfl) ?_)
      refine wl_op (k := 3) (k' := 4) rfl rfl rfl (wo_run rfl rfl (run_extract rfl rfl rfl) ?_)
      refine wl_op (k := 4) (k' := 5) rfl rfl rfl (wo_run rfl rfl (run_extract rfl rfl rfl) ?_)
      refine wl_op (k := 5) (k' := 6) rfl rfl rfl (wo_run rfl rfl (run_assign rfl rfl) ?_)
      refine wl_op (k := 6) (k' := 7) rfl rfl rfl (wo_run rfl rfl (run_assign rfl rfl) ?_)
      refine wl_end rfl ?_
      refine nm_sub [(1, _), (3, _), (8, _), (10, _), (11, _), (12, _), (13, _)] ⟨rfl, rfl, rfl, rfl, rfl, rfl, rfl, trivial⟩ ?_
      refine nm_thn ?_
      refine ws_seqN Sum_n7 Sum_n8 rfl rfl rfl ?_
      refine ws_blockN Sum_n9 0 rfl rfl rfl ?_
      refine ws_seqN Sum_n10 Sum_n11 rfl rfl rfl ?_
      refine ws_region rfl ?_
      refine wl_op (k := 0) (k' := 1) rfl rfl rfl (wo_run rfl rfl (run_move rfl rfl) ?_)
      refine wl_op (k := 1) (k' := 2) rfl rfl rfl (wo_run rfl rfl (run_not rfl rfl) ?_)
      refine wl_op (k := 2) (k' := 3) rfl rfl rfl (wo_run rfl rfl (run_move rfl rfl) ?_)
      refine wl_opG (k := 3) (k' := 4) rfl rfl ⟨_, _, _, rfl, rfl, rfl, rfl⟩ rfl (wo_run rfl rfl (run_move rfl rfl) ?_)
      refine wl_opG (k := 4) (k' := 5) rfl rfl ⟨_, _, _, rfl, rfl, rfl, rfl⟩ rfl (wo_run rfl rfl (run_not rfl rfl) ?_)
      refine wl_op (k := 5) (k' := 6) rfl rfl rfl (wo_run rfl rfl (run_pickF rfl rfl rfl) ?_)
      refine wl_op (k := 6) (k' := 7) rfl rfl rfl (wo_run rfl rfl (run_assign rfl rfl) ?_)
      refine wl_end rfl ?_
      refine nm_sub [(1, _), (3, _), (8, _), (10, _), (12, _), (31, _)] ⟨rfl, rfl, rfl, rfl, rfl, rfl, trivial⟩ ?_
      refine nm_thn ?_
      refine ws_condTN Sum_n12 rfl rfl rfl ?_
      refine ws_seqN Sum_n14 Sum_n15 rfl rfl rfl ?_
      refine ws_region rfl ?_
      refine wl_op (k := 0) (k' := 1) rfl rfl rfl (wo_run rfl rfl (run_build (l := [_, _]) rfl rfl st27 rfl rfl) ?_)
      refine wl_op (k := 1) (k' := 2) rfl rfl rfl (wo_storeB (i := 4) (us := [_, _]) (l' := [_, _]) (H' := [_, _, _, _, _, _, _]) rfl rfl S8 rfl rfl rfl rfl sz27 rfl rfl rfl rfl ?_)
      intro w9 S9; clear S8
      refine wl_op (k := 2) (k' := 3) rfl rfl rfl (wo_run rfl rfl (run_assign rfl rfl) ?_)
      refine wl_end rfl ?_
      refine nm_sub [(8, _), (9, _)] ⟨rfl, rfl, trivial⟩ ?_
      refine nm_thn ?_
      refine ws_ret hC [_, _] rfl rfl ⟨⟨_, rfl, loadVarN (us := [_, _]) Try.underlying27 rfl sz27 (S9.boxcs (i := 4) rfl ⟨rfl, rfl, trivial⟩)⟩, rfl, trivial⟩ ?_
      refine ⟨_, rfl, _, Hp.le_refl _, (S9.pick [] [] (by decide) trivial), ?_⟩
      have e0 : sumP a b x y = (⟨[], 0⟩, 7) := by simp [sumP, *]
      rw [e0]
      exact ⟨none, 0, rfl, RdA.nil_⟩
    · change SH _ _ _ [_, _, _, _, _, _, _, _, _, _, _] at S8
      obtain ⟨hcr28, harc28⟩ := may_arcs hmay28
      refine wl_op (k := 2) (k' := 3) rfl rfl rfl (wo_run rfl rfl (run_move rfl rfl) ?_)
      refine wl_op (k := 3) (k' := 4) rfl rfl rfl (wo_run rfl rfl (run_extract rfl rfl rfl) ?_)
      refine wl_op (k := 4) (k' := 5) rfl rfl rfl (wo_run rfl rfl (run_extract rfl rfl rfl) ?_)
      refine wl_op (k := 5) (k' := 6) rfl rfl rfl (wo_run rfl rfl (run_assign rfl rfl) ?_)
      refine wl_op (k := 6) (k' := 7) rfl rfl rfl (wo_run rfl rfl (run_assign rfl rfl) ?_)
      refine wl_end rfl ?_
      refine nm_sub [(1, _), (3, _), (8, _), (10, _), (11, _), (12, _), (13, _)] ⟨rfl, rfl, rfl, rfl, rfl, rfl, rfl, trivial⟩ ?_
      refine nm_thn ?_
      refine ws_seqN Sum_n7 Sum_n8 rfl rfl rfl ?_
      refine ws_blockN Sum_n9 0 rfl rfl rfl ?_
      refine ws_seqN Sum_n10 Sum_n11 rfl rfl rfl ?_
      refine ws_region rfl ?_
      refine wl_op (k := 0) (k' := 1) rfl rfl rfl (wo_run rfl rfl (run_move rfl rfl) ?_)
      refine wl_op (k := 1) (k' := 2) rfl rfl rfl (wo_run rfl rfl (run_not rfl rfl) ?_)
      refine wl_op (k := 2) (k' := 3) rfl rfl rfl (wo_run rfl rfl (run_move rfl rfl) ?_)
      refine wl_opG (k := 3) (k' := 4) rfl rfl ⟨_, _, _, rfl, rfl, rfl, rfl⟩ rfl (wo_run rfl rfl (run_move rfl rfl) ?_)
      refine wl_opG (k := 4) (k' := 5) rfl rfl ⟨_, _, _, rfl, rfl, rfl, rfl⟩ rfl (wo_run rfl rfl (run_not rfl rfl) ?_)
      refine wl_op (k := 5) (k' := 6) rfl rfl rfl (wo_run rfl rfl (run_pickF rfl rfl rfl) ?_)
      refine wl_op (k := 6) (k' := 7) rfl rfl rfl (wo_run rfl rfl (run_assign rfl rfl) ?_)
      refine wl_end rfl ?_
      refine nm_sub [(1, _), (3, _), (8, _), (10, _), (12, _), (31, _)] ⟨rfl, rfl, rfl, rfl, rfl, rfl, trivial⟩ ?_
      refine nm_thn ?_
      refine ws_condFN Sum_n13 rfl rfl rfl ?_
      refine ws_seqN Sum_n16 Sum_n17 rfl rfl rfl ?_
      refine ws_region rfl ?_
      refine wl_op (k := 0) (k' := 1) rfl rfl rfl (wo_run rfl rfl (run_move rfl rfl) ?_)
      refine wl_op (k := 1) (k' := 2) rfl rfl rfl (wo_run rfl rfl (run_move rfl rfl) ?_)
      refine wl_op (k := 2) (k' := 3) rfl rfl rfl (wo_cq rfl rfl rfl rfl rfl rfl rfl cf54 S8 (IsArc_q a x (S8.isSh (i := 4) (j := 5) (k := 6) (l := 7) rfl rfl rfl rfl hsh23) hcr23 S8.lend) ?_)
      rintro _ w10 S10 rfl; clear S8
      refine wl_op (k := 3) (k' := 4) rfl rfl rfl (wo_run rfl rfl (run_not rfl rfl) ?_)
      refine wl_op (k := 4) (k' := 5) rfl rfl rfl (wo_run rfl rfl (run_move rfl rfl) ?_)
      refine wl_split (t := 44) rfl (fun hg44 => ?_) (fun hg44 => ?_)
      · simp only [Bool.and_eq_true, Bool.or_eq_true, Bool.and_eq_false_iff, Bool.or_eq_false_iff, decide_eq_true_eq, decide_eq_false_iff_not, Bool.not_eq_true', Bool.not_eq_false'] at hg44
        refine wl_no (k := 5) (k' := 6) (d := 45) rfl rfl ⟨_, _, _, rfl, rfl, rfl, rfl⟩ rfl rfl ?_
        refine wl_no (k := 6) (k' := 7) (d := 46) rfl rfl ⟨_, _, _, rfl, rfl, rfl, rfl⟩ rfl rfl ?_
        refine wl_no (k := 7) (k' := 8) (d := 47) rfl rfl ⟨_, _, _, rfl, rfl, rfl, rfl⟩ rfl rfl ?_
        refine wl_no (k := 8) (k' := 9) (d := 48) rfl rfl ⟨_, _, _, rfl, rfl, rfl, rfl⟩ rfl rfl ?_
        refine wl_op (k := 9) (k' := 10) rfl rfl rfl (wo_run rfl rfl (run_pickT rfl rfl rfl) ?_)
        refine wl_op (k := 10) (k' := 11) rfl rfl rfl (wo_run rfl rfl (run_assign rfl rfl) ?_)
        refine wl_end rfl ?_
        refine nm_sub [(1, _), (3, _), (8, _), (10, _), (12, _), (39, _)] ⟨rfl, rfl, rfl, rfl, rfl, rfl, trivial⟩ ?_
        refine nm_thn ?_
        refine ws_condTN Sum_n18 rfl rfl rfl ?_
        refine ws_seqN Sum_n20 Sum_n21 rfl rfl rfl ?_
        refine ws_region rfl ?_
        refine wl_op (k := 0) (k' := 1) rfl rfl rfl (wo_run rfl rfl (run_build (l := [_, _]) rfl rfl st27 rfl rfl) ?_)
        refine wl_op (k := 1) (k' := 2) rfl rfl rfl (wo_storeB (i := 8) (us := [_, _]) (l' := [_, _]) (H' := [_, _, _, _, _, _, _, _, _, _, _]) rfl rfl S10 rfl rfl rfl rfl sz27 rfl rfl rfl rfl ?_)
        intro w11 S11; clear S10
        refine wl_op (k := 2) (k' := 3) rfl rfl rfl (wo_run rfl rfl (run_assign rfl rfl) ?_)
        refine wl_end rfl ?_
        refine nm_sub [(8, _), (9, _)] ⟨rfl, rfl, trivial⟩ ?_
        refine nm_thn ?_
        refine ws_ret hC [_, _] rfl rfl ⟨⟨_, rfl, loadVarN (us := [_, _]) Try.underlying27 rfl sz27 (S11.boxcs (i := 8) rfl ⟨rfl, rfl, trivial⟩)⟩, rfl, trivial⟩ ?_
        refine ⟨_, rfl, _, Hp.le_refl _, (S11.pick [] [] (by decide) trivial), ?_⟩
        have e0 : sumP a b x y = sumR a b x y := by simp only [sumP, hmay23, hmay28, Bool.and_self, if_true]
        rw [e0]
        unfold sumR
        rw [if_pos (by omega)]
        exact ⟨none, 0, rfl, RdA.nil_⟩
      · simp only [Bool.and_eq_true, Bool.or_eq_true, Bool.and_eq_false_iff, Bool.or_eq_false_iff, decide_eq_true_eq, decide_eq_false_iff_not, Bool.not_eq_true', Bool.not_eq_false'] at hg44
        refine wl_opG (k := 5) (k' := 6) rfl rfl ⟨_, _, _, rfl, rfl, rfl, rfl⟩ rfl (wo_run rfl rfl (run_move rfl rfl) ?_)
        refine wl_opG (k := 6) (k' := 7) rfl rfl ⟨_, _, _, rfl, rfl, rfl, rfl⟩ rfl (wo_run rfl rfl (run_move rfl rfl) ?_)
        refine wl_opG (k := 7) (k' := 8) rfl rfl ⟨_, _, _, rfl, rfl, rfl, rfl⟩ rfl (wo_cq rfl rfl rfl rfl rfl rfl rfl cf54 S10 (IsArc_q b y (S10.isSh (i := 0) (j := 1) (k := 2) (l := 3) rfl rfl rfl rfl hsh28) hcr28 S10.lend) ?_)
        rintro _ w12 S12 rfl; clear S10
        refine wl_opG (k := 8) (k' := 9) rfl rfl ⟨_, _, _, rfl, rfl, rfl, rfl⟩ rfl (wo_run rfl rfl (run_not rfl rfl) ?_)
        refine wl_op (k := 9) (k' := 10) rfl rfl rfl (wo_run rfl rfl (run_pickF rfl rfl rfl) ?_)
        refine wl_op (k := 10) (k' := 11) rfl rfl rfl (wo_run rfl rfl (run_assign rfl rfl) ?_)
        refine wl_end rfl ?_
        refine nm_sub [(1, _), (3, _), (8, _), (10, _), (12, _), (39, _)] ⟨rfl, rfl, rfl, rfl, rfl, rfl, trivial⟩ ?_
        refine nm_thn ?_
        refine ws_condN Sum_n18 Sum_n19 rfl rfl rfl rfl (fun hb39 => ?_) (fun hb39 => ?_)
        · simp only [Bool.and_eq_true, Bool.or_eq_true, Bool.and_eq_false_iff, Bool.or_eq_false_iff, decide_eq_true_eq, decide_eq_false_iff_not, Bool.not_eq_true', Bool.not_eq_false'] at hb39
          refine ws_seqN Sum_n20 Sum_n21 rfl rfl rfl ?_
          refine ws_region rfl ?_
          refine wl_op (k := 0) (k' := 1) rfl rfl rfl (wo_run rfl rfl (run_build (l := [_, _]) rfl rfl st27 rfl rfl) ?_)
          refine wl_op (k := 1) (k' := 2) rfl rfl rfl (wo_storeB (i := 8) (us := [_, _]) (l' := [_, _]) (H' := [_, _, _, _, _, _, _, _, _, _, _]) rfl rfl S12 rfl rfl rfl rfl sz27 rfl rfl rfl rfl ?_)
          intro w13 S13; clear S12
          refine wl_op (k := 2) (k' := 3) rfl rfl rfl (wo_run rfl rfl (run_assign rfl rfl) ?_)
          refine wl_end rfl ?_
          refine nm_sub [(8, _), (9, _)] ⟨rfl, rfl, trivial⟩ ?_
          refine nm_thn ?_
          refine ws_ret hC [_, _] rfl rfl ⟨⟨_, rfl, loadVarN (us := [_, _]) Try.underlying27 rfl sz27 (S13.boxcs (i := 8) rfl ⟨rfl, rfl, trivial⟩)⟩, rfl, trivial⟩ ?_
          refine ⟨_, rfl, _, Hp.le_refl _, (S13.pick [] [] (by decide) trivial), ?_⟩
          have e0 : sumP a b x y = sumR a b x y := by simp only [sumP, hmay23, hmay28, Bool.and_self, if_true]
          rw [e0]
          unfold sumR
          rw [if_pos (by omega)]
          exact ⟨none, 0, rfl, RdA.nil_⟩
        · simp only [Bool.and_eq_true, Bool.or_eq_true, Bool.and_eq_false_iff, Bool.or_eq_false_iff, decide_eq_true_eq, decide_eq_false_iff_not, Bool.not_eq_true', Bool.not_eq_false'] at hb39
          refine ws_seqN Sum_n22 Sum_n23 rfl rfl rfl ?_
          obtain ⟨la0, la1⟩ := may_loops hmay23
          obtain ⟨lb0, lb1⟩ := may_loops hmay28
          refine ws_draw rfl (by kernel_rfl) S12 29 rfl ?_
          clear S12
          refine wa_takeP (i := 0) (d := 52) 28 rfl (by kernel_rfl) (by kernel_rfl) (by kernel_rfl) rfl rfl rfl (fun w14 => run_move rfl rfl) ?_
          refine wa_takeP (i := 1) (d := 53) 27 rfl (by kernel_rfl) (by kernel_rfl) (by kernel_rfl) rfl rfl rfl (fun w15 => run_nilCheck rfl rfl) ?_
          refine wa_takeP (i := 2) (d := 54) 26 rfl (by kernel_rfl) (by kernel_rfl) (by kernel_rfl) rfl rfl rfl (fun w16 => run_fieldAddr rfl rfl Try.underlying81 rfl (ce27) (nf27)) ?_
          refine wa_takeP (i := 3) (d := 55) 25 rfl (by kernel_rfl) (by kernel_rfl) (by kernel_rfl) rfl rfl rfl (fun w17 => run_fieldAddr rfl rfl Try.underlying27 rfl (ce25) (nf25)) ?_
          refine wa_take (i := 4) (d := 56) 24 rfl (by kernel_rfl) (by kernel_rfl) (by kernel_rfl) rfl rfl rfl (fun M5 N5 w18 hle5 S18 => .inl (run_load1 rfl rfl Try.underlying25 rfl (S18.suf.boxc (i := 4) rfl rfl))) ?_
          refine wa_take (i := 5) (d := 57) 23 rfl (by kernel_rfl) (by kernel_rfl) (by kernel_rfl) rfl rfl rfl (fun M6 N6 w19 hle6 S19 => .inl (run_lenR (C := cdCr) (i := 5) rfl rfl rfl rfl rfl rfl sl25 S19.suf rfl)) ?_
          refine wa_takeP (i := 6) (d := 58) 22 rfl (by kernel_rfl) (by kernel_rfl) (by kernel_rfl) rfl rfl rfl (fun w20 => run_move rfl rfl) ?_
          refine wa_takeP (i := 7) (d := 59) 21 rfl (by kernel_rfl) (by kernel_rfl) (by kernel_rfl) rfl rfl rfl (fun w21 => run_nilCheck rfl rfl) ?_
          refine wa_takeP (i := 8) (d := 60) 20 rfl (by kernel_rfl) (by kernel_rfl) (by kernel_rfl) rfl rfl rfl (fun w22 => run_fieldAddr rfl rfl Try.underlying81 rfl (ce27) (nf27)) ?_
          refine wa_takeP (i := 9) (d := 61) 19 rfl (by kernel_rfl) (by kernel_rfl) (by kernel_rfl) rfl rfl rfl (fun w23 => run_fieldAddr rfl rfl Try.underlying27 rfl (ce25) (nf25)) ?_
          refine wa_take (i := 10) (d := 62) 18 rfl (by kernel_rfl) (by kernel_rfl) (by kernel_rfl) rfl rfl rfl (fun M11 N11 w24 hle11 S24 => .inl (run_load1 rfl rfl Try.underlying25 rfl (S24.suf.boxc (i := 0) rfl rfl))) ?_
          refine wa_take (i := 11) (d := 63) 17 rfl (by kernel_rfl) (by kernel_rfl) (by kernel_rfl) rfl rfl rfl (fun M12 N12 w25 hle12 S25 => .inl (run_lenR (C := cdCr) (i := 1) rfl rfl rfl rfl rfl rfl sl25 S25.suf rfl)) ?_
          refine wa_takeP (i := 12) (d := 64) 16 rfl (by kernel_rfl) (by kernel_rfl) (by kernel_rfl) rfl rfl rfl (fun w26 => run_add rfl rfl rfl (by first | omega | (simp only [List.length_set, List.length_append, List.length_replicate, List.length_singleton, List.length_cons, List.length_nil]; omega))) ?_
          refine wa_takeP (i := 13) (d := 65) 15 rfl (by kernel_rfl) (by kernel_rfl) (by kernel_rfl) rfl rfl rfl (fun w27 => run_gtr rfl rfl rfl) ?_
          refine wa_takeP (i := 14) (d := 66) 14 rfl (by kernel_rfl) (by kernel_rfl) (by kernel_rfl) rfl rfl rfl (fun w28 => run_move rfl rfl) ?_
          refine wa_split (t := 66) rfl (fun hg66 => ?_) (fun hg66 => ?_)
          · have hg66 := of_decide_eq_true hg66
            refine wa_no (i := 15) (d := 67) 13 rfl (by kernel_rfl) (by kernel_rfl) (by kernel_rfl) ⟨_, _, _, rfl, rfl, rfl, rfl⟩ rfl rfl ?_
            refine wa_no (i := 16) (d := 68) 12 rfl (by kernel_rfl) (by kernel_rfl) (by kernel_rfl) ⟨_, _, _, rfl, rfl, rfl, rfl⟩ rfl rfl ?_
            refine wa_no (i := 17) (d := 69) 11 rfl (by kernel_rfl) (by kernel_rfl) (by kernel_rfl) ⟨_, _, _, rfl, rfl, rfl, rfl⟩ rfl rfl ?_
            refine wa_no (i := 18) (d := 70) 10 rfl (by kernel_rfl) (by kernel_rfl) (by kernel_rfl) ⟨_, _, _, rfl, rfl, rfl, rfl⟩ rfl rfl ?_
            refine wa_no (i := 19) (d := 71) 9 rfl (by kernel_rfl) (by kernel_rfl) (by kernel_rfl) ⟨_, _, _, rfl, rfl, rfl, rfl⟩ rfl rfl ?_
            refine wa_no (i := 20) (d := 72) 8 rfl (by kernel_rfl) (by kernel_rfl) (by kernel_rfl) ⟨_, _, _, rfl, rfl, rfl, rfl⟩ rfl rfl ?_
            refine wa_no (i := 21) (d := 73) 7 rfl (by kernel_rfl) (by kernel_rfl) (by kernel_rfl) ⟨_, _, _, rfl, rfl, rfl, rfl⟩ rfl rfl ?_
            refine wa_no (i := 22) (d := 74) 6 rfl (by kernel_rfl) (by kernel_rfl) (by kernel_rfl) ⟨_, _, _, rfl, rfl, rfl, rfl⟩ rfl rfl ?_
            refine wa_no (i := 23) (d := 75) 5 rfl (by kernel_rfl) (by kernel_rfl) (by kernel_rfl) ⟨_, _, _, rfl, rfl, rfl, rfl⟩ rfl rfl ?_
            refine wa_no (i := 24) (d := 76) 4 rfl (by kernel_rfl) (by kernel_rfl) (by kernel_rfl) ⟨_, _, _, rfl, rfl, rfl, rfl⟩ rfl rfl ?_
            refine wa_no (i := 25) (d := 77) 3 rfl (by kernel_rfl) (by kernel_rfl) (by kernel_rfl) ⟨_, _, _, rfl, rfl, rfl, rfl⟩ rfl rfl ?_
            refine wa_no (i := 26) (d := 78) 2 rfl (by kernel_rfl) (by kernel_rfl) (by kernel_rfl) ⟨_, _, _, rfl, rfl, rfl, rfl⟩ rfl rfl ?_
            refine wa_takeP (i := 27) (d := 79) 1 rfl (by kernel_rfl) (by kernel_rfl) (by kernel_rfl) rfl rfl rfl (fun w29 => run_pickT rfl rfl rfl) ?_
            refine wa_takeP (i := 28) (d := 51) 0 rfl (by kernel_rfl) (by kernel_rfl) (by kernel_rfl) rfl rfl rfl (fun w30 => run_assign rfl rfl) ?_
            refine wa_end (by kernel_rfl) (fun w31 S31 => ?_)
            refine nm_sub [(1, _), (3, _), (8, _), (10, _), (12, _), (51, _)] ⟨rfl, rfl, rfl, rfl, rfl, rfl, trivial⟩ ?_
            refine nm_thn ?_
            refine ws_condTN Sum_n24 rfl rfl rfl ?_
            refine ws_seqN Sum_n26 Sum_n27 rfl rfl rfl ?_
            refine ws_region rfl ?_
            refine wl_op (k := 0) (k' := 1) rfl rfl rfl (wo_run rfl rfl (run_build (l := [_, _]) rfl rfl st27 rfl rfl) ?_)
            refine wl_op (k := 1) (k' := 2) rfl rfl rfl (wo_storeB (i := 8) (us := [_, _]) (l' := [_, _]) (H' := [_, _, _, _, _, _, _, _, _, _, _]) rfl rfl S31 rfl rfl rfl rfl sz27 rfl rfl rfl rfl ?_)
            intro w32 S32; clear S31
            refine wl_op (k := 2) (k' := 3) rfl rfl rfl (wo_run rfl rfl (run_assign rfl rfl) ?_)
            refine wl_end rfl ?_
            refine nm_sub [(8, _), (9, _)] ⟨rfl, rfl, trivial⟩ ?_
            refine nm_thn ?_
            refine ws_ret hC [_, _] rfl rfl ⟨⟨_, rfl, loadVarN (us := [_, _]) Try.underlying27 rfl sz27 (S32.boxcs (i := 8) rfl ⟨rfl, rfl, trivial⟩)⟩, rfl, trivial⟩ ?_
            refine ⟨_, rfl, _, Hp.le_refl _, (S32.pick [] [] (by decide) trivial), ?_⟩
            have e0 : sumP a b x y = sumR a b x y := by simp only [sumP, hmay23, hmay28, Bool.and_self, if_true]
            rw [e0]
            unfold sumR
            rw [if_neg (by omega), if_pos (by omega)]
            exact ⟨none, 0, rfl, RdA.nil_⟩
          · have hg66 := of_decide_eq_false hg66
            refine wa_takeP (i := 15) (d := 67) 13 rfl (by kernel_rfl) (by kernel_rfl) (by kernel_rfl) ⟨_, _, _, rfl, rfl, rfl, rfl⟩ rfl rfl (fun w33 => run_move rfl rfl) ?_
            refine wa_takeP (i := 16) (d := 68) 12 rfl (by kernel_rfl) (by kernel_rfl) (by kernel_rfl) ⟨_, _, _, rfl, rfl, rfl, rfl⟩ rfl rfl (fun w34 => run_nilCheck rfl rfl) ?_
            refine wa_takeP (i := 17) (d := 69) 11 rfl (by kernel_rfl) (by kernel_rfl) (by kernel_rfl) ⟨_, _, _, rfl, rfl, rfl, rfl⟩ rfl rfl (fun w35 => run_fieldAddr rfl rfl Try.underlying81 rfl (ce27) (nf27)) ?_
            refine wa_takeP (i := 18) (d := 70) 10 rfl (by kernel_rfl) (by kernel_rfl) (by kernel_rfl) ⟨_, _, _, rfl, rfl, rfl, rfl⟩ rfl rfl (fun w36 => run_fieldAddr rfl rfl Try.underlying27 rfl (ce3) (nf3)) ?_
            refine wa_take (i := 19) (d := 71) 9 rfl (by kernel_rfl) (by kernel_rfl) (by kernel_rfl) ⟨_, _, _, rfl, rfl, rfl, rfl⟩ rfl rfl (fun M22 N22 w37 hle22 S37 => .inl (run_load1 rfl rfl Try.underlying3 rfl (S37.suf.boxc (i := 4) rfl rfl))) ?_
            refine wa_takeP (i := 20) (d := 72) 8 rfl (by kernel_rfl) (by kernel_rfl) (by kernel_rfl) ⟨_, _, _, rfl, rfl, rfl, rfl⟩ rfl rfl (fun w38 => run_move rfl rfl) ?_
            refine wa_takeP (i := 21) (d := 73) 7 rfl (by kernel_rfl) (by kernel_rfl) (by kernel_rfl) ⟨_, _, _, rfl, rfl, rfl, rfl⟩ rfl rfl (fun w39 => run_nilCheck rfl rfl) ?_
            refine wa_takeP (i := 22) (d := 74) 6 rfl (by kernel_rfl) (by kernel_rfl) (by kernel_rfl) ⟨_, _, _, rfl, rfl, rfl, rfl⟩ rfl rfl (fun w40 => run_fieldAddr rfl rfl Try.underlying81 rfl (ce27) (nf27)) ?_
            refine wa_takeP (i := 23) (d := 75) 5 rfl (by kernel_rfl) (by kernel_rfl) (by kernel_rfl) ⟨_, _, _, rfl, rfl, rfl, rfl⟩ rfl rfl (fun w41 => run_fieldAddr rfl rfl Try.underlying27 rfl (ce3) (nf3)) ?_
            refine wa_take (i := 24) (d := 76) 4 rfl (by kernel_rfl) (by kernel_rfl) (by kernel_rfl) ⟨_, _, _, rfl, rfl, rfl, rfl⟩ rfl rfl (fun M27 N27 w42 hle27 S42 => .inl (run_load1 rfl rfl Try.underlying3 rfl (S42.suf.boxc (i := 0) rfl rfl))) ?_
            refine wa_takeP (i := 25) (d := 77) 3 rfl (by kernel_rfl) (by kernel_rfl) (by kernel_rfl) ⟨_, _, _, rfl, rfl, rfl, rfl⟩ rfl rfl (fun w43 => run_add rfl rfl rfl (by first | omega | (simp only [List.length_set, List.length_append, List.length_replicate, List.length_singleton, List.length_cons, List.length_nil]; omega))) ?_
            refine wa_takeP (i := 26) (d := 78) 2 rfl (by kernel_rfl) (by kernel_rfl) (by kernel_rfl) ⟨_, _, _, rfl, rfl, rfl, rfl⟩ rfl rfl (fun w44 => run_gtr rfl rfl rfl) ?_
            refine wa_takeP (i := 27) (d := 79) 1 rfl (by kernel_rfl) (by kernel_rfl) (by kernel_rfl) rfl rfl rfl (fun w45 => run_pickF rfl rfl rfl) ?_
            refine wa_takeP (i := 28) (d := 51) 0 rfl (by kernel_rfl) (by kernel_rfl) (by kernel_rfl) rfl rfl rfl (fun w46 => run_assign rfl rfl) ?_
            refine wa_end (by kernel_rfl) (fun w47 S47 => ?_)
            refine nm_sub [(1, _), (3, _), (8, _), (10, _), (12, _), (51, _)] ⟨rfl, rfl, rfl, rfl, rfl, rfl, trivial⟩ ?_
            refine nm_thn ?_
            refine ws_condN Sum_n24 Sum_n25 rfl rfl rfl rfl (fun hb51 => ?_) (fun hb51 => ?_)
            · have hb51 := of_decide_eq_true hb51
              refine ws_seqN Sum_n26 Sum_n27 rfl rfl rfl ?_
              refine ws_region rfl ?_
              refine wl_op (k := 0) (k' := 1) rfl rfl rfl (wo_run rfl rfl (run_build (l := [_, _]) rfl rfl st27 rfl rfl) ?_)
              refine wl_op (k := 1) (k' := 2) rfl rfl rfl (wo_storeB (i := 8) (us := [_, _]) (l' := [_, _]) (H' := [_, _, _, _, _, _, _, _, _, _, _]) rfl rfl S47 rfl rfl rfl rfl sz27 rfl rfl rfl rfl ?_)
              intro w48 S48; clear S47
              refine wl_op (k := 2) (k' := 3) rfl rfl rfl (wo_run rfl rfl (run_assign rfl rfl) ?_)
              refine wl_end rfl ?_
              refine nm_sub [(8, _), (9, _)] ⟨rfl, rfl, trivial⟩ ?_
              refine nm_thn ?_
              refine ws_ret hC [_, _] rfl rfl ⟨⟨_, rfl, loadVarN (us := [_, _]) Try.underlying27 rfl sz27 (S48.boxcs (i := 8) rfl ⟨rfl, rfl, trivial⟩)⟩, rfl, trivial⟩ ?_
              refine ⟨_, rfl, _, Hp.le_refl _, (S48.pick [] [] (by decide) trivial), ?_⟩
              have e0 : sumP a b x y = sumR a b x y := by simp only [sumP, hmay23, hmay28, Bool.and_self, if_true]
              rw [e0]
              unfold sumR
              rw [if_neg (by omega), if_pos (by omega)]
              exact ⟨none, 0, rfl, RdA.nil_⟩
            · have hb51 := of_decide_eq_false hb51
              refine ws_skip rfl ?_
              refine nm_blk ?_
              refine nm_sub [(1, _), (3, _), (8, _), (10, _), (12, _)] ⟨rfl, rfl, rfl, rfl, rfl, trivial⟩ ?_
              refine nm_thn ?_
              refine ws_seqN Sum_n28 Sum_n29 rfl rfl rfl ?_
              refine ws_draw rfl (by kernel_rfl) S47 10 rfl ?_
              clear S47
              obtain ⟨xn, rfl⟩ : ∃ n : Nat, x = (n : Int) := ⟨x.toNat, by omega⟩
              obtain ⟨yn, rfl⟩ : ∃ n : Nat, y = (n : Int) := ⟨y.toNat, by omega⟩
              refine wa_takeP (i := 0) (d := 81) 9 rfl (by kernel_rfl) (by kernel_rfl) (by kernel_rfl) rfl rfl rfl (fun w49 => run_move rfl rfl) ?_
              refine wa_takeP (i := 1) (d := 82) 8 rfl (by kernel_rfl) (by kernel_rfl) (by kernel_rfl) rfl rfl rfl (fun w50 => run_nilCheck rfl rfl) ?_
              refine wa_takeP (i := 2) (d := 83) 7 rfl (by kernel_rfl) (by kernel_rfl) (by kernel_rfl) rfl rfl rfl (fun w51 => run_fieldAddr rfl rfl Try.underlying81 rfl (ce27) (nf27)) ?_
              refine wa_takeP (i := 3) (d := 84) 6 rfl (by kernel_rfl) (by kernel_rfl) (by kernel_rfl) rfl rfl rfl (fun w52 => run_fieldAddr rfl rfl Try.underlying27 rfl (ce25) (nf25)) ?_
              refine wa_take (i := 4) (d := 85) 5 rfl (by kernel_rfl) (by kernel_rfl) (by kernel_rfl) rfl rfl rfl (fun M36 N36 w53 hle36 S53 => .inl (run_load1 rfl rfl Try.underlying25 rfl (S53.suf.boxc (i := 4) rfl rfl))) ?_
              refine wa_take (i := 5) (d := 86) 4 rfl (by kernel_rfl) (by kernel_rfl) (by kernel_rfl) rfl rfl rfl (fun M37 N37 w54 hle37 S54 => .inl (run_lenR (C := cdCr) (i := 5) rfl rfl rfl rfl rfl rfl sl25 S54.suf rfl)) ?_
              refine wa_takeP (i := 6) (d := 87) 3 rfl (by kernel_rfl) (by kernel_rfl) (by kernel_rfl) rfl rfl rfl (fun w55 => run_move rfl rfl) ?_
              refine wa_take (i := 7) (d := 88) 2 rfl (by kernel_rfl) (by kernel_rfl) (by kernel_rfl) rfl rfl rfl (fun M39 N39 w56 hle39 S56 => yield_cq rfl rfl rfl rfl rfl cf55 S56 (Arcs_q a (S56.suf.isSh (i := 4) (j := 5) (k := 6) (l := 7) rfl rfl rfl rfl hsh23) hcr23 S56.lend)) ?_
              refine wa_takeP (i := 8) (d := 14) 1 rfl (by kernel_rfl) (by kernel_rfl) (by kernel_rfl) rfl rfl rfl (fun w57 => run_assign rfl rfl) ?_
              refine wa_takeP (i := 9) (d := 15) 0 rfl (by kernel_rfl) (by kernel_rfl) (by kernel_rfl) rfl rfl rfl (fun w58 => run_assign rfl rfl) ?_
              refine wa_end (by kernel_rfl) (fun w59 S59 => ?_)
              refine nm_sub [(1, _), (3, _), (8, _), (10, _), (12, _), (14, _), (15, _)] ⟨rfl, rfl, rfl, rfl, rfl, rfl, rfl, trivial⟩ ?_
              refine nm_thn ?_
              refine ws_seqN Sum_n30 Sum_n31 rfl rfl rfl ?_
              refine ws_draw rfl (by kernel_rfl) S59 19 rfl ?_
              clear S59
              refine wa_takeP (i := 0) (d := 89) 18 rfl (by kernel_rfl) (by kernel_rfl) (by kernel_rfl) rfl rfl rfl (fun w60 => run_move rfl rfl) ?_
              refine wa_takeP (i := 1) (d := 90) 17 rfl (by kernel_rfl) (by kernel_rfl) (by kernel_rfl) rfl rfl rfl (fun w61 => run_nilCheck rfl rfl) ?_
              refine wa_takeP (i := 2) (d := 91) 16 rfl (by kernel_rfl) (by kernel_rfl) (by kernel_rfl) rfl rfl rfl (fun w62 => run_fieldAddr rfl rfl Try.underlying81 rfl (ce27) (nf27)) ?_
              refine wa_takeP (i := 3) (d := 92) 15 rfl (by kernel_rfl) (by kernel_rfl) (by kernel_rfl) rfl rfl rfl (fun w63 => run_fieldAddr rfl rfl Try.underlying27 rfl (ce25) (nf25)) ?_
              refine wa_take (i := 4) (d := 93) 14 rfl (by kernel_rfl) (by kernel_rfl) (by kernel_rfl) rfl rfl rfl (fun M46 N46 w64 hle46 S64 => .inl (run_load1 rfl rfl Try.underlying25 rfl (S64.suf.boxc (i := 4) rfl rfl))) ?_
              refine wa_takeP (i := 5) (d := 94) 13 rfl (by kernel_rfl) (by kernel_rfl) (by kernel_rfl) rfl rfl rfl (fun w65 => run_move rfl rfl) ?_
              refine wa_takeP (i := 6) (d := 95) 12 rfl (by kernel_rfl) (by kernel_rfl) (by kernel_rfl) rfl rfl rfl (fun w66 => run_nilCheck rfl rfl) ?_
              refine wa_takeP (i := 7) (d := 96) 11 rfl (by kernel_rfl) (by kernel_rfl) (by kernel_rfl) rfl rfl rfl (fun w67 => run_fieldAddr rfl rfl Try.underlying81 rfl (ce27) (nf27)) ?_
              refine wa_takeP (i := 8) (d := 97) 10 rfl (by kernel_rfl) (by kernel_rfl) (by kernel_rfl) rfl rfl rfl (fun w68 => run_fieldAddr rfl rfl Try.underlying27 rfl (ce3) (nf3)) ?_
              refine wa_take (i := 9) (d := 98) 9 rfl (by kernel_rfl) (by kernel_rfl) (by kernel_rfl) rfl rfl rfl (fun M51 N51 w69 hle51 S69 => .inl (run_load1 rfl rfl Try.underlying3 rfl (S69.suf.boxc (i := 4) rfl rfl))) ?_
              refine wa_takeP (i := 10) (d := 99) 8 rfl (by kernel_rfl) (by kernel_rfl) (by kernel_rfl) rfl rfl rfl (fun w70 => run_move rfl rfl) ?_
              refine wa_takeP (i := 11) (d := 100) 7 rfl (by kernel_rfl) (by kernel_rfl) (by kernel_rfl) rfl rfl rfl (fun w71 => run_nilCheck rfl rfl) ?_
              refine wa_takeP (i := 12) (d := 101) 6 rfl (by kernel_rfl) (by kernel_rfl) (by kernel_rfl) rfl rfl rfl (fun w72 => run_fieldAddr rfl rfl Try.underlying81 rfl (ce27) (nf27)) ?_
              refine wa_takeP (i := 13) (d := 102) 5 rfl (by kernel_rfl) (by kernel_rfl) (by kernel_rfl) rfl rfl rfl (fun w73 => run_fieldAddr rfl rfl Try.underlying27 rfl (ce3) (nf3)) ?_
              refine wa_take (i := 14) (d := 103) 4 rfl (by kernel_rfl) (by kernel_rfl) (by kernel_rfl) rfl rfl rfl (fun M56 N56 w74 hle56 S74 => .inl (run_load1 rfl rfl Try.underlying3 rfl (S74.suf.boxc (i := 0) rfl rfl))) ?_
              refine wa_takeP (i := 15) (d := 104) 3 rfl (by kernel_rfl) (by kernel_rfl) (by kernel_rfl) rfl rfl rfl (fun w75 => run_add rfl rfl rfl (by first | omega | (simp only [List.length_set, List.length_append, List.length_replicate, List.length_singleton, List.length_cons, List.length_nil]; omega))) ?_
              refine wa_take (i := 16) (d := 105) 2 rfl (by kernel_rfl) (by kernel_rfl) (by kernel_rfl) rfl rfl rfl (fun M58 N58 w76 hle58 S76 => .inl (run_build (l := [vshc1, .int .i64 (a.loops + b.loops)]) rfl rfl st27 rfl (by obtain ⟨_, _, e9, _⟩ := S76.suf.sl (i := 5) rfl; subst e9; rfl))) ?_
              refine wa_only (i := 17) 1 rfl (by kernel_rfl) rfl rfl (fun w78 S78 => ?_)
              refine (wo_alloc (l := [_, _]) rfl rfl rfl zr27 rfl S78 ?_)
              intro gb4 w79 S79; clear S78
              refine LeftW.grow [_] (Hp.le_refl _) S79 ?_; clear S79
              change WA _ _ _ _ _ _ _ _ _ _ _ _ [_, _, _, _, _, _, _, _, _, _, _, _]
              refine wa_only (i := 18) 0 rfl (by kernel_rfl) rfl rfl (fun w81 S81 => ?_)
              refine (wo_storeB (i := 0) (us := [_, _]) (l' := [_, _]) (H' := [_, _, _, _, _, _, _, _, _, _, _, _]) rfl rfl S81 rfl rfl rfl rfl sz27 rfl (ones_cons (S81.one (i := 6) rfl) (ones_cons rfl rfl)) rfl rfl ?_)
              intro w82 S82; clear S81
              refine LeftW.grow [_] (Hp.le_refl _) S82 ?_; clear S82
              change WA _ _ _ _ _ _ _ _ _ _ _ _ [_, _, _, _, _, _, _, _, _, _, _, _]
              refine wa_end (by kernel_rfl) (fun w83 S83 => ?_)
              refine nm_sub [(1, _), (3, _), (8, _), (10, _), (12, _), (14, _), (15, _), (16, _)] ⟨rfl, rfl, rfl, rfl, rfl, rfl, rfl, rfl, trivial⟩ ?_
              refine nm_thn ?_
              refine ws_seqN Sum_n32 Sum_n33 rfl rfl rfl ?_
              refine ws_seqN Sum_n34 Sum_n35 rfl rfl rfl ?_
              refine ws_region rfl ?_
              refine wl_op (k := 0) (k' := 1) rfl rfl rfl (wo_run rfl rfl (run_move rfl rfl) ?_)
              refine wl_op (k := 1) (k' := 2) rfl rfl rfl (wo_run rfl rfl (run_nilCheck rfl rfl) ?_)
              refine wl_op (k := 2) (k' := 3) rfl rfl rfl (wo_run rfl rfl (run_fieldAddr rfl rfl Try.underlying81 rfl (ce27) (nf27)) ?_)
              refine wl_op (k := 3) (k' := 4) rfl rfl rfl (wo_run rfl rfl (run_fieldAddr rfl rfl Try.underlying27 rfl (ce25) (nf25)) ?_)
              refine wl_op (k := 4) (k' := 5) rfl rfl rfl (wo_run rfl rfl (run_load1 rfl rfl Try.underlying25 rfl (S83.boxc (i := 1) rfl rfl)) ?_)
              refine wl_op (k := 5) (k' := 6) rfl rfl rfl (wo_run rfl rfl (run_lenR (C := cdCr) (i := 2) rfl rfl rfl rfl rfl rfl sl25 S83 rfl) ?_)
              refine wl_op (k := 6) (k' := 7) rfl rfl rfl (wo_run rfl rfl (run_move rfl rfl) ?_)
              refine wl_end rfl ?_
              refine nm_sub [(1, _), (3, _), (8, _), (10, _), (12, _), (14, _), (15, _), (16, _), (110, _), (111, _), (112, _)] ⟨rfl, rfl, rfl, rfl, rfl, rfl, rfl, rfl, rfl, rfl, rfl, trivial⟩ ?_
              refine nm_thn ?_
              refine ws_blockN Sum_n36 1 rfl rfl rfl ?_
              refine ws_loopE (fun mx_ ax_ wx_ => ∃ (i : Nat) (acc : List Cr) (vro : Value) (M61 : Hp), M.le M61 ∧ mx_ = b.crs.length - i ∧ Env 180 [(1, .int .i64 (xn : Int)), (3, .int .i64 (yn : Int)), (8, .pointer (some ⟨gb3, 0, none⟩)), (10, .pointer (some ⟨gsh1, 0, none⟩)), (12, .pointer (some ⟨gsh3, 0, none⟩)), (14, .int .i64 (a.crs.length : Int)), (15, .int .i64 (2 * (a.crs.length : Int))), (16, .pointer (some ⟨gb4, 0, none⟩)), (110, vshc3), (111, .int .i64 (b.crs.length : Int)), (112, .int .i64 (i : Int))] ax_ ∧ SH wx_ M61 X [Rs.box gb4 27 [vro, .int .i64 (a.loops + b.loops)], Rs.box gsh3 81 [vshc3, .int .i64 b.loops, vshi3, vsho3], Rs.row cdCr vshc3 b.crs, Rs.row cdPl vshi3 (tabL b false (4 * b.crs.length)), Rs.row cdPl vsho3 (tabL b true (4 * b.crs.length)), Rs.box gsh1 81 [vshc1, .int .i64 a.loops, vshi1, vsho1], Rs.row cdCr vro acc, Rs.row cdPl vshi1 (tabL a false (4 * a.crs.length)), Rs.row cdPl vsho1 (tabL a true (4 * a.crs.length)), Rs.box gb3 27 [.slice none 0 0, .int .i64 0]] ∧ i ≤ b.crs.length ∧ acc = a.crs ++ (b.crs.take i).map (shC (2 * (a.crs.length : Int)))) rfl ?_ ?_
              · intro ax_ hax_
                refine ⟨_, ⟨0, _, _, _, Hp.le_refl _, rfl, hax_.sub ⟨rfl, rfl, rfl, rfl, rfl, rfl, rfl, rfl, rfl, rfl, rfl, trivial⟩, S83.pick [0, 1, 2, 3, 4, 5, 6, 7, 8, 9] [_, _, _, _, _, _, _, _, _, _] (by decide) ⟨rfl, rfl, rfl, rfl, rfl, rfl, rfl, rfl, rfl, rfl, trivial⟩, ?hq1f0, ?hq1f1⟩⟩
                case hq1f0 => first | assumption | omega
                case hq1f1 => simp
              · rintro m1 a1 w84 ⟨i, acc, vro, M61, hle61, rfl, he1, S84, hi, hacc⟩
                clear S83
                refine ws_in he1 (c := Sum_n37) rfl ?_
                clear he1 a1
                replace hacrs := hacrs.mono (Hp.un_mono hle61 S84.mx)
                replace hbcrs := hbcrs.mono (Hp.un_mono hle61 S84.mx)
                have hal : acc.length = a.crs.length + i := by rw [hacc]; simp; omega
                refine ws_seqN Sum_n38 Sum_n39 rfl rfl rfl ?_
                refine ws_region rfl ?_
                refine wl_op (k := 0) (k' := 1) rfl rfl rfl (wo_run rfl rfl (run_lss rfl rfl rfl) ?_)
                refine wl_end rfl ?_
                refine nm_thn ?_
                refine ws_seqN Sum_n40 Sum_n41 rfl rfl rfl ?_
                refine ws_condN Sum_n42 Sum_n43 rfl rfl rfl rfl (fun hb113 => ?_) (fun hb113 => ?_)
                · have hb113 := of_decide_eq_true hb113
                  have hr0 : 1 ≤ (ga b.crs i).a ∧ (ga b.crs i).a ≤ 2 * (b.crs.length : Int) := arcAt_bd harc28 (i := i) (k := 0) (by omega) (by omega)
                  have hr1 : 1 ≤ (ga b.crs i).b ∧ (ga b.crs i).b ≤ 2 * (b.crs.length : Int) := arcAt_bd harc28 (i := i) (k := 1) (by omega) (by omega)
                  have hr2 : 1 ≤ (ga b.crs i).c ∧ (ga b.crs i).c ≤ 2 * (b.crs.length : Int) := arcAt_bd harc28 (i := i) (k := 2) (by omega) (by omega)
                  have hr3 : 1 ≤ (ga b.crs i).d ∧ (ga b.crs i).d ≤ 2 * (b.crs.length : Int) := arcAt_bd harc28 (i := i) (k := 3) (by omega) (by omega)
                  refine ws_skip rfl ?_
                  refine nm_sub [(1, _), (3, _), (8, _), (10, _), (12, _), (14, _), (15, _), (16, _), (110, _), (111, _), (112, _)] ⟨rfl, rfl, rfl, rfl, rfl, rfl, rfl, rfl, rfl, rfl, rfl, trivial⟩ ?_
                  refine nm_thn ?_
                  refine ws_seqN Sum_n44 Sum_n45 rfl rfl rfl ?_
                  refine ws_blockN Sum_n46 2 rfl rfl rfl ?_
                  refine ws_seqN Sum_n47 Sum_n48 rfl rfl rfl ?_
                  refine ws_region rfl ?_
                  refine wl_op (k := 0) (k' := 1) rfl rfl rfl (wo_run rfl rfl (run_indexR (C := cdCr) (i := 2) i rfl rfl rfl sl25 S84 rfl (by first | rfl | omega) (by first | omega | (simp only [List.length_set, List.length_append, List.length_replicate, List.length_singleton, List.length_cons, List.length_nil]; omega))) ?_)
                  refine wl_op (k := 1) (k' := 2) rfl rfl rfl (wo_run rfl rfl (run_loadN (us := [_, _, _, _, _]) rfl rfl Try.underlying73 rfl sz73 (S84.rowcs (i := 2) (e := i) (j := 0) rfl (by first | omega | (simp only [List.length_set, List.length_append, List.length_replicate, List.length_singleton, List.length_cons, List.length_nil]; omega)) ⟨rfl, rfl, rfl, rfl, rfl, trivial⟩)) ?_)
                  refine wl_op (k := 2) (k' := 3) rfl rfl rfl (wo_alloc (l := [_, _, _, _, _]) rfl rfl rfl zr73 rfl S84 ?_)
                  intro gb5 w85 S85; clear S84
                  refine wl_op (k := 3) (k' := 4) rfl rfl rfl (wo_storeB (i := 0) (us := [_, _, _, _, _]) (l' := [_, _, _, _, _]) (H' := [_, _, _, _, _, _, _, _, _, _, _]) rfl rfl S85 rfl rfl rfl rfl sz73 rfl rfl rfl rfl ?_)
                  intro w86 S86; clear S85
                  refine wl_end rfl ?_
                  refine nm_sub [(1, _), (3, _), (8, _), (10, _), (12, _), (14, _), (15, _), (16, _), (110, _), (111, _), (112, _), (18, _)] ⟨rfl, rfl, rfl, rfl, rfl, rfl, rfl, rfl, rfl, rfl, rfl, rfl, trivial⟩ ?_
                  refine nm_thn ?_
                  refine ws_seqN Sum_n49 Sum_n50 rfl rfl rfl ?_
                  refine ws_region rfl ?_
                  refine wl_op (k := 0) (k' := 1) rfl rfl rfl (wo_run rfl rfl (run_fieldAddr rfl rfl Try.underlying73 rfl (ce3) (nf3)) ?_)
                  refine wl_op (k := 1) (k' := 2) rfl rfl rfl (wo_run rfl rfl (run_load1 rfl rfl Try.underlying3 rfl (S86.boxc (i := 0) rfl rfl)) ?_)
                  refine wl_op (k := 2) (k' := 3) rfl rfl rfl (wo_run rfl rfl (run_move rfl rfl) ?_)
                  refine wl_op (k := 3) (k' := 4) rfl rfl rfl (wo_run rfl rfl (run_add rfl rfl rfl (by first | omega | (simp only [List.length_set, List.length_append, List.length_replicate, List.length_singleton, List.length_cons, List.length_nil]; omega))) ?_)
                  refine wl_op (k := 4) (k' := 5) rfl rfl rfl (wo_run rfl rfl (run_fieldAddr rfl rfl Try.underlying73 rfl (ce3) (nf3)) ?_)
                  refine wl_op (k := 5) (k' := 6) rfl rfl rfl (wo_run rfl rfl (run_load1 rfl rfl Try.underlying3 rfl (S86.boxc (i := 0) rfl rfl)) ?_)
                  refine wl_op (k := 6) (k' := 7) rfl rfl rfl (wo_run rfl rfl (run_move rfl rfl) ?_)
                  refine wl_op (k := 7) (k' := 8) rfl rfl rfl (wo_run rfl rfl (run_add rfl rfl rfl (by first | omega | (simp only [List.length_set, List.length_append, List.length_replicate, List.length_singleton, List.length_cons, List.length_nil]; omega))) ?_)
                  refine wl_op (k := 8) (k' := 9) rfl rfl rfl (wo_run rfl rfl (run_fieldAddr rfl rfl Try.underlying73 rfl (ce3) (nf3)) ?_)
                  refine wl_op (k := 9) (k' := 10) rfl rfl rfl (wo_run rfl rfl (run_load1 rfl rfl Try.underlying3 rfl (S86.boxc (i := 0) rfl rfl)) ?_)
                  refine wl_op (k := 10) (k' := 11) rfl rfl rfl (wo_run rfl rfl (run_move rfl rfl) ?_)
                  refine wl_op (k := 11) (k' := 12) rfl rfl rfl (wo_run rfl rfl (run_add rfl rfl rfl (by first | omega | (simp only [List.length_set, List.length_append, List.length_replicate, List.length_singleton, List.length_cons, List.length_nil]; omega))) ?_)
                  refine wl_op (k := 12) (k' := 13) rfl rfl rfl (wo_run rfl rfl (run_fieldAddr rfl rfl Try.underlying73 rfl (ce3) (nf3)) ?_)
                  refine wl_op (k := 13) (k' := 14) rfl rfl rfl (wo_run rfl rfl (run_load1 rfl rfl Try.underlying3 rfl (S86.boxc (i := 0) rfl rfl)) ?_)
                  refine wl_op (k := 14) (k' := 15) rfl rfl rfl (wo_run rfl rfl (run_move rfl rfl) ?_)
                  refine wl_op (k := 15) (k' := 16) rfl rfl rfl (wo_run rfl rfl (run_add rfl rfl rfl (by first | omega | (simp only [List.length_set, List.length_append, List.length_replicate, List.length_singleton, List.length_cons, List.length_nil]; omega))) ?_)
                  refine wl_op (k := 16) (k' := 17) rfl rfl rfl (wo_run rfl rfl (run_fieldAddr rfl rfl Try.underlying73 rfl (ce3) (nf3)) ?_)
                  refine wl_op (k := 17) (k' := 18) rfl rfl rfl (wo_storeB (i := 0) (us := [_]) (l' := [_, _, _, _, _]) (H' := [_, _, _, _, _, _, _, _, _, _, _]) rfl rfl S86 rfl rfl rfl rfl sz3 rfl rfl rfl rfl ?_)
                  intro w87 S87; clear S86
                  refine wl_op (k := 18) (k' := 19) rfl rfl rfl (wo_run rfl rfl (run_fieldAddr rfl rfl Try.underlying73 rfl (ce3) (nf3)) ?_)
                  refine wl_op (k := 19) (k' := 20) rfl rfl rfl (wo_storeB (i := 0) (us := [_]) (l' := [_, _, _, _, _]) (H' := [_, _, _, _, _, _, _, _, _, _, _]) rfl rfl S87 rfl rfl rfl rfl sz3 rfl rfl rfl rfl ?_)
                  intro w88 S88; clear S87
                  refine wl_op (k := 20) (k' := 21) rfl rfl rfl (wo_run rfl rfl (run_fieldAddr rfl rfl Try.underlying73 rfl (ce3) (nf3)) ?_)
                  refine wl_op (k := 21) (k' := 22) rfl rfl rfl (wo_storeB (i := 0) (us := [_]) (l' := [_, _, _, _, _]) (H' := [_, _, _, _, _, _, _, _, _, _, _]) rfl rfl S88 rfl rfl rfl rfl sz3 rfl rfl rfl rfl ?_)
                  intro w89 S89; clear S88
                  refine wl_op (k := 22) (k' := 23) rfl rfl rfl (wo_run rfl rfl (run_fieldAddr rfl rfl Try.underlying73 rfl (ce3) (nf3)) ?_)
                  refine wl_op (k := 23) (k' := 24) rfl rfl rfl (wo_storeB (i := 0) (us := [_]) (l' := [_, _, _, _, _]) (H' := [_, _, _, _, _, _, _, _, _, _, _]) rfl rfl S89 rfl rfl rfl rfl sz3 rfl rfl rfl rfl ?_)
                  intro w90 S90; clear S89
                  refine wl_end rfl ?_
                  refine nm_sub [(1, _), (3, _), (8, _), (10, _), (12, _), (14, _), (15, _), (16, _), (110, _), (111, _), (112, _), (18, _)] ⟨rfl, rfl, rfl, rfl, rfl, rfl, rfl, rfl, rfl, rfl, rfl, rfl, trivial⟩ ?_
                  refine nm_thn ?_
                  refine ws_region rfl ?_
                  refine wl_op (k := 0) (k' := 1) rfl rfl rfl (wo_run rfl rfl (run_fieldAddr rfl rfl Try.underlying27 rfl (ce25) (nf25)) ?_)
                  refine wl_op (k := 1) (k' := 2) rfl rfl rfl (wo_run rfl rfl (run_load1 rfl rfl Try.underlying25 rfl (S90.boxc (i := 1) rfl rfl)) ?_)
                  refine wl_op (k := 2) (k' := 3) rfl rfl rfl (wo_run rfl rfl (run_loadN (us := [_, _, _, _, _]) rfl rfl Try.underlying73 rfl sz73 (S90.boxcs (i := 0) rfl ⟨rfl, rfl, rfl, rfl, rfl, trivial⟩)) ?_)
                  refine wl_op (k := 3) (k' := 4) rfl rfl rfl (wo_buildSlice1 (C := cdCr) (l := [_, _, _, _, _]) rfl rfl rfl rfl sl25 rfl rfl rfl rfl S90 ?_)
                  intro gb6 w91 S91; clear S90
                  refine wl_op (k := 4) (k' := 5) rfl rfl rfl (wo_append1 (C := cdCr) (i := 8) (q := 0) (⟨((ga b.crs i).a) + (2 * (a.crs.length : Int)), ((ga b.crs i).b) + (2 * (a.crs.length : Int)), ((ga b.crs i).c) + (2 * (a.crs.length : Int)), ((ga b.crs i).d) + (2 * (a.crs.length : Int)), (ga b.crs i).plus⟩ : Cr) rfl rfl rfl rfl rfl rfl rfl rfl sl25 S91 rfl rfl rfl (by show (_ + 1) * 40 ≤ _; first | omega | (simp only [List.length_set, List.length_append, List.length_replicate, List.length_singleton, List.length_cons, List.length_nil]; omega)) ?_)
                  intro vro1 w92 S92; clear S91
                  have S93 := S92.pick [1, 2, 3, 4, 5, 6, 7, 8, 9, 10, 11] [_, _, _, _, _, _, _, _, _, _, _] (by decide) ⟨rfl, rfl, rfl, rfl, rfl, rfl, rfl, rfl, rfl, rfl, rfl, trivial⟩; clear S92
                  refine wl_op (k := 5) (k' := 6) rfl rfl rfl (wo_run rfl rfl (run_fieldAddr rfl rfl Try.underlying27 rfl (ce25) (nf25)) ?_)
                  refine wl_op (k := 6) (k' := 7) rfl rfl rfl (wo_storeB (i := 1) (us := [_]) (l' := [_, _]) (H' := [_, _, _, _, _, _, _, _, _, _, _]) rfl rfl S93 rfl rfl rfl (S93.cells1 (i := 7) rfl) sz25 rfl (ones_cons (S93.one (i := 7) rfl) rfl) rfl rfl ?_)
                  intro w93 S94; clear S93
                  refine wl_end rfl ?_
                  refine nm_blk ?_
                  refine nm_sub [(1, _), (3, _), (8, _), (10, _), (12, _), (14, _), (15, _), (16, _), (110, _), (111, _), (112, _)] ⟨rfl, rfl, rfl, rfl, rfl, rfl, rfl, rfl, rfl, rfl, rfl, trivial⟩ ?_
                  refine nm_thn ?_
                  refine ws_region rfl ?_
                  refine wl_op (k := 0) (k' := 1) rfl rfl rfl (wo_run rfl rfl (run_add rfl rfl rfl (by first | omega | (simp only [List.length_set, List.length_append, List.length_replicate, List.length_singleton, List.length_cons, List.length_nil]; omega))) ?_)
                  refine wl_op (k := 1) (k' := 2) rfl rfl rfl (wo_run rfl rfl (run_move rfl rfl) ?_)
                  refine wl_end rfl ?_
                  refine nm_lp ?_
                  intro ax_ hax_
                  refine ⟨_, ?hq2m, ⟨i + 1, _, _, _, (hle61), rfl, hax_.sub ⟨rfl, rfl, rfl, rfl, rfl, rfl, rfl, rfl, rfl, rfl, rfl, trivial⟩, S94.pick [1, 2, 3, 4, 5, 6, 7, 8, 9, 10] [_, _, _, _, _, _, _, _, _, _] (by decide) ⟨rfl, rfl, rfl, rfl, rfl, rfl, rfl, rfl, rfl, rfl, trivial⟩, ?hq2f0, ?hq2f1⟩⟩
                  case hq2f0 => first | assumption | omega
                  case hq2f1 => rw [take_ga _ _ (by omega), List.map_append, ← List.append_assoc, ← hacc]; rfl
                  case hq2m => omega
                · have hb113 := of_decide_eq_false hb113
                  obtain rfl : i = b.crs.length := by omega
                  have hcat : acc = catL a b := by rw [hacc, List.take_length]; rfl
                  have hcl : (catL a b).length = a.crs.length + b.crs.length := catL_len a b
                  refine ws_exit rfl rfl ?_
                  refine nm_sub [(1, _), (3, _), (8, _), (10, _), (12, _), (14, _), (15, _), (16, _)] ⟨rfl, rfl, rfl, rfl, rfl, rfl, rfl, rfl, trivial⟩ ?_
                  refine nm_thn ?_
                  refine ws_seqN Sum_n51 Sum_n52 rfl rfl rfl ?_
                  refine ws_cut (fun ax_ wx_ => ∃ (gbp : Nat) (gbq : Nat) (M62 : Hp), M61.le M62 ∧ Env 180 [(1, .int .i64 (xn : Int)), (3, .int .i64 (yn : Int)), (8, .pointer (some ⟨gb3, 0, none⟩)), (14, .int .i64 (a.crs.length : Int)), (15, .int .i64 (2 * (a.crs.length : Int))), (16, .pointer (some ⟨gb4, 0, none⟩)), (19, .pointer (some ⟨gbp, 0, none⟩)), (20, .pointer (some ⟨gbq, 0, none⟩))] ax_ ∧ SH wx_ M62 X [Rs.box gbp 84 [.int .i64 ((ga (tabL a false (4 * a.crs.length)) xn).1 : Int), .int .i64 ((ga (tabL a false (4 * a.crs.length)) xn).2 : Int)], Rs.box gbq 84 [.int .i64 ((ga (tabL b false (4 * b.crs.length)) yn).1 : Int), .int .i64 ((ga (tabL b false (4 * b.crs.length)) yn).2 : Int)], Rs.box gb4 27 [vro, .int .i64 (a.loops + b.loops)], Rs.box gsh3 81 [vshc3, .int .i64 b.loops, vshi3, vsho3], Rs.row cdCr vshc3 b.crs, Rs.row cdPl vshi3 (tabL b false (4 * b.crs.length)), Rs.row cdPl vsho3 (tabL b true (4 * b.crs.length)), Rs.box gsh1 81 [vshc1, .int .i64 a.loops, vshi1, vsho1], Rs.row cdCr vro acc, Rs.row cdPl vshi1 (tabL a false (4 * a.crs.length)), Rs.row cdPl vsho1 (tabL a true (4 * a.crs.length)), Rs.box gb3 27 [.slice none 0 0, .int .i64 0]]) ?_ ?_
                  · have ta : (tabL a false (4 * a.crs.length)).length = 2 * a.crs.length + 1 := tabL_len _ _ _
                    have tb : (tabL b false (4 * b.crs.length)).length = 2 * b.crs.length + 1 := tabL_len _ _ _
                    refine ws_draw rfl (by kernel_rfl) S84 18 rfl ?_
                    clear S84
                    refine wa_takeP (i := 0) (d := 143) 17 rfl (by kernel_rfl) (by kernel_rfl) (by kernel_rfl) rfl rfl rfl (fun w95 => run_move rfl rfl) ?_
                    refine wa_takeP (i := 1) (d := 144) 16 rfl (by kernel_rfl) (by kernel_rfl) (by kernel_rfl) rfl rfl rfl (fun w96 => run_nilCheck rfl rfl) ?_
                    refine wa_takeP (i := 2) (d := 145) 15 rfl (by kernel_rfl) (by kernel_rfl) (by kernel_rfl) rfl rfl rfl (fun w97 => run_fieldAddr rfl rfl Try.underlying81 rfl (ce79) (nf79)) ?_
                    refine wa_take (i := 3) (d := 146) 14 rfl (by kernel_rfl) (by kernel_rfl) (by kernel_rfl) rfl rfl rfl (fun M66 N64 w98 hle66 S99 => .inl (run_load1 rfl rfl Try.underlying79 rfl (S99.suf.boxc (i := 5) rfl rfl))) ?_
                    refine wa_takeP (i := 4) (d := 147) 13 rfl (by kernel_rfl) (by kernel_rfl) (by kernel_rfl) rfl rfl rfl (fun w99 => run_move rfl rfl) ?_
                    refine wa_take (i := 5) (d := 148) 12 rfl (by kernel_rfl) (by kernel_rfl) (by kernel_rfl) rfl rfl rfl (fun M68 N66 w100 hle68 S101 => .inl (run_indexR (C := cdPl) (i := 7) xn rfl rfl rfl sl79 S101.suf rfl (by first | rfl | omega) (by first | omega | (simp only [List.length_set, List.length_append, List.length_replicate, List.length_singleton, List.length_cons, List.length_nil]; omega)))) ?_
                    refine wa_take (i := 6) (d := 149) 11 rfl (by kernel_rfl) (by kernel_rfl) (by kernel_rfl) rfl rfl rfl (fun M69 N67 w101 hle69 S102 => .inl (run_loadN (us := [_, _]) rfl rfl Try.underlying84 rfl sz84 (S102.suf.rowcs (i := 7) (e := xn) (j := 0) rfl (by first | omega | (simp only [List.length_set, List.length_append, List.length_replicate, List.length_singleton, List.length_cons, List.length_nil]; omega)) ⟨rfl, rfl, trivial⟩))) ?_
                    refine wa_takeP (i := 7) (d := 150) 10 rfl (by kernel_rfl) (by kernel_rfl) (by kernel_rfl) rfl rfl rfl (fun w102 => run_move rfl rfl) ?_
                    refine wa_takeP (i := 8) (d := 151) 9 rfl (by kernel_rfl) (by kernel_rfl) (by kernel_rfl) rfl rfl rfl (fun w103 => run_nilCheck rfl rfl) ?_
                    refine wa_takeP (i := 9) (d := 152) 8 rfl (by kernel_rfl) (by kernel_rfl) (by kernel_rfl) rfl rfl rfl (fun w104 => run_fieldAddr rfl rfl Try.underlying81 rfl (ce79) (nf79)) ?_
                    refine wa_take (i := 10) (d := 153) 7 rfl (by kernel_rfl) (by kernel_rfl) (by kernel_rfl) rfl rfl rfl (fun M73 N71 w105 hle73 S106 => .inl (run_load1 rfl rfl Try.underlying79 rfl (S106.suf.boxc (i := 1) rfl rfl))) ?_
                    refine wa_takeP (i := 11) (d := 154) 6 rfl (by kernel_rfl) (by kernel_rfl) (by kernel_rfl) rfl rfl rfl (fun w106 => run_move rfl rfl) ?_
                    refine wa_take (i := 12) (d := 155) 5 rfl (by kernel_rfl) (by kernel_rfl) (by kernel_rfl) rfl rfl rfl (fun M75 N73 w107 hle75 S108 => .inl (run_indexR (C := cdPl) (i := 3) yn rfl rfl rfl sl79 S108.suf rfl (by first | rfl | omega) (by first | omega | (simp only [List.length_set, List.length_append, List.length_replicate, List.length_singleton, List.length_cons, List.length_nil]; omega)))) ?_
                    refine wa_take (i := 13) (d := 156) 4 rfl (by kernel_rfl) (by kernel_rfl) (by kernel_rfl) rfl rfl rfl (fun M76 N74 w108 hle76 S109 => .inl (run_loadN (us := [_, _]) rfl rfl Try.underlying84 rfl sz84 (S109.suf.rowcs (i := 3) (e := yn) (j := 0) rfl (by first | omega | (simp only [List.length_set, List.length_append, List.length_replicate, List.length_singleton, List.length_cons, List.length_nil]; omega)) ⟨rfl, rfl, trivial⟩))) ?_
                    refine wa_two (i := 14) (j := 15) 3 rfl rfl (by kernel_rfl) rfl rfl rfl rfl (fun w111 S112 => ?_) (fun w111 S112 => ?_)
                    · refine (wo_alloc (l := [_, _]) rfl rfl rfl zr84 rfl S112 ?_)
                      intro gb7 w112 S113; clear S112
                      refine LeftW.grow [_] (Hp.le_refl _) S113 ?_; clear S113
                      change WA _ _ _ _ _ _ _ _ _ _ _ _ [_, _, _, _, _, _, _, _, _, _, _]
                      refine wa_only (i := 15) 2 rfl (by kernel_rfl) rfl rfl (fun w114 S115 => ?_)
                      refine (wo_alloc (l := [_, _]) rfl rfl rfl zr84 rfl S115 ?_)
                      intro gb8 w115 S116; clear S115
                      refine LeftW.grow [_, _] (Hp.le_refl _) S116 ?_; clear S116
                      change WA _ _ _ _ _ _ _ _ _ _ _ _ [_, _, _, _, _, _, _, _, _, _, _, _]
                      refine wa_only (i := 16) 1 rfl (by kernel_rfl) rfl rfl (fun w117 S118 => ?_)
                      refine (wo_storeB (i := 1) (us := [_, _]) (l' := [_, _]) (H' := [_, _, _, _, _, _, _, _, _, _, _, _]) rfl rfl S118 rfl rfl rfl rfl sz84 rfl rfl rfl rfl ?_)
                      intro w118 S119; clear S118
                      refine LeftW.grow [_, _] (Hp.le_refl _) S119 ?_; clear S119
                      change WA _ _ _ _ _ _ _ _ _ _ _ _ [_, _, _, _, _, _, _, _, _, _, _, _]
                      refine wa_only (i := 17) 0 rfl (by kernel_rfl) rfl rfl (fun w120 S121 => ?_)
                      refine (wo_storeB (i := 0) (us := [_, _]) (l' := [_, _]) (H' := [_, _, _, _, _, _, _, _, _, _, _, _]) rfl rfl S121 rfl rfl rfl rfl sz84 rfl rfl rfl rfl ?_)
                      intro w121 S122; clear S121
                      refine LeftW.grow [_, _] (Hp.le_refl _) S122 ?_; clear S122
                      change WA _ _ _ _ _ _ _ _ _ _ _ _ [_, _, _, _, _, _, _, _, _, _, _, _]
                      refine wa_end (by kernel_rfl) (fun w122 S123 => ?_)
                      refine nm_lp ?_
                      intro ax_ hax_
                      refine ⟨_, _, _, (Hp.le_refl _), hax_.sub ⟨rfl, rfl, rfl, rfl, rfl, rfl, rfl, rfl, trivial⟩, S123.pick [1, 0, 2, 3, 4, 5, 6, 7, 8, 9, 10, 11] [_, _, _, _, _, _, _, _, _, _, _, _] (by decide) ⟨rfl, rfl, rfl, rfl, rfl, rfl, rfl, rfl, rfl, rfl, rfl, rfl, trivial⟩⟩
                    · refine (wo_alloc (l := [_, _]) rfl rfl rfl zr84 rfl S112 ?_)
                      intro gb9 w123 S124; clear S112
                      refine LeftW.grow [_] (Hp.le_refl _) S124 ?_; clear S124
                      change WA _ _ _ _ _ _ _ _ _ _ _ _ [_, _, _, _, _, _, _, _, _, _, _]
                      refine wa_only (i := 14) 2 rfl (by kernel_rfl) rfl rfl (fun w125 S126 => ?_)
                      refine (wo_alloc (l := [_, _]) rfl rfl rfl zr84 rfl S126 ?_)
                      intro gb10 w126 S127; clear S126
                      refine LeftW.grow [_, _] (Hp.le_refl _) S127 ?_; clear S127
                      change WA _ _ _ _ _ _ _ _ _ _ _ _ [_, _, _, _, _, _, _, _, _, _, _, _]
                      refine wa_only (i := 16) 1 rfl (by kernel_rfl) rfl rfl (fun w128 S129 => ?_)
                      refine (wo_storeB (i := 0) (us := [_, _]) (l' := [_, _]) (H' := [_, _, _, _, _, _, _, _, _, _, _, _]) rfl rfl S129 rfl rfl rfl rfl sz84 rfl rfl rfl rfl ?_)
                      intro w129 S130; clear S129
                      refine LeftW.grow [_, _] (Hp.le_refl _) S130 ?_; clear S130
                      change WA _ _ _ _ _ _ _ _ _ _ _ _ [_, _, _, _, _, _, _, _, _, _, _, _]
                      refine wa_only (i := 17) 0 rfl (by kernel_rfl) rfl rfl (fun w131 S132 => ?_)
                      refine (wo_storeB (i := 1) (us := [_, _]) (l' := [_, _]) (H' := [_, _, _, _, _, _, _, _, _, _, _, _]) rfl rfl S132 rfl rfl rfl rfl sz84 rfl rfl rfl rfl ?_)
                      intro w132 S133; clear S132
                      refine LeftW.grow [_, _] (Hp.le_refl _) S133 ?_; clear S133
                      change WA _ _ _ _ _ _ _ _ _ _ _ _ [_, _, _, _, _, _, _, _, _, _, _, _]
                      refine wa_end (by kernel_rfl) (fun w133 S134 => ?_)
                      refine nm_lp ?_
                      intro ax_ hax_
                      refine ⟨_, _, _, (Hp.le_refl _), hax_.sub ⟨rfl, rfl, rfl, rfl, rfl, rfl, rfl, rfl, trivial⟩, S134.pick [0, 1, 2, 3, 4, 5, 6, 7, 8, 9, 10, 11] [_, _, _, _, _, _, _, _, _, _, _, _] (by decide) ⟨rfl, rfl, rfl, rfl, rfl, rfl, rfl, rfl, rfl, rfl, rfl, rfl, trivial⟩⟩
                  · rintro a2 w94 ⟨gbp, gbq, M62, hle62, he2, S95⟩
                    clear S84
                    refine nm_in he2 ?_
                    clear he2 a2
                    replace hacrs := hacrs.mono (Hp.un_mono hle62 S95.mx)
                    replace hbcrs := hbcrs.mono (Hp.un_mono hle62 S95.mx)
                    refine nm_thn ?_
                    refine ws_seqN Sum_n53 Sum_n54 rfl rfl rfl ?_
                    obtain ⟨e1, e2, e3, _⟩ := endOf_lt harc23 (a := xn) (by omega) (by omega) false
                    obtain ⟨f1, f2, f3, _⟩ := endOf_lt harc28 (a := yn) (by omega) (by omega) false
                    have hpa : ga (tabL a false (4 * a.crs.length)) xn = endOf a xn false := by rw [tabL_get (by omega)]; exact e3
                    have hpb : ga (tabL b false (4 * b.crs.length)) yn = endOf b yn false := by rw [tabL_get (by omega)]; exact f3
                    rw [hpa, hpb] at S95
                    refine ws_draw rfl (by kernel_rfl) S95 11 rfl ?_
                    clear S95
                    refine wa_takeP (i := 0) (d := 157) 10 rfl (by kernel_rfl) (by kernel_rfl) (by kernel_rfl) rfl rfl rfl (fun w134 => run_fieldAddr rfl rfl Try.underlying27 rfl (ce25) (nf25)) ?_
                    refine wa_take (i := 1) (d := 158) 9 rfl (by kernel_rfl) (by kernel_rfl) (by kernel_rfl) rfl rfl rfl (fun M86 N84 w135 hle86 S136 => .inl (run_load1 rfl rfl Try.underlying25 rfl (S136.suf.boxc (i := 2) rfl rfl))) ?_
                    refine wa_takeP (i := 2) (d := 159) 8 rfl (by kernel_rfl) (by kernel_rfl) (by kernel_rfl) rfl rfl rfl (fun w136 => run_fieldAddr rfl rfl Try.underlying84 rfl (ce3) (nf3)) ?_
                    refine wa_take (i := 3) (d := 160) 7 rfl (by kernel_rfl) (by kernel_rfl) (by kernel_rfl) rfl rfl rfl (fun M88 N86 w137 hle88 S138 => .inl (run_load1 rfl rfl Try.underlying3 rfl (S138.suf.boxc (i := 0) rfl rfl))) ?_
                    refine wa_take (i := 4) (d := 161) 6 rfl (by kernel_rfl) (by kernel_rfl) (by kernel_rfl) rfl rfl rfl (fun M89 N87 w138 hle89 S139 => .inl (run_indexR (C := cdCr) (i := 8) ((endOf a xn false).1) rfl rfl rfl sl25 S139.suf rfl (by first | rfl | omega) (by first | omega | (simp only [List.length_set, List.length_append, List.length_replicate, List.length_singleton, List.length_cons, List.length_nil]; omega)))) ?_
                    refine wa_takeP (i := 5) (d := 162) 5 rfl (by kernel_rfl) (by kernel_rfl) (by kernel_rfl) rfl rfl rfl (fun w139 => run_fieldAddr rfl rfl Try.underlying84 rfl (ce3) (nf3)) ?_
                    refine wa_take (i := 6) (d := 163) 4 rfl (by kernel_rfl) (by kernel_rfl) (by kernel_rfl) rfl rfl rfl (fun M91 N89 w140 hle91 S141 => .inl (run_load1 rfl rfl Try.underlying3 rfl (S141.suf.boxc (i := 0) rfl rfl))) ?_
                    refine wa_takeP (i := 7) (d := 164) 3 rfl (by kernel_rfl) (by kernel_rfl) (by kernel_rfl) rfl rfl rfl (fun w141 => run_move rfl rfl) ?_
                    refine wa_takeP (i := 8) (d := 165) 2 rfl (by kernel_rfl) (by kernel_rfl) (by kernel_rfl) rfl rfl rfl (fun w142 => run_move rfl rfl) ?_
                    refine wa_takeP (i := 9) (d := 166) 1 rfl (by kernel_rfl) (by kernel_rfl) (by kernel_rfl) rfl rfl rfl (fun w143 => run_add rfl rfl rfl (by first | omega | (simp only [List.length_set, List.length_append, List.length_replicate, List.length_singleton, List.length_cons, List.length_nil]; omega))) ?_
                    refine wa_only (i := 10) 0 rfl (by kernel_rfl) rfl rfl (fun w145 S146 => ?_)
                    refine (wo_call rfl rfl rfl rfl rfl rfl rfl cf56 (R := fun _ w2 => SH w2 _ X _) (set_row (i := 8) (e := (endOf a xn false).1) (k := ((endOf a xn false).2)) S146 rfl (by first | omega | (simp only [List.length_set]; omega)) (by omega)) ?_)
                    intro _ w146 S147; clear S146
                    change SH _ _ _ [_, _, _, _, _, _, _, _, Rs.row cdCr vro (acc.set ((endOf a xn false).1) (setC (ga acc ((endOf a xn false).1)) ((endOf a xn false).2) ((yn : Int) + (2 * (a.crs.length : Int))))), _, _, _] at S147
                    refine LeftW.turn (by kernel_rfl) S147 ?_; clear S147
                    change WA _ _ _ _ _ _ _ _ _ _ _ _ [_, _, _, _, _, _, _, _, _, _, _, _]
                    refine wa_end (by kernel_rfl) (fun w147 S148 => ?_)
                    refine nm_sub [(1, _), (8, _), (14, _), (16, _), (20, _)] ⟨rfl, rfl, rfl, rfl, rfl, trivial⟩ ?_
                    refine nm_thn ?_
                    refine ws_seqN Sum_n55 Sum_n56 rfl rfl rfl ?_
                    refine ws_draw rfl (by kernel_rfl) S148 11 rfl ?_
                    clear S148
                    refine wa_takeP (i := 0) (d := 168) 10 rfl (by kernel_rfl) (by kernel_rfl) (by kernel_rfl) rfl rfl rfl (fun w148 => run_fieldAddr rfl rfl Try.underlying27 rfl (ce25) (nf25)) ?_
                    refine wa_take (i := 1) (d := 169) 9 rfl (by kernel_rfl) (by kernel_rfl) (by kernel_rfl) rfl rfl rfl (fun M97 N95 w149 hle97 S150 => .inl (run_load1 rfl rfl Try.underlying25 rfl (S150.suf.boxc (i := 2) rfl rfl))) ?_
                    refine wa_takeP (i := 2) (d := 170) 8 rfl (by kernel_rfl) (by kernel_rfl) (by kernel_rfl) rfl rfl rfl (fun w150 => run_move rfl rfl) ?_
                    refine wa_takeP (i := 3) (d := 171) 7 rfl (by kernel_rfl) (by kernel_rfl) (by kernel_rfl) rfl rfl rfl (fun w151 => run_fieldAddr rfl rfl Try.underlying84 rfl (ce3) (nf3)) ?_
                    refine wa_take (i := 4) (d := 172) 6 rfl (by kernel_rfl) (by kernel_rfl) (by kernel_rfl) rfl rfl rfl (fun M100 N98 w152 hle100 S153 => .inl (run_load1 rfl rfl Try.underlying3 rfl (S153.suf.boxc (i := 1) rfl rfl))) ?_
                    refine wa_takeP (i := 5) (d := 173) 5 rfl (by kernel_rfl) (by kernel_rfl) (by kernel_rfl) rfl rfl rfl (fun w153 => run_add rfl rfl rfl (by first | omega | (simp only [List.length_set, List.length_append, List.length_replicate, List.length_singleton, List.length_cons, List.length_nil]; omega))) ?_
                    refine wa_take (i := 6) (d := 174) 4 rfl (by kernel_rfl) (by kernel_rfl) (by kernel_rfl) rfl rfl rfl (fun M102 N100 w154 hle102 S155 => .inl (run_indexR (C := cdCr) (i := 8) (a.crs.length + (endOf b yn false).1) rfl rfl rfl sl25 S155.suf rfl (by first | rfl | omega) (by first | omega | (simp only [List.length_set, List.length_append, List.length_replicate, List.length_singleton, List.length_cons, List.length_nil]; omega)))) ?_
                    refine wa_takeP (i := 7) (d := 175) 3 rfl (by kernel_rfl) (by kernel_rfl) (by kernel_rfl) rfl rfl rfl (fun w155 => run_fieldAddr rfl rfl Try.underlying84 rfl (ce3) (nf3)) ?_
                    refine wa_take (i := 8) (d := 176) 2 rfl (by kernel_rfl) (by kernel_rfl) (by kernel_rfl) rfl rfl rfl (fun M104 N102 w156 hle104 S157 => .inl (run_load1 rfl rfl Try.underlying3 rfl (S157.suf.boxc (i := 1) rfl rfl))) ?_
                    refine wa_takeP (i := 9) (d := 177) 1 rfl (by kernel_rfl) (by kernel_rfl) (by kernel_rfl) rfl rfl rfl (fun w157 => run_move rfl rfl) ?_
                    refine wa_only (i := 10) 0 rfl (by kernel_rfl) rfl rfl (fun w159 S160 => ?_)
                    refine (wo_call rfl rfl rfl rfl rfl rfl rfl cf56 (R := fun _ w2 => SH w2 _ X _) (set_row (i := 8) (e := a.crs.length + (endOf b yn false).1) (k := ((endOf b yn false).2)) S160 rfl (by first | omega | (simp only [List.length_set]; omega)) (by omega)) ?_)
                    intro _ w160 S161; clear S160
                    change SH _ _ _ [_, _, _, _, _, _, _, _, Rs.row cdCr vro ((acc.set ((endOf a xn false).1) (setC (ga acc ((endOf a xn false).1)) ((endOf a xn false).2) ((yn : Int) + (2 * (a.crs.length : Int))))).set (a.crs.length + (endOf b yn false).1) (setC (ga (acc.set ((endOf a xn false).1) (setC (ga acc ((endOf a xn false).1)) ((endOf a xn false).2) ((yn : Int) + (2 * (a.crs.length : Int))))) (a.crs.length + (endOf b yn false).1)) ((endOf b yn false).2) (xn : Int))), _, _, _] at S161
                    refine LeftW.turn (by kernel_rfl) S161 ?_; clear S161
                    change WA _ _ _ _ _ _ _ _ _ _ _ _ [_, _, _, _, _, _, _, _, _, _, _, _]
                    refine wa_end (by kernel_rfl) (fun w161 S162 => ?_)
                    refine nm_sub [(8, _), (16, _)] ⟨rfl, rfl, trivial⟩ ?_
                    refine nm_thn ?_
                    refine ws_seqN Sum_n57 Sum_n58 rfl rfl rfl ?_
                    refine ws_region rfl ?_
                    refine wl_op (k := 0) (k' := 1) rfl rfl rfl (wo_run rfl rfl (run_loadN (us := [_, _]) rfl rfl Try.underlying27 rfl sz27 (S162.boxcs (i := 2) rfl ⟨rfl, rfl, trivial⟩)) ?_)
                    refine wl_op (k := 1) (k' := 2) rfl rfl rfl (wo_storeB (i := 11) (us := [_, _]) (l' := [_, _]) (H' := [_, _, _, _, _, _, _, _, _, _, _, _]) rfl rfl S162 rfl rfl rfl rfl sz27 rfl (ones_cons (S162.one (i := 8) rfl) (ones_cons rfl rfl)) rfl rfl ?_)
                    intro w162 S163; clear S162
                    refine wl_op (k := 2) (k' := 3) rfl rfl rfl (wo_run rfl rfl (run_assign rfl rfl) ?_)
                    refine wl_end rfl ?_
                    refine nm_sub [(8, _), (9, _)] ⟨rfl, rfl, trivial⟩ ?_
                    refine nm_thn ?_
                    obtain ⟨M107, hle107, S164, ⟨A1, c1, e1, hr1⟩⟩ := S163.pubrow (i := 8) (H' := [_, _, _, _, _, _, _, _, _, _, _, _]) rfl rfl (by show _ * 40 ≤ _; first | omega | (simp only [List.length_set, List.length_append, List.length_replicate, List.length_singleton, List.length_cons, List.length_nil]; omega))
                    clear S163; subst e1
                    replace hacrs := hacrs.mono (Hp.un_mono hle107 S164.mx)
                    replace hbcrs := hbcrs.mono (Hp.un_mono hle107 S164.mx)
                    refine ws_ret hC [_, _] rfl rfl ⟨⟨_, rfl, loadVarN (us := [_, _]) Try.underlying27 rfl sz27 (S164.boxcs (i := 11) rfl ⟨rfl, rfl, trivial⟩)⟩, rfl, trivial⟩ ?_
                    refine ⟨_, rfl, _, (hle61.trans hle62).trans hle107, (S164.pick [] [] (by decide) trivial), ?_⟩
                    have e0 : sumP a b xn yn = (⟨sumL a b xn yn, a.loops + b.loops⟩, 0) := by
                      simp only [sumP, hmay23, hmay28, Bool.and_self, if_true]
                      unfold sumR
                      rw [if_neg (by omega), if_neg (by omega)]; rfl
                    have e1 : sumL a b xn yn = (acc.set ((endOf a xn false).1) (setC (ga acc ((endOf a xn false).1)) ((endOf a xn false).2) ((yn : Int) + (2 * (a.crs.length : Int))))).set (a.crs.length + (endOf b yn false).1) (setC (ga (acc.set ((endOf a xn false).1) (setC (ga acc ((endOf a xn false).1)) ((endOf a xn false).2) ((yn : Int) + (2 * (a.crs.length : Int))))) (a.crs.length + (endOf b yn false).1)) ((endOf b yn false).2) (xn : Int)) := by rw [hcat]; rfl
                    rw [e0, e1]
                    exact ⟨_, _, rfl, hr1⟩

end Go.Proofs.Ytlbpgnimpcflaaa
