/- Walks printed by eng.py. -/
import Derived.Test.YtlbpgnimpcflaaaQ1
import Derived.Test.YtlbpgnimpcflaaaE16
set_option linter.unusedSimpArgs false
set_option linter.unusedVariables false
namespace Go.Proofs.Ytlbpgnimpcflaaa
open Go.ChangeShapes Go.WideShapes Go.ChangeAt Go.RowKit
noncomputable def Next_n0 : Code := Try.f83.body.getD .skip
noncomputable def Next_n1 : Code := cL Next_n0
noncomputable def Next_n2 : Code := cR Next_n0
noncomputable def Next_n3 : Code := cL Next_n2
noncomputable def Next_n4 : Code := cR Next_n2
noncomputable def Next_n5 : Code := cL Next_n4
noncomputable def Next_n6 : Code := cR Next_n4
set_option maxRecDepth 10000 in
theorem Next_q {w : World} {M : Hp} {X : Fr} (d : Dg) {gsh : Nat} {cA iA oA : Option Addr} {cc ic oc : Nat} (a : Int) (hsb : BxM (M.un X.h) gsh 81 [.slice cA d.crs.length cc, .int .i64 d.loops, .slice iA (tabL d false (4 * d.crs.length)).length ic, .slice oA (tabL d true (4 * d.crs.length)).length oc]) (hsc : RdA cdCr (M.un X.h) cA cc d.crs) (hsi : RdA cdPl (M.un X.h) iA ic (tabL d false (4 * d.crs.length))) (hso : RdA cdPl (M.un X.h) oA oc (tabL d true (4 * d.crs.length))) (hn : d.crs.length ≤ 16) (hab : arcsB d = true) (hx : 1 ≤ a ∧ a ≤ 2 * (d.crs.length : Int)) (S : SH w M X []) : Cq Try.prog 83 [.pointer (some ⟨gsh, 0, none⟩), .int .i64 a] w M X (fun u => u = .int .i64 (nextA d a)) := by
  unfold Cq
  obtain ⟨hE1, hE2, hE3, hE4, hE5⟩ := endD hab hx false
  have htf := tabL_len d false (4 * d.crs.length)
  have hx1 := hx.1
  have hx2 := hx.2
  refine calls_in (b := Next_n0) Try.func83 rfl Try.ntmps83 rfl (fun C hC => ?_)
  refine ws_sub [(0, _), (1, _)] ⟨rfl, rfl, trivial⟩ ?_
  refine ws_seqN Next_n1 Next_n2 rfl rfl rfl ?_
  refine ws_region rfl ?_
  refine wl_op (k := 0) (k' := 1) rfl rfl rfl (wo_run rfl rfl (run_assign rfl rfl) ?_)
  refine wl_end rfl ?_
  refine nm_sub [(0, _), (1, _)] ⟨rfl, rfl, trivial⟩ ?_
  refine nm_thn ?_
  refine ws_seqN Next_n3 Next_n4 rfl rfl rfl ?_
  refine ws_region rfl ?_
  refine wl_op (k := 0) (k' := 1) rfl rfl rfl (wo_run rfl rfl (run_move rfl rfl) ?_)
  refine wl_op (k := 1) (k' := 2) rfl rfl rfl (wo_run rfl rfl (run_nilCheck rfl rfl) ?_)
  refine wl_op (k := 2) (k' := 3) rfl rfl rfl (wo_run rfl rfl (run_fieldAddr rfl rfl Try.underlying81 rfl (ce79) (nf79)) ?_)
  refine wl_op (k := 3) (k' := 4) rfl rfl rfl (wo_run rfl rfl (run_load1 rfl rfl Try.underlying79 rfl (hsb.cell S.um rfl)) ?_)
  refine wl_op (k := 4) (k' := 5) rfl rfl rfl (wo_run rfl rfl (run_move rfl rfl) ?_)
  refine wl_op (k := 5) (k' := 6) rfl rfl rfl (wo_run rfl rfl (run_indexM (C := cdPl) a.toNat rfl rfl rfl sl79 (by first | rfl | omega) hsi (by first | omega | (simp only [List.length_set, List.length_append, List.length_replicate, List.length_singleton, List.length_cons, List.length_nil]; omega))) ?_)
  refine wl_op (k := 6) (k' := 7) rfl rfl rfl (wo_run rfl rfl (run_loadN (us := [_, _]) rfl rfl Try.underlying84 rfl sz84 (hsi.cellsAt S.um (e := a.toNat) (by first | omega | (simp only [List.length_set, List.length_append, List.length_replicate, List.length_singleton, List.length_cons, List.length_nil]; omega)) (j := 0) ⟨rfl, rfl, trivial⟩)) ?_)
  refine wl_op (k := 7) (k' := 8) rfl rfl rfl (wo_alloc (l := [_, _]) rfl rfl rfl zr84 rfl S ?_)
  intro gb1 w1 S1; clear S
  refine wl_op (k := 8) (k' := 9) rfl rfl rfl (wo_storeB (i := 0) (us := [_, _]) (l' := [_, _]) (H' := [_]) rfl rfl S1 rfl rfl rfl rfl sz84 rfl rfl rfl rfl ?_)
  intro w2 S2; clear S1
  refine wl_end rfl ?_
  refine nm_sub [(0, _), (5, _)] ⟨rfl, rfl, trivial⟩ ?_
  refine nm_thn ?_
  refine ws_seqN Next_n5 Next_n6 rfl rfl rfl ?_
  rw [hE3] at S2
  refine ws_region rfl ?_
  refine wl_op (k := 0) (k' := 1) rfl rfl rfl (wo_run rfl rfl (run_move rfl rfl) ?_)
  refine wl_op (k := 1) (k' := 2) rfl rfl rfl (wo_run rfl rfl (run_fieldAddr rfl rfl Try.underlying84 rfl (ce3) (nf3)) ?_)
  refine wl_op (k := 2) (k' := 3) rfl rfl rfl (wo_run rfl rfl (run_load1 rfl rfl Try.underlying3 rfl (S2.boxc (i := 0) rfl rfl)) ?_)
  refine wl_op (k := 3) (k' := 4) rfl rfl rfl (wo_run rfl rfl (run_fieldAddr rfl rfl Try.underlying84 rfl (ce3) (nf3)) ?_)
  refine wl_op (k := 4) (k' := 5) rfl rfl rfl (wo_run rfl rfl (run_load1 rfl rfl Try.underlying3 rfl (S2.boxc (i := 0) rfl rfl)) ?_)
  refine wl_op (k := 5) (k' := 6) rfl rfl rfl (wo_run rfl rfl (run_add rfl rfl rfl (by first | omega | (simp only [List.length_set, List.length_append, List.length_replicate, List.length_singleton, List.length_cons, List.length_nil]; omega))) ?_)
  refine wl_op (k := 6) (k' := 7) rfl rfl rfl (wo_run rfl rfl (run_rem rfl rfl rfl (by first | omega | (simp only [List.length_set, List.length_append, List.length_replicate, List.length_singleton, List.length_cons, List.length_nil]; omega))) ?_)
  refine wl_eq 19 (.int .i64 ((((endOf d a false).2 + 2) % 4 : Nat) : Int)) rfl (int_eq (by omega)) ?_
  have hlt4 : ((endOf d a false).2 + 2) % 4 < 4 := Nat.mod_lt _ (by decide)
  refine wl_op (k := 7) (k' := 8) rfl rfl rfl (wo_run rfl rfl (run_build (l := [_, _]) rfl rfl st84 rfl rfl) ?_)
  refine wl_op (k := 8) (k' := 9) rfl rfl rfl (wo_cq rfl rfl rfl rfl rfl rfl rfl cf96 S2 (At_q d ((endOf d a false).1) (((endOf d a false).2 + 2) % 4) (hsb.mono S2.un_XH) (hsc.mono S2.un_XH) (hsi.mono S2.un_XH) (hso.mono S2.un_XH) (by omega) (by omega) S2.lend) ?_)
  rintro _ w3 S3 rfl; clear S2
  refine wl_op (k := 9) (k' := 10) rfl rfl rfl (wo_run rfl rfl (run_assign rfl rfl) ?_)
  refine wl_end rfl ?_
  refine nm_sub [(4, _)] ⟨rfl, trivial⟩ ?_
  refine nm_thn ?_
  refine ws_ret hC [_] rfl rfl ⟨rfl, trivial⟩ ?_
  exact ⟨_, rfl, (S3.pick [] [] (by decide) trivial), rfl⟩

theorem rings_many (nx : Nat → Nat) (N A : Nat) : (ringsF nx N A).2.length ≤ A := by
  induction A with
  | zero => simp [ringsF]
  | succ A ih =>
    unfold ringsF
    dsimp only
    split
    · omega
    · rw [List.length_append]
      show _ + 1 ≤ _
      omega

noncomputable def Rings_n0 : Code := Try.f82.body.getD .skip
noncomputable def Rings_n1 : Code := cL Rings_n0
noncomputable def Rings_n2 : Code := cR Rings_n0
noncomputable def Rings_n3 : Code := cL Rings_n2
noncomputable def Rings_n4 : Code := cR Rings_n2
noncomputable def Rings_n5 : Code := cL Rings_n4
noncomputable def Rings_n6 : Code := cR Rings_n4
noncomputable def Rings_n7 : Code := cL Rings_n6
noncomputable def Rings_n8 : Code := cR Rings_n6
noncomputable def Rings_n9 : Code := cL Rings_n7
noncomputable def Rings_n10 : Code := cR Rings_n7
noncomputable def Rings_n11 : Code := cL Rings_n10
noncomputable def Rings_n12 : Code := cL Rings_n11
noncomputable def Rings_n13 : Code := cL Rings_n12
noncomputable def Rings_n14 : Code := cR Rings_n12
noncomputable def Rings_n15 : Code := cL Rings_n13
noncomputable def Rings_n16 : Code := cR Rings_n13
noncomputable def Rings_n17 : Code := cL Rings_n16
noncomputable def Rings_n18 : Code := cR Rings_n16
noncomputable def Rings_n19 : Code := cL Rings_n14
noncomputable def Rings_n20 : Code := cR Rings_n14
noncomputable def Rings_n21 : Code := cL Rings_n19
noncomputable def Rings_n22 : Code := cL Rings_n21
noncomputable def Rings_n23 : Code := cR Rings_n21
noncomputable def Rings_n24 : Code := cL Rings_n22
noncomputable def Rings_n25 : Code := cR Rings_n22
noncomputable def Rings_n26 : Code := cL Rings_n25
noncomputable def Rings_n27 : Code := cR Rings_n25
noncomputable def Rings_n28 : Code := cL Rings_n23
noncomputable def Rings_n29 : Code := cR Rings_n23
noncomputable def Rings_n30 : Code := cL Rings_n29
noncomputable def Rings_n31 : Code := cR Rings_n29
noncomputable def Rings_n32 : Code := cL Rings_n30
noncomputable def Rings_n33 : Code := cR Rings_n30
noncomputable def Rings_n34 : Code := cL Rings_n33
noncomputable def Rings_n35 : Code := cL Rings_n34
noncomputable def Rings_n36 : Code := cL Rings_n35
noncomputable def Rings_n37 : Code := cR Rings_n35
noncomputable def Rings_n38 : Code := cL Rings_n36
noncomputable def Rings_n39 : Code := cR Rings_n36
noncomputable def Rings_n40 : Code := cL Rings_n39
noncomputable def Rings_n41 : Code := cR Rings_n39
noncomputable def Rings_n42 : Code := cL Rings_n37
noncomputable def Rings_n43 : Code := cR Rings_n37
noncomputable def Rings_n44 : Code := cL Rings_n42
noncomputable def Rings_n45 : Code := cL Rings_n44
noncomputable def Rings_n46 : Code := cR Rings_n44
noncomputable def Rings_n47 : Code := cL Rings_n8
noncomputable def Rings_n48 : Code := cR Rings_n8
set_option maxHeartbeats 1000000 in
set_option maxRecDepth 10000 in
theorem Rings_t {w : World} {M : Hp} {X : Fr} (d : Dg) {gsh : Nat} {cA iA oA : Option Addr} {cc ic oc : Nat} (fv : FuncId) (bnd cap : List Value) (nx : Nat → Nat) (hsb : BxM (M.un X.h) gsh 81 [.slice cA d.crs.length cc, .int .i64 d.loops, .slice iA (tabL d false (4 * d.crs.length)).length ic, .slice oA (tabL d true (4 * d.crs.length)).length oc]) (hsc : RdA cdCr (M.un X.h) cA cc d.crs) (hsi : RdA cdPl (M.un X.h) iA ic (tabL d false (4 * d.crs.length))) (hso : RdA cdPl (M.un X.h) oA oc (tabL d true (4 * d.crs.length))) (hen : ∀ args w, (callFunc fv args).run Try.prog w = .ok (.enter fv args) w) (hnx : ∀ x, 1 ≤ x → x ≤ 2 * d.crs.length → 1 ≤ nx x ∧ nx x ≤ 2 * d.crs.length) (hf : ∀ (w : World) (N : Hp) (Y : Fr), (M.un X.h).le (N.un Y.h) → SH w N Y [] → ∀ x : Nat, 1 ≤ x → x ≤ 2 * d.crs.length → Cq Try.prog fv (bnd ++ ([.int .i64 (x : Int)] ++ cap)) w N Y (fun u => u = .int .i64 (nx x : Int))) (hn : d.crs.length ≤ 16) (S : SH w M X []) : Ct Try.prog 82 [.pointer (some ⟨gsh, 0, none⟩), .func (.func fv) bnd.toArray cap.toArray] w M X (fun u N => ∃ A c vs, u = .slice A vs.length c ∧ RdA (cdV 44) N A c vs ∧ Rd2 cdInt N vs (ringsF nx (2 * d.crs.length + 1) (2 * d.crs.length)).2) := by
  unfold Ct
  refine calls_in (b := Rings_n0) Try.func82 rfl Try.ntmps82 rfl (fun C hC => ?_)
  refine ws_sub [(0, _), (1, _)] ⟨rfl, rfl, trivial⟩ ?_
  refine ws_seqN Rings_n1 Rings_n2 rfl rfl rfl ?_
  refine ws_region rfl ?_
  refine wl_op (k := 0) (k' := 1) rfl rfl rfl (wo_run rfl rfl (run_assign rfl rfl) ?_)
  refine wl_end rfl ?_
  refine nm_sub [(0, _), (1, _)] ⟨rfl, rfl, trivial⟩ ?_
  refine nm_thn ?_
  refine ws_seqN Rings_n3 Rings_n4 rfl rfl rfl ?_
  refine ws_region rfl ?_
  refine wl_op (k := 0) (k' := 1) rfl rfl rfl (wo_run rfl rfl (run_move rfl rfl) ?_)
  refine wl_op (k := 1) (k' := 2) rfl rfl rfl (wo_cq rfl rfl rfl rfl rfl rfl rfl cf55 S (Arcs_q d  (hsb.mono S.un_XH) (hsc.mono S.un_XH) (hsi.mono S.un_XH) (hso.mono S.un_XH) (by omega) S.lend) ?_)
  rintro _ w1 S1 rfl; clear S
  refine wl_op (k := 2) (k' := 3) rfl rfl rfl (wo_run rfl rfl (run_add rfl rfl rfl (by first | omega | (simp only [List.length_set, List.length_append, List.length_replicate, List.length_singleton, List.length_cons, List.length_nil]; omega))) ?_)
  refine wl_op (k := 3) (k' := 4) rfl rfl rfl (wo_make (C := cdBool) ((2 * (d.crs.length : Int)).toNat + 1) rfl rfl rfl rfl rfl sl23 (by first | rfl | omega) (by show _ * 1 ≤ _; first | omega | (simp only [List.length_set, List.length_append, List.length_replicate, List.length_singleton, List.length_cons, List.length_nil]; omega)) S1 ?_)
  intro vr1 w2 S2; clear S1
  refine wl_op (k := 4) (k' := 5) rfl rfl rfl (wo_run rfl rfl (run_assign rfl rfl) ?_)
  refine wl_end rfl ?_
  refine nm_sub [(0, _), (1, _), (5, _)] ⟨rfl, rfl, rfl, trivial⟩ ?_
  refine nm_thn ?_
  refine ws_seqN Rings_n5 Rings_n6 rfl rfl rfl ?_
  refine ws_region rfl ?_
  refine wl_op (k := 0) (k' := 1) rfl rfl rfl (wo_run rfl rfl (run_assign rfl rfl) ?_)
  refine wl_end rfl ?_
  refine nm_thn ?_
  refine ws_seqN Rings_n7 Rings_n8 rfl rfl rfl ?_
  refine ws_seqN Rings_n9 Rings_n10 rfl rfl rfl ?_
  refine ws_region rfl ?_
  refine wl_op (k := 0) (k' := 1) rfl rfl rfl (wo_run rfl rfl (run_assign rfl rfl) ?_)
  refine wl_end rfl ?_
  refine nm_thn ?_
  refine ws_blockN Rings_n11 0 rfl rfl rfl ?_
  have S3 := S2.nilrow (cdV 44); clear S2
  refine ws_loopE (fun mx_ ax_ wx_ => ∃ (A : Nat) (seen : List Bool) (outc : List (List Int)) (vs : List SlV) (vrs : Value) (vro : Value) (M1 : Hp), M.le M1 ∧ mx_ = 2 * d.crs.length - A ∧ Env 45 [(0, .pointer (some ⟨gsh, 0, none⟩)), (1, .func (.func fv) bnd.toArray cap.toArray), (5, vrs), (6, vro), (7, .int .i64 ((A + 1 : Nat) : Int))] ax_ ∧ SH wx_ M1 X [Rs.row (cdV 44) vro vs, Rs.row cdBool vrs seen] ∧ A ≤ 2 * d.crs.length ∧ ringsF nx (2 * d.crs.length + 1) A = (seen, outc) ∧ Rd2 cdInt M1 vs outc) rfl ?_ ?_
  · intro ax_ hax_
    refine ⟨_, ⟨0, _, [], _, _, _, _, Hp.le_refl _, rfl, hax_.sub ⟨rfl, rfl, rfl, rfl, rfl, trivial⟩, S3.pick [0, 1] [_, _] (by decide) ⟨rfl, rfl, trivial⟩, ?hq1f0, ?hq1f1, ?hq1f2⟩⟩
    case hq1f0 => omega
    case hq1f1 => rfl
    case hq1f2 => exact Rd2.nil_
  · rintro m1 a1 w3 ⟨A, seen, outc, vs, vrs, vro, M1, hle1, rfl, he1, S4, hA, hfn, hdo⟩
    clear S3
    refine ws_in he1 (c := Rings_n12) rfl ?_
    clear he1 a1
    replace hsb := hsb.mono (Hp.un_mono hle1 S4.mx)
    replace hsc := hsc.mono (Hp.un_mono hle1 S4.mx)
    replace hsi := hsi.mono (Hp.un_mono hle1 S4.mx)
    replace hso := hso.mono (Hp.un_mono hle1 S4.mx)
    have hvs := hdo.1
    have hmany := rings_many nx (2 * d.crs.length + 1) A
    rw [hfn] at hmany
    replace hmany : outc.length ≤ A := hmany
    have hsl : seen.length = 2 * d.crs.length + 1 := by have h9 := ringsF_len nx (2 * d.crs.length + 1) A; rw [hfn] at h9; exact h9
    refine ws_seqN Rings_n13 Rings_n14 rfl rfl rfl ?_
    refine ws_seqN Rings_n15 Rings_n16 rfl rfl rfl ?_
    refine ws_region rfl ?_
    refine wl_op (k := 0) (k' := 1) rfl rfl rfl (wo_run rfl rfl (run_move rfl rfl) ?_)
    refine wl_op (k := 1) (k' := 2) rfl rfl rfl (wo_run rfl rfl (run_move rfl rfl) ?_)
    refine wl_op (k := 2) (k' := 3) rfl rfl rfl (wo_cq rfl rfl rfl rfl rfl rfl rfl cf55 S4 (Arcs_q d  (hsb.mono S4.un_XH) (hsc.mono S4.un_XH) (hsi.mono S4.un_XH) (hso.mono S4.un_XH) (by omega) S4.lend) ?_)
    rintro _ w4 S5 rfl; clear S4
    refine wl_op (k := 3) (k' := 4) rfl rfl rfl (wo_run rfl rfl (run_leq rfl rfl rfl) ?_)
    refine wl_end rfl ?_
    refine nm_sub [(0, _), (1, _), (5, _), (6, _), (7, _), (17, _)] ⟨rfl, rfl, rfl, rfl, rfl, rfl, trivial⟩ ?_
    refine nm_thn ?_
    refine ws_condN Rings_n17 Rings_n18 rfl rfl rfl rfl (fun hb17 => ?_) (fun hb17 => ?_)
    · have hb17 := of_decide_eq_true hb17
      refine ws_skip rfl ?_
      refine nm_sub [(0, _), (1, _), (5, _), (6, _), (7, _)] ⟨rfl, rfl, rfl, rfl, rfl, trivial⟩ ?_
      refine nm_thn ?_
      refine ws_seqN Rings_n19 Rings_n20 rfl rfl rfl ?_
      refine ws_blockN Rings_n21 1 rfl rfl rfl ?_
      refine ws_seqN Rings_n22 Rings_n23 rfl rfl rfl ?_
      refine ws_seqN Rings_n24 Rings_n25 rfl rfl rfl ?_
      refine ws_region rfl ?_
      refine wl_op (k := 0) (k' := 1) rfl rfl rfl (wo_run rfl rfl (run_move rfl rfl) ?_)
      refine wl_op (k := 1) (k' := 2) rfl rfl rfl (wo_run rfl rfl (run_move rfl rfl) ?_)
      refine wl_op (k := 2) (k' := 3) rfl rfl rfl (wo_run rfl rfl (run_indexR (C := cdBool) (i := 1) (A + 1) rfl rfl rfl sl23 S5 rfl (by first | rfl | omega) (by first | omega | (simp only [List.length_set, List.length_append, List.length_replicate, List.length_singleton, List.length_cons, List.length_nil]; omega))) ?_)
      refine wl_op (k := 3) (k' := 4) rfl rfl rfl (wo_run rfl rfl (run_load1 rfl rfl Try.underlying4 rfl (S5.rowc (i := 1) (e := A + 1) (j := 0) rfl (by first | omega | (simp only [List.length_set, List.length_append, List.length_replicate, List.length_singleton, List.length_cons, List.length_nil]; omega)) rfl rfl)) ?_)
      refine wl_end rfl ?_
      refine nm_sub [(0, _), (1, _), (5, _), (6, _), (7, _), (23, _)] ⟨rfl, rfl, rfl, rfl, rfl, rfl, trivial⟩ ?_
      refine nm_thn ?_
      refine ws_condN Rings_n26 Rings_n27 rfl rfl rfl rfl (fun hb23 => ?_) (fun hb23 => ?_)
      · refine ws_exit rfl rfl ?_
        refine nm_sub [(0, _), (1, _), (5, _), (6, _), (7, _)] ⟨rfl, rfl, rfl, rfl, rfl, trivial⟩ ?_
        refine nm_thn ?_
        refine ws_region rfl ?_
        refine wl_op (k := 0) (k' := 1) rfl rfl rfl (wo_run rfl rfl (run_move rfl rfl) ?_)
        refine wl_op (k := 1) (k' := 2) rfl rfl rfl (wo_run rfl rfl (run_add rfl rfl rfl (by first | omega | (simp only [List.length_set, List.length_append, List.length_replicate, List.length_singleton, List.length_cons, List.length_nil]; omega))) ?_)
        refine wl_op (k := 2) (k' := 3) rfl rfl rfl (wo_run rfl rfl (run_assign rfl rfl) ?_)
        refine wl_end rfl ?_
        refine nm_lp ?_
        intro ax_ hax_
        refine ⟨_, ?hq2m, ⟨A + 1, _, outc, _, _, _, _, (hle1), rfl, hax_.sub ⟨rfl, rfl, rfl, rfl, rfl, trivial⟩, S5.pick [0, 1] [_, _] (by decide) ⟨rfl, rfl, trivial⟩, ?hq2f0, ?hq2f1, ?hq2f2⟩⟩
        case hq2f0 => omega
        case hq2f1 => first | exact (ringsF_skip (by rw [hfn]; exact hb23)).trans hfn | (rw [ringsF_ring (by rw [hfn]; simpa using hb23), hfn]; dsimp only; rw [hrg, ringF_stop (by simpa using hb29)])
        case hq2f2 => exact hdo
        case hq2m => omega
      · refine ws_skip rfl ?_
        refine nm_sub [(0, _), (1, _), (5, _), (6, _), (7, _)] ⟨rfl, rfl, rfl, rfl, rfl, trivial⟩ ?_
        refine nm_thn ?_
        refine ws_seqN Rings_n28 Rings_n29 rfl rfl rfl ?_
        refine ws_region rfl ?_
        refine wl_op (k := 0) (k' := 1) rfl rfl rfl (wo_run rfl rfl (run_assign rfl rfl) ?_)
        refine wl_end rfl ?_
        refine nm_thn ?_
        refine ws_seqN Rings_n30 Rings_n31 rfl rfl rfl ?_
        refine ws_seqN Rings_n32 Rings_n33 rfl rfl rfl ?_
        refine ws_region rfl ?_
        refine wl_op (k := 0) (k' := 1) rfl rfl rfl (wo_run rfl rfl (run_move rfl rfl) ?_)
        refine wl_op (k := 1) (k' := 2) rfl rfl rfl (wo_run rfl rfl (run_assign rfl rfl) ?_)
        refine wl_end rfl ?_
        refine nm_sub [(0, _), (1, _), (5, _), (6, _), (7, _), (8, _), (9, _)] ⟨rfl, rfl, rfl, rfl, rfl, rfl, rfl, trivial⟩ ?_
        refine nm_thn ?_
        refine ws_blockN Rings_n34 2 rfl rfl rfl ?_
        have S6 := S5.nilrow cdInt; clear S5
        refine ws_loopE (fun mx_ ax_ wx_ => ∃ (seen2 : List Bool) (x : Nat) (acc : List Int) (vrs2 : Value) (vring : Value), mx_ = free seen2 ∧ Env 45 [(0, .pointer (some ⟨gsh, 0, none⟩)), (1, .func (.func fv) bnd.toArray cap.toArray), (5, vrs2), (6, vro), (7, .int .i64 ((A + 1 : Nat) : Int)), (8, vring), (9, .int .i64 (x : Int))] ax_ ∧ SH wx_ M1 X [Rs.row cdInt vring acc, Rs.row (cdV 44) vro vs, Rs.row cdBool vrs2 seen2] ∧ ringF nx seen (A + 1) [] = ringF nx seen2 x acc ∧ (1 ≤ x ∧ x ≤ 2 * d.crs.length) ∧ seen2.length = 2 * d.crs.length + 1 ∧ acc.length + free seen2 ≤ 100) rfl ?_ ?_
        · intro ax_ hax_
          refine ⟨_, ⟨seen, A + 1, [], _, _, rfl, hax_.sub ⟨rfl, rfl, rfl, rfl, rfl, rfl, rfl, trivial⟩, S6.pick [0, 1, 2] [_, _, _] (by decide) ⟨rfl, rfl, rfl, trivial⟩, ?hq3f0, ?hq3f1, ?hq3f2, ?hq3f3⟩⟩
          case hq3f0 => rfl
          case hq3f1 => omega
          case hq3f2 => exact hsl
          case hq3f3 => (have h8 : free seen ≤ seen.length := List.countP_le_length; simp only [List.length_nil]; omega)
        · rintro m2 a2 w5 ⟨seen2, x, acc, vrs2, vring, rfl, he2, S7, hrg, hx, hs2, hroom⟩
          clear S6
          refine ws_in he2 (c := Rings_n35) rfl ?_
          clear he2 a2
          refine ws_seqN Rings_n36 Rings_n37 rfl rfl rfl ?_
          refine ws_seqN Rings_n38 Rings_n39 rfl rfl rfl ?_
          refine ws_region rfl ?_
          refine wl_op (k := 0) (k' := 1) rfl rfl rfl (wo_run rfl rfl (run_move rfl rfl) ?_)
          refine wl_op (k := 1) (k' := 2) rfl rfl rfl (wo_run rfl rfl (run_move rfl rfl) ?_)
          refine wl_op (k := 2) (k' := 3) rfl rfl rfl (wo_run rfl rfl (run_indexR (C := cdBool) (i := 2) x rfl rfl rfl sl23 S7 rfl (by first | rfl | omega) (by first | omega | (simp only [List.length_set, List.length_append, List.length_replicate, List.length_singleton, List.length_cons, List.length_nil]; omega))) ?_)
          refine wl_op (k := 3) (k' := 4) rfl rfl rfl (wo_run rfl rfl (run_load1 rfl rfl Try.underlying4 rfl (S7.rowc (i := 2) (e := x) (j := 0) rfl (by first | omega | (simp only [List.length_set, List.length_append, List.length_replicate, List.length_singleton, List.length_cons, List.length_nil]; omega)) rfl rfl)) ?_)
          refine wl_op (k := 4) (k' := 5) rfl rfl rfl (wo_run rfl rfl (run_not rfl rfl) ?_)
          refine wl_end rfl ?_
          refine nm_sub [(0, _), (1, _), (5, _), (6, _), (7, _), (8, _), (9, _), (29, _)] ⟨rfl, rfl, rfl, rfl, rfl, rfl, rfl, rfl, trivial⟩ ?_
          refine nm_thn ?_
          refine ws_condN Rings_n40 Rings_n41 rfl rfl rfl rfl (fun hb29 => ?_) (fun hb29 => ?_)
          · simp only [Bool.and_eq_true, Bool.or_eq_true, Bool.and_eq_false_iff, Bool.or_eq_false_iff, decide_eq_true_eq, decide_eq_false_iff_not, Bool.not_eq_true', Bool.not_eq_false'] at hb29
            refine ws_skip rfl ?_
            refine nm_sub [(0, _), (1, _), (5, _), (6, _), (7, _), (8, _), (9, _)] ⟨rfl, rfl, rfl, rfl, rfl, rfl, rfl, trivial⟩ ?_
            refine nm_thn ?_
            refine ws_seqN Rings_n42 Rings_n43 rfl rfl rfl ?_
            refine ws_blockN Rings_n44 3 rfl rfl rfl ?_
            refine ws_seqN Rings_n45 Rings_n46 rfl rfl rfl ?_
            refine ws_region rfl ?_
            refine wl_op (k := 0) (k' := 1) rfl rfl rfl (wo_run rfl rfl (run_move rfl rfl) ?_)
            refine wl_op (k := 1) (k' := 2) rfl rfl rfl (wo_run rfl rfl (run_move rfl rfl) ?_)
            refine wl_op (k := 2) (k' := 3) rfl rfl rfl (wo_run rfl rfl (run_indexR (C := cdBool) (i := 2) x rfl rfl rfl sl23 S7 rfl (by first | rfl | omega) (by first | omega | (simp only [List.length_set, List.length_append, List.length_replicate, List.length_singleton, List.length_cons, List.length_nil]; omega))) ?_)
            refine wl_op (k := 3) (k' := 4) rfl rfl rfl (wo_storeR (C := cdBool) (i := 2) (e := x) (j := 0) (us := [_]) (H' := [_, _, _]) true rfl rfl S7 rfl (by first | omega | (simp only [List.length_set, List.length_append, List.length_replicate, List.length_singleton, List.length_cons, List.length_nil]; omega)) rfl rfl rfl sz4 rfl rfl rfl rfl ?_)
            intro w6 S8; clear S7
            refine wl_end rfl ?_
            refine nm_sub [(0, _), (1, _), (5, _), (6, _), (7, _), (8, _), (9, _)] ⟨rfl, rfl, rfl, rfl, rfl, rfl, rfl, trivial⟩ ?_
            refine nm_thn ?_
            refine ws_region rfl ?_
            refine wl_op (k := 0) (k' := 1) rfl rfl rfl (wo_run rfl rfl (run_move rfl rfl) ?_)
            refine wl_op (k := 1) (k' := 2) rfl rfl rfl (wo_run rfl rfl (run_move rfl rfl) ?_)
            refine wl_op (k := 2) (k' := 3) rfl rfl rfl (wo_buildSlice1 (C := cdInt) (l := [_]) rfl rfl rfl rfl sl44 rfl rfl rfl rfl S8 ?_)
            intro gb1 w7 S9; clear S8
            refine wl_op (k := 3) (k' := 4) rfl rfl rfl (wo_append1 (C := cdInt) (i := 1) (q := 0) (x : Int) rfl rfl rfl rfl rfl rfl rfl rfl sl44 S9 rfl rfl rfl (by show (_ + 1) * 8 ≤ _; first | omega | (simp only [List.length_set, List.length_append, List.length_replicate, List.length_singleton, List.length_cons, List.length_nil]; omega)) ?_)
            intro vring1 w8 S10; clear S9
            have S11 := S10.pick [1, 2, 3] [_, _, _] (by decide) ⟨rfl, rfl, rfl, trivial⟩; clear S10
            refine wl_op (k := 4) (k' := 5) rfl rfl rfl (wo_run rfl rfl (run_assign rfl rfl) ?_)
            refine wl_end rfl ?_
            refine nm_blk ?_
            refine nm_sub [(0, _), (1, _), (5, _), (6, _), (7, _), (8, _), (9, _)] ⟨rfl, rfl, rfl, rfl, rfl, rfl, rfl, trivial⟩ ?_
            refine nm_thn ?_
            refine ws_region rfl ?_
            refine wl_op (k := 0) (k' := 1) rfl rfl rfl (wo_run rfl rfl (run_move rfl rfl) ?_)
            refine wl_op (k := 1) (k' := 2) rfl rfl rfl (wo_run rfl rfl (run_move rfl rfl) ?_)
            refine wl_op (k := 2) (k' := 3) rfl rfl rfl (wo_cqB rfl rfl rfl rfl rfl rfl rfl hen S11 (hf _ _ _ ((Hp.un_mono (hle1) S11.mx).trans S11.un_XH) S11.lend x hx.1 hx.2) ?_)
            rintro _ w9 S12 rfl; clear S11
            refine wl_op (k := 3) (k' := 4) rfl rfl rfl (wo_run rfl rfl (run_assign rfl rfl) ?_)
            refine wl_end rfl ?_
            refine nm_lp ?_
            have hga : ga seen2 x = false := by simpa using hb29
            have hfr := free_set (seen := seen2) (x := x) (by omega) hga
            intro ax_ hax_
            refine ⟨_, ?hq4m, ⟨seen2.set x true, nx x, acc ++ [(x : Int)], _, _, rfl, hax_.sub ⟨rfl, rfl, rfl, rfl, rfl, rfl, rfl, trivial⟩, S12.pick [0, 1, 2] [_, _, _] (by decide) ⟨rfl, rfl, rfl, trivial⟩, ?hq4f0, ?hq4f1, ?hq4f2, ?hq4f3⟩⟩
            case hq4f0 => (rw [hrg]; exact ringF_go (by omega) hga)
            case hq4f1 => exact hnx x hx.1 hx.2
            case hq4f2 => (rw [List.length_set]; exact hs2)
            case hq4f3 => (simp only [List.length_append, List.length_cons, List.length_nil]; omega)
            case hq4m => omega
          · simp only [Bool.and_eq_true, Bool.or_eq_true, Bool.and_eq_false_iff, Bool.or_eq_false_iff, decide_eq_true_eq, decide_eq_false_iff_not, Bool.not_eq_true', Bool.not_eq_false'] at hb29
            refine ws_exit rfl rfl ?_
            refine nm_sub [(0, _), (1, _), (5, _), (6, _), (7, _), (8, _)] ⟨rfl, rfl, rfl, rfl, rfl, rfl, trivial⟩ ?_
            refine nm_thn ?_
            refine ws_region rfl ?_
            refine wl_op (k := 0) (k' := 1) rfl rfl rfl (wo_run rfl rfl (run_move rfl rfl) ?_)
            refine wl_op (k := 1) (k' := 2) rfl rfl rfl (wo_run rfl rfl (run_move rfl rfl) ?_)
            obtain ⟨M2, hle3, S13, ⟨A1, c1, e1, hr1⟩⟩ := S7.pubrow (i := 0) (H' := [_, _, _]) rfl rfl (by show _ * 8 ≤ _; first | omega | (simp only [List.length_set, List.length_append, List.length_replicate, List.length_singleton, List.length_cons, List.length_nil]; omega))
            clear S7; subst e1
            replace hsb := hsb.mono (Hp.un_mono hle3 S13.mx)
            replace hsc := hsc.mono (Hp.un_mono hle3 S13.mx)
            replace hsi := hsi.mono (Hp.un_mono hle3 S13.mx)
            replace hso := hso.mono (Hp.un_mono hle3 S13.mx)
            replace hdo := hdo.mono hle3
            refine wl_op (k := 2) (k' := 3) rfl rfl rfl (wo_buildSlice1 (C := (cdV 44)) (l := [_]) rfl rfl rfl rfl sl37 rfl rfl rfl rfl S13 ?_)
            intro gb2 w10 S14; clear S13
            refine wl_op (k := 3) (k' := 4) rfl rfl rfl (wo_append1 (C := (cdV 44)) (i := 2) (q := 0) (⟨A1, acc.length, c1⟩ : SlV) rfl rfl rfl rfl rfl rfl rfl rfl sl37 S14 rfl rfl rfl (by show (_ + 1) * 24 ≤ _; first | omega | (simp only [List.length_set, List.length_append, List.length_replicate, List.length_singleton, List.length_cons, List.length_nil]; omega)) ?_)
            intro vro1 w11 S15; clear S14
            have S16 := S15.pick [1, 2, 3] [_, _, _] (by decide) ⟨rfl, rfl, rfl, trivial⟩; clear S15
            have hd1 := hdo.snoc (c := c1) hr1
            refine wl_op (k := 4) (k' := 5) rfl rfl rfl (wo_run rfl rfl (run_assign rfl rfl) ?_)
            refine wl_end rfl ?_
            refine nm_blk ?_
            refine nm_sub [(0, _), (1, _), (5, _), (6, _), (7, _)] ⟨rfl, rfl, rfl, rfl, rfl, trivial⟩ ?_
            refine nm_thn ?_
            refine ws_region rfl ?_
            refine wl_op (k := 0) (k' := 1) rfl rfl rfl (wo_run rfl rfl (run_move rfl rfl) ?_)
            refine wl_op (k := 1) (k' := 2) rfl rfl rfl (wo_run rfl rfl (run_add rfl rfl rfl (by first | omega | (simp only [List.length_set, List.length_append, List.length_replicate, List.length_singleton, List.length_cons, List.length_nil]; omega))) ?_)
            refine wl_op (k := 2) (k' := 3) rfl rfl rfl (wo_run rfl rfl (run_assign rfl rfl) ?_)
            refine wl_end rfl ?_
            refine nm_lp ?_
            intro ax_ hax_
            refine ⟨_, ?hq5m, ⟨A + 1, _, (outc ++ [acc]), _, _, _, _, (hle1.trans hle3), rfl, hax_.sub ⟨rfl, rfl, rfl, rfl, rfl, trivial⟩, S16.pick [1, 2] [_, _] (by decide) ⟨rfl, rfl, trivial⟩, ?hq5f0, ?hq5f1, ?hq5f2⟩⟩
            case hq5f0 => omega
            case hq5f1 => first | exact (ringsF_skip (by rw [hfn]; exact hb23)).trans hfn | (rw [ringsF_ring (by rw [hfn]; simpa using hb23), hfn]; dsimp only; rw [hrg, ringF_stop (by simpa using hb29)])
            case hq5f2 => exact hd1
            case hq5m => omega
    · have hb17 := of_decide_eq_false hb17
      refine ws_exit rfl rfl ?_
      refine nm_sub [(6, _)] ⟨rfl, trivial⟩ ?_
      refine nm_thn ?_
      refine ws_seqN Rings_n47 Rings_n48 rfl rfl rfl ?_
      refine ws_region rfl ?_
      refine wl_op (k := 0) (k' := 1) rfl rfl rfl (wo_run rfl rfl (run_move rfl rfl) ?_)
      refine wl_op (k := 1) (k' := 2) rfl rfl rfl (wo_run rfl rfl (run_assign rfl rfl) ?_)
      refine wl_end rfl ?_
      refine nm_sub [(4, _)] ⟨rfl, trivial⟩ ?_
      refine nm_thn ?_
      obtain ⟨M3, hle4, S17, ⟨A2, c2, e2, hr2⟩⟩ := S5.pubrow (i := 0) (H' := [_, _]) rfl rfl (by show _ * 24 ≤ _; first | omega | (simp only [List.length_set, List.length_append, List.length_replicate, List.length_singleton, List.length_cons, List.length_nil]; omega))
      clear S5; subst e2
      replace hsb := hsb.mono (Hp.un_mono hle4 S17.mx)
      replace hsc := hsc.mono (Hp.un_mono hle4 S17.mx)
      replace hsi := hsi.mono (Hp.un_mono hle4 S17.mx)
      replace hso := hso.mono (Hp.un_mono hle4 S17.mx)
      replace hdo := hdo.mono hle4
      refine ws_ret hC [_] rfl rfl ⟨rfl, trivial⟩ ?_
      refine ⟨_, rfl, _, hle1.trans hle4, (S17.pick [] [] (by decide) trivial), ?_⟩
      obtain rfl : A = 2 * d.crs.length := by omega
      rw [hfn]
      exact ⟨_, _, _, rfl, hr2, hdo⟩

theorem Next_U {w : World} {M N : Hp} {Y : Fr} {d : Dg} {gsh : Nat} {cA iA oA : Option Addr} {cc ic oc : Nat} (hsb : BxM M gsh 81 [.slice cA d.crs.length cc, .int .i64 d.loops, .slice iA (tabL d false (4 * d.crs.length)).length ic, .slice oA (tabL d true (4 * d.crs.length)).length oc]) (hsc : RdA cdCr M cA cc d.crs) (hsi : RdA cdPl M iA ic (tabL d false (4 * d.crs.length))) (hso : RdA cdPl M oA oc (tabL d true (4 * d.crs.length))) (hn : d.crs.length ≤ 16) (hab : arcsB d = true) {x : Nat} (h1 : 1 ≤ x) (h2 : x ≤ 2 * d.crs.length) (S : SH w N Y []) (hl : M.le (N.un Y.h)) :
    Cq Try.prog 83 ([.pointer (some ⟨gsh, 0, none⟩)] ++ ([.int .i64 (x : Int)] ++ [])) w N Y (fun u => u = .int .i64 (nextN d x : Int)) := by
  have e := (nextN_eq hab h1 h2).1
  rw [← e]
  exact Next_q d (x : Int) (hsb.mono hl) (hsc.mono hl) (hsi.mono hl) (hso.mono hl) hn hab (by omega) S

noncomputable def Strands_n0 : Code := Try.f59.body.getD .skip
noncomputable def Strands_n1 : Code := cL Strands_n0
noncomputable def Strands_n2 : Code := cR Strands_n0
noncomputable def Strands_n3 : Code := cL Strands_n2
noncomputable def Strands_n4 : Code := cR Strands_n2
set_option maxRecDepth 10000 in
theorem Strands_t {w : World} {M : Hp} {X : Fr} (d : Dg) {gsh : Nat} {cA iA oA : Option Addr} {cc ic oc : Nat} (hsb : BxM (M.un X.h) gsh 81 [.slice cA d.crs.length cc, .int .i64 d.loops, .slice iA (tabL d false (4 * d.crs.length)).length ic, .slice oA (tabL d true (4 * d.crs.length)).length oc]) (hsc : RdA cdCr (M.un X.h) cA cc d.crs) (hsi : RdA cdPl (M.un X.h) iA ic (tabL d false (4 * d.crs.length))) (hso : RdA cdPl (M.un X.h) oA oc (tabL d true (4 * d.crs.length))) (hn : d.crs.length ≤ 16) (hab : arcsB d = true) (S : SH w M X []) : Ct Try.prog 59 [.pointer (some ⟨gsh, 0, none⟩)] w M X (fun u N => ∃ A c vs, u = .slice A vs.length c ∧ RdA (cdV 44) N A c vs ∧ Rd2 cdInt N vs (strandsL d)) := by
  unfold Ct
  refine calls_in (b := Strands_n0) Try.func59 rfl Try.ntmps59 rfl (fun C hC => ?_)
  refine ws_sub [(0, _)] ⟨rfl, trivial⟩ ?_
  refine ws_seqN Strands_n1 Strands_n2 rfl rfl rfl ?_
  refine ws_region rfl ?_
  refine wl_op (k := 0) (k' := 1) rfl rfl rfl (wo_run rfl rfl (run_assign rfl rfl) ?_)
  refine wl_end rfl ?_
  refine nm_sub [(0, _)] ⟨rfl, trivial⟩ ?_
  refine nm_thn ?_
  refine ws_seqN Strands_n3 Strands_n4 rfl rfl rfl ?_
  refine ws_region rfl ?_
  refine wl_op (k := 0) (k' := 1) rfl rfl rfl (wo_run rfl rfl (run_move rfl rfl) ?_)
  refine wl_op (k := 1) (k' := 2) rfl rfl rfl (wo_run rfl rfl (run_move rfl rfl) ?_)
  refine wl_op (k := 2) (k' := 3) rfl rfl rfl (wo_run rfl rfl (run_makeFuncB (us := [_]) (vs := []) rfl rfl rfl rfl rfl) ?_)
  refine wl_op (k := 3) (k' := 4) rfl rfl rfl (wo_ct rfl rfl rfl rfl rfl rfl rfl cf82 S (Rings_t d 83 [.pointer (some ⟨gsh, 0, none⟩)] [] (nextN d) (hsb.mono S.un_XH) (hsc.mono S.un_XH) (hsi.mono S.un_XH) (hso.mono S.un_XH) cf83 (fun x h1 h2 => (nextN_eq hab h1 h2).2) (fun w9 N9 Y9 hl9 S9 x9 h1 h2 => Next_U ((hsb.mono S.un_XH)) ((hsc.mono S.un_XH)) ((hsi.mono S.un_XH)) ((hso.mono S.un_XH)) hn hab h1 h2 S9 hl9) hn S.lend) ?_)
  intro vw1 w1 M1 hle1 S1 hRw1; clear S
  replace hsb := hsb.mono (Hp.un_mono hle1 S1.mx)
  replace hsc := hsc.mono (Hp.un_mono hle1 S1.mx)
  replace hsi := hsi.mono (Hp.un_mono hle1 S1.mx)
  replace hso := hso.mono (Hp.un_mono hle1 S1.mx)
  obtain ⟨A1, c1, vs1, rfl, hr1, hd1⟩ := hRw1
  refine wl_op (k := 4) (k' := 5) rfl rfl rfl (wo_run rfl rfl (run_assign rfl rfl) ?_)
  refine wl_end rfl ?_
  refine nm_sub [(2, _)] ⟨rfl, trivial⟩ ?_
  refine nm_thn ?_
  refine ws_ret hC [_] rfl rfl ⟨rfl, trivial⟩ ?_
  refine ⟨_, rfl, _, hle1, (S1.pick [] [] (by decide) trivial), ?_⟩
  exact ⟨_, _, _, rfl, hr1, hd1⟩

end Go.Proofs.Ytlbpgnimpcflaaa
