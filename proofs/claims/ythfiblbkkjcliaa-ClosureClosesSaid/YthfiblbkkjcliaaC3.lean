/- Walks printed by eng.py. -/
import Derived.Test.YthfiblbkkjcliaaC2
set_option linter.unusedSimpArgs false
set_option linter.unusedVariables false
namespace Go.Proofs.Ythfiblbkkjcliaa
open Go.ChangeShapes Go.WideShapes Go.ChangeAt Go.RowKit
noncomputable def Close_n0 : Code := Try.f15.body.getD .skip
noncomputable def Close_n1 : Code := cL Close_n0
noncomputable def Close_n2 : Code := cR Close_n0
noncomputable def Close_n3 : Code := cL Close_n2
noncomputable def Close_n4 : Code := cR Close_n2
noncomputable def Close_n5 : Code := cL Close_n3
noncomputable def Close_n6 : Code := cR Close_n3
noncomputable def Close_n7 : Code := cL Close_n6
noncomputable def Close_n8 : Code := cR Close_n6
noncomputable def Close_n9 : Code := cL Close_n8
noncomputable def Close_n10 : Code := cR Close_n8
noncomputable def Close_n11 : Code := cL Close_n9
noncomputable def Close_n12 : Code := cR Close_n9
noncomputable def Close_n13 : Code := cL Close_n4
noncomputable def Close_n14 : Code := cR Close_n4
noncomputable def Close_n15 : Code := cL Close_n13
noncomputable def Close_n16 : Code := cR Close_n13
noncomputable def Close_n17 : Code := cL Close_n16
noncomputable def Close_n18 : Code := cR Close_n16
noncomputable def Close_n19 : Code := cL Close_n17
noncomputable def Close_n20 : Code := cR Close_n17
noncomputable def Close_n21 : Code := cL Close_n14
noncomputable def Close_n22 : Code := cR Close_n14
noncomputable def Close_n23 : Code := cL Close_n22
noncomputable def Close_n24 : Code := cR Close_n22
noncomputable def Close_n25 : Code := cL Close_n24
noncomputable def Close_n26 : Code := cR Close_n24
noncomputable def Close_n27 : Code := cL Close_n26
noncomputable def Close_n28 : Code := cR Close_n26
noncomputable def Close_n29 : Code := cL Close_n28
noncomputable def Close_n30 : Code := cR Close_n28
noncomputable def Close_n31 : Code := cL Close_n29
noncomputable def Close_n32 : Code := cR Close_n29
noncomputable def Close_n33 : Code := cL Close_n32
noncomputable def Close_n34 : Code := cL Close_n33
noncomputable def Close_n35 : Code := cL Close_n34
noncomputable def Close_n36 : Code := cR Close_n34
noncomputable def Close_n37 : Code := cL Close_n35
noncomputable def Close_n38 : Code := cR Close_n35
noncomputable def Close_n39 : Code := cL Close_n38
noncomputable def Close_n40 : Code := cR Close_n38
noncomputable def Close_n41 : Code := cL Close_n36
noncomputable def Close_n42 : Code := cR Close_n36
noncomputable def Close_n43 : Code := cL Close_n41
noncomputable def Close_n44 : Code := cL Close_n43
noncomputable def Close_n45 : Code := cR Close_n43
noncomputable def Close_n46 : Code := cL Close_n44
noncomputable def Close_n47 : Code := cR Close_n44
noncomputable def Close_n48 : Code := cL Close_n47
noncomputable def Close_n49 : Code := cR Close_n47
noncomputable def Close_n50 : Code := cL Close_n45
noncomputable def Close_n51 : Code := cR Close_n45
noncomputable def Close_n52 : Code := cL Close_n51
noncomputable def Close_n53 : Code := cR Close_n51
noncomputable def Close_n54 : Code := cL Close_n53
noncomputable def Close_n55 : Code := cR Close_n53
noncomputable def Close_n56 : Code := cL Close_n54
noncomputable def Close_n57 : Code := cR Close_n54
noncomputable def Close_n58 : Code := cL Close_n57
noncomputable def Close_n59 : Code := cL Close_n58
noncomputable def Close_n60 : Code := cL Close_n59
noncomputable def Close_n61 : Code := cR Close_n59
noncomputable def Close_n62 : Code := cL Close_n60
noncomputable def Close_n63 : Code := cR Close_n60
noncomputable def Close_n64 : Code := cL Close_n63
noncomputable def Close_n65 : Code := cR Close_n63
noncomputable def Close_n66 : Code := cL Close_n61
noncomputable def Close_n67 : Code := cL Close_n66
noncomputable def Close_n68 : Code := cR Close_n66
noncomputable def Close_n69 : Code := cL Close_n68
noncomputable def Close_n70 : Code := cR Close_n68
noncomputable def Close_n71 : Code := cL Close_n70
noncomputable def Close_n72 : Code := cL Close_n71
noncomputable def Close_n73 : Code := cL Close_n72
noncomputable def Close_n74 : Code := cR Close_n72
noncomputable def Close_n75 : Code := cL Close_n74
noncomputable def Close_n76 : Code := cR Close_n74
noncomputable def Close_n77 : Code := cL Close_n75
noncomputable def Close_n78 : Code := cR Close_n75
noncomputable def Close_n79 : Code := cL Close_n76
noncomputable def Close_n80 : Code := cR Close_n76
noncomputable def Close_n81 : Code := cL Close_n79
noncomputable def Close_n82 : Code := cL Close_n81
noncomputable def Close_n83 : Code := cR Close_n81
noncomputable def Close_n84 : Code := cL Close_n83
noncomputable def Close_n85 : Code := cR Close_n83
noncomputable def Close_n86 : Code := cL Close_n85
noncomputable def Close_n87 : Code := cR Close_n85
noncomputable def Close_n88 : Code := cL Close_n87
noncomputable def Close_n89 : Code := cR Close_n87
noncomputable def Close_n90 : Code := cL Close_n88
noncomputable def Close_n91 : Code := cR Close_n88
noncomputable def Close_n92 : Code := cL Close_n91
noncomputable def Close_n93 : Code := cL Close_n92
noncomputable def Close_n94 : Code := cR Close_n92
noncomputable def Close_n95 : Code := cL Close_n94
noncomputable def Close_n96 : Code := cR Close_n94
noncomputable def Close_n97 : Code := cL Close_n89
noncomputable def Close_n98 : Code := cR Close_n89
noncomputable def Close_n99 : Code := cL Close_n98
noncomputable def Close_n100 : Code := cR Close_n98
noncomputable def Close_n101 : Code := cL Close_n96
noncomputable def Close_n102 : Code := cR Close_n96
noncomputable def Close_n103 : Code := cL Close_n102
noncomputable def Close_n104 : Code := cR Close_n102
noncomputable def Close_n105 : Code := cL Close_n55
noncomputable def Close_n106 : Code := cR Close_n55
noncomputable def Close_n107 : Code := cL Close_n106
noncomputable def Close_n108 : Code := cR Close_n106
noncomputable def Close_n109 : Code := cL Close_n30
noncomputable def Close_n110 : Code := cR Close_n30
noncomputable def Close_n111 : Code := cL Close_n109
noncomputable def Close_n112 : Code := cR Close_n109
noncomputable def Close_n113 : Code := cL Close_n112
noncomputable def Close_n114 : Code := cL Close_n113
noncomputable def Close_n115 : Code := cL Close_n114
noncomputable def Close_n116 : Code := cR Close_n114
noncomputable def Close_n117 : Code := cL Close_n116
noncomputable def Close_n118 : Code := cR Close_n116
noncomputable def Close_n119 : Code := cL Close_n117
noncomputable def Close_n120 : Code := cR Close_n117
noncomputable def Close_n121 : Code := cL Close_n118
noncomputable def Close_n122 : Code := cR Close_n118
noncomputable def Close_n123 : Code := cL Close_n121
noncomputable def Close_n124 : Code := cL Close_n123
noncomputable def Close_n125 : Code := cR Close_n123
noncomputable def Close_n126 : Code := cL Close_n125
noncomputable def Close_n127 : Code := cR Close_n125
noncomputable def Close_n128 : Code := cL Close_n127
noncomputable def Close_n129 : Code := cR Close_n127
noncomputable def Close_n130 : Code := cL Close_n128
noncomputable def Close_n131 : Code := cR Close_n128
noncomputable def Close_n132 : Code := cL Close_n131
noncomputable def Close_n133 : Code := cR Close_n131
noncomputable def Close_n134 : Code := cL Close_n110
noncomputable def Close_n135 : Code := cR Close_n110
set_option maxRecDepth 10000 in
theorem Close_t {w : World} {M : Hp} {X : Fr} (n : Int) (l : List Int) {lA : Option Addr} {lc : Nat} (hl : RdA cdInt (M.un X.h) lA lc l) (S : SH w M X []) : Ct Try.prog 15 [.int .i64 n, .slice lA l.length lc] w M X (DgE (closeR n l)) := by
  unfold Ct
  have rmhl : l.length * 8 ≤ 140737488355328 := hl.room
  refine calls_in (b := Close_n0) Try.func15 rfl Try.ntmps15 rfl (fun C hC => ?_)
  refine ws_sub [(0, _), (1, _)] ⟨rfl, rfl, trivial⟩ ?_
  refine ws_seqN Close_n1 Close_n2 rfl rfl rfl ?_
  refine ws_region rfl ?_
  refine wl_op (k := 0) (k' := 1) rfl rfl rfl (wo_alloc (l := [_, _]) rfl rfl rfl zr38 rfl S ?_)
  intro gb1 w1 S1; clear S
  refine wl_op (k := 1) (k' := 2) rfl rfl rfl (wo_run rfl rfl (run_assign rfl rfl) ?_)
  refine wl_end rfl ?_
  refine nm_sub [(0, _), (1, _), (4, _)] ⟨rfl, rfl, rfl, trivial⟩ ?_
  refine nm_thn ?_
  refine ws_seqN Close_n3 Close_n4 rfl rfl rfl ?_
  refine ws_seqN Close_n5 Close_n6 rfl rfl rfl ?_
  refine ws_region rfl ?_
  refine wl_op (k := 0) (k' := 1) rfl rfl rfl (wo_run rfl rfl (run_move rfl rfl) ?_)
  refine wl_op (k := 1) (k' := 2) rfl rfl rfl (wo_run rfl rfl (run_move rfl rfl) ?_)
  refine wl_op (k := 2) (k' := 3) rfl rfl rfl (wo_buildSlice1 (C := (cdV 22)) (l := [_]) rfl rfl rfl rfl sl27 rfl rfl rfl rfl S1 ?_)
  intro gb2 w2 S2; clear S1
  have hr1 := S2.lendBox (C := (cdV 22)) (z := (⟨lA, l.length, lc⟩ : SlV)) (i := 0) rfl rfl (by decide)
  have hd1 : Rd2 cdInt _ [(⟨lA, l.length, lc⟩ : SlV)] [l] := Rd2.nil_.snoc (hl.mono S2.un_XH)
  have hcall1 := Check_q n [l] hr1 hd1 S2.lend
  refine wl_op (k := 3) (k' := 4) rfl rfl rfl (wo_cq rfl rfl rfl rfl rfl rfl rfl cf22 S2 (hcall1) ?_)
  rintro _ w3 S3 rfl; clear S2
  refine wl_op (k := 4) (k' := 5) rfl rfl rfl (wo_run rfl rfl (run_assign rfl rfl) ?_)
  refine wl_end rfl ?_
  refine nm_sub [(0, _), (1, _), (4, _), (6, _)] ⟨rfl, rfl, rfl, rfl, trivial⟩ ?_
  refine nm_thn ?_
  refine ws_seqN Close_n7 Close_n8 rfl rfl rfl ?_
  refine ws_region rfl ?_
  refine wl_op (k := 0) (k' := 1) rfl rfl rfl (wo_run rfl rfl (run_move rfl rfl) ?_)
  refine wl_op (k := 1) (k' := 2) rfl rfl rfl (wo_run rfl rfl (run_neq rfl rfl rfl) ?_)
  refine wl_end rfl ?_
  refine nm_sub [(0, _), (1, _), (4, _), (6, _), (28, _)] ⟨rfl, rfl, rfl, rfl, rfl, trivial⟩ ?_
  refine nm_thn ?_
  refine ws_condN Close_n9 Close_n10 rfl rfl rfl rfl (fun hb28 => ?_) (fun hb28 => ?_)
  · have hb28 := of_decide_eq_true hb28
    refine ws_seqN Close_n11 Close_n12 rfl rfl rfl ?_
    refine ws_region rfl ?_
    refine wl_op (k := 0) (k' := 1) rfl rfl rfl (wo_run rfl rfl (run_build (l := [_, _]) rfl rfl st38 rfl rfl) ?_)
    refine wl_op (k := 1) (k' := 2) rfl rfl rfl (wo_run rfl rfl (run_move rfl rfl) ?_)
    refine wl_op (k := 2) (k' := 3) rfl rfl rfl (wo_storeB (i := 1) (us := [_, _]) (l' := [_, _]) (H' := [_, _]) rfl rfl S3 rfl rfl rfl rfl sz38 rfl rfl rfl rfl ?_)
    intro w4 S4; clear S3
    refine wl_op (k := 3) (k' := 4) rfl rfl rfl (wo_run rfl rfl (run_assign rfl rfl) ?_)
    refine wl_end rfl ?_
    refine nm_sub [(4, _), (5, _)] ⟨rfl, rfl, trivial⟩ ?_
    refine nm_thn ?_
    refine ws_ret hC [_, _] rfl rfl ⟨⟨_, rfl, loadVarN (us := [_, _]) Try.underlying38 rfl sz38 (S4.boxcs (i := 1) rfl ⟨rfl, rfl, trivial⟩)⟩, rfl, trivial⟩ ?_
    refine ⟨_, rfl, _, Hp.le_refl _, (S4.pick [] [] (by decide) trivial), ?_⟩
    unfold closeR
    rw [if_pos (by omega)]
    exact ⟨none, 0, rfl, RdA.nil_⟩
  · have hb28 := of_decide_eq_false hb28
    have hck : checkI n [l] = 0 := by omega
    obtain ⟨hn1, hn2, hwl, hwb⟩ := check_ok hck
    obtain ⟨m, rfl⟩ : ∃ m : Nat, n = (m : Int) := ⟨n.toNat, by omega⟩
    refine ws_skip rfl ?_
    refine nm_sub [(0, _), (1, _), (4, _)] ⟨rfl, rfl, rfl, trivial⟩ ?_
    refine nm_thn ?_
    refine ws_seqN Close_n13 Close_n14 rfl rfl rfl ?_
    refine ws_seqN Close_n15 Close_n16 rfl rfl rfl ?_
    refine ws_region rfl ?_
    refine wl_op (k := 0) (k' := 1) rfl rfl rfl (wo_run rfl rfl (run_move rfl rfl) ?_)
    refine wl_op (k := 1) (k' := 2) rfl rfl rfl (wo_run rfl rfl (run_len rfl rfl rfl rfl rfl rfl Try.underlying22) ?_)
    refine wl_op (k := 2) (k' := 3) rfl rfl rfl (wo_run rfl rfl (run_gtr rfl rfl rfl) ?_)
    refine wl_end rfl ?_
    refine nm_sub [(0, _), (1, _), (4, _), (33, _)] ⟨rfl, rfl, rfl, rfl, trivial⟩ ?_
    refine nm_thn ?_
    refine ws_condN Close_n17 Close_n18 rfl rfl rfl rfl (fun hb33 => ?_) (fun hb33 => ?_)
    · have hb33 := of_decide_eq_true hb33
      refine ws_seqN Close_n19 Close_n20 rfl rfl rfl ?_
      refine ws_region rfl ?_
      refine wl_op (k := 0) (k' := 1) rfl rfl rfl (wo_run rfl rfl (run_build (l := [_, _]) rfl rfl st38 rfl rfl) ?_)
      refine wl_op (k := 1) (k' := 2) rfl rfl rfl (wo_storeB (i := 1) (us := [_, _]) (l' := [_, _]) (H' := [_, _]) rfl rfl S3 rfl rfl rfl rfl sz38 rfl rfl rfl rfl ?_)
      intro w5 S5; clear S3
      refine wl_op (k := 2) (k' := 3) rfl rfl rfl (wo_run rfl rfl (run_assign rfl rfl) ?_)
      refine wl_end rfl ?_
      refine nm_sub [(4, _), (5, _)] ⟨rfl, rfl, trivial⟩ ?_
      refine nm_thn ?_
      refine ws_ret hC [_, _] rfl rfl ⟨⟨_, rfl, loadVarN (us := [_, _]) Try.underlying38 rfl sz38 (S5.boxcs (i := 1) rfl ⟨rfl, rfl, trivial⟩)⟩, rfl, trivial⟩ ?_
      refine ⟨_, rfl, _, Hp.le_refl _, (S5.pick [] [] (by decide) trivial), ?_⟩
      unfold closeR
      rw [if_neg (by omega), if_pos (by omega)]
      exact ⟨none, 0, rfl, RdA.nil_⟩
    · have hb33 := of_decide_eq_false hb33
      refine ws_skip rfl ?_
      refine nm_sub [(0, _), (1, _), (4, _)] ⟨rfl, rfl, rfl, trivial⟩ ?_
      refine nm_thn ?_
      refine ws_seqN Close_n21 Close_n22 rfl rfl rfl ?_
      refine ws_region rfl ?_
      refine wl_op (k := 0) (k' := 1) rfl rfl rfl (wo_run rfl rfl (run_move rfl rfl) ?_)
      refine wl_op (k := 1) (k' := 2) rfl rfl rfl (wo_run rfl rfl (run_len rfl rfl rfl rfl rfl rfl Try.underlying22) ?_)
      refine wl_op (k := 2) (k' := 3) rfl rfl rfl (wo_make (C := cdA4) l.length rfl rfl rfl rfl rfl sl57 (by first | rfl | omega) (by show _ * 32 ≤ _; first | omega | (simp only [List.length_set, List.length_append, List.length_replicate, List.length_singleton, List.length_cons, List.length_nil]; omega)) S3 ?_)
      intro vr1 w6 S6; clear S3
      refine wl_op (k := 3) (k' := 4) rfl rfl rfl (wo_run rfl rfl (run_assign rfl rfl) ?_)
      refine wl_end rfl ?_
      refine nm_sub [(0, _), (1, _), (4, _), (7, _)] ⟨rfl, rfl, rfl, rfl, trivial⟩ ?_
      refine nm_thn ?_
      refine ws_seqN Close_n23 Close_n24 rfl rfl rfl ?_
      refine ws_region rfl ?_
      refine wl_op (k := 0) (k' := 1) rfl rfl rfl (wo_run rfl rfl (run_build (l := [_, _]) rfl rfl st38 rfl rfl) ?_)
      refine wl_op (k := 1) (k' := 2) rfl rfl rfl (wo_alloc (l := [_, _]) rfl rfl rfl zr38 rfl S6 ?_)
      intro gb3 w7 S7; clear S6
      refine wl_op (k := 2) (k' := 3) rfl rfl rfl (wo_storeB (i := 0) (us := [_, _]) (l' := [_, _]) (H' := [_, _, _, _]) rfl rfl S7 rfl rfl rfl rfl sz38 rfl rfl rfl rfl ?_)
      intro w8 S8; clear S7
      refine wl_end rfl ?_
      refine nm_sub [(0, _), (1, _), (4, _), (7, _), (8, _)] ⟨rfl, rfl, rfl, rfl, rfl, trivial⟩ ?_
      refine nm_thn ?_
      refine ws_seqN Close_n25 Close_n26 rfl rfl rfl ?_
      refine ws_region rfl ?_
      refine wl_op (k := 0) (k' := 1) rfl rfl rfl (wo_run rfl rfl (run_move rfl rfl) ?_)
      refine wl_op (k := 1) (k' := 2) rfl rfl rfl (wo_run rfl rfl (run_add rfl rfl rfl (by first | omega | (simp only [List.length_set, List.length_append, List.length_replicate, List.length_singleton, List.length_cons, List.length_nil]; omega))) ?_)
      refine wl_op (k := 2) (k' := 3) rfl rfl rfl (wo_make (C := cdBool) (m + 1) rfl rfl rfl rfl rfl sl58 (by first | rfl | omega) (by show _ * 1 ≤ _; first | omega | (simp only [List.length_set, List.length_append, List.length_replicate, List.length_singleton, List.length_cons, List.length_nil]; omega)) S8 ?_)
      intro vr2 w9 S9; clear S8
      refine wl_op (k := 3) (k' := 4) rfl rfl rfl (wo_run rfl rfl (run_assign rfl rfl) ?_)
      refine wl_end rfl ?_
      refine nm_sub [(0, _), (1, _), (4, _), (7, _), (8, _), (9, _)] ⟨rfl, rfl, rfl, rfl, rfl, rfl, trivial⟩ ?_
      refine nm_thn ?_
      refine ws_seqN Close_n27 Close_n28 rfl rfl rfl ?_
      refine ws_region rfl ?_
      refine wl_op (k := 0) (k' := 1) rfl rfl rfl (wo_run rfl rfl (run_assign rfl rfl) ?_)
      refine wl_end rfl ?_
      refine nm_thn ?_
      refine ws_seqN Close_n29 Close_n30 rfl rfl rfl ?_
      refine ws_seqN Close_n31 Close_n32 rfl rfl rfl ?_
      refine ws_region rfl ?_
      refine wl_op (k := 0) (k' := 1) rfl rfl rfl (wo_run rfl rfl (run_assign rfl rfl) ?_)
      refine wl_end rfl ?_
      refine nm_thn ?_
      refine ws_blockN Close_n33 0 rfl rfl rfl ?_
      refine ws_loopE (fun mx_ ax_ wx_ => ∃ (p0 : Nat) (wk : List Bool) (t : List A4) (x : Nat) (lp : Int) (vrw : Value) (vra : Value), mx_ = m - p0 ∧ Env 143 [(0, .int .i64 (m : Int)), (1, .slice lA l.length lc), (4, .pointer (some ⟨gb1, 0, none⟩)), (7, vra), (8, .pointer (some ⟨gb3, 0, none⟩)), (9, vrw), (10, .int .i64 (x : Int)), (11, .int .i64 ((p0 : Int) + 1))] ax_ ∧ SH wx_ M X [Rs.row cdBool vrw wk, Rs.box gb3 38 [.slice none 0 0, .int .i64 lp], Rs.row cdA4 vra t, Rs.box gb1 38 [.slice none 0 0, .int .i64 0]] ∧ p0 ≤ m ∧ closeF l m p0 = ⟨wk, t, x, lp⟩ ∧ wk.length = m + 1 ∧ t.length = l.length ∧ (1 ≤ x ∧ x + 20 * free wk ≤ 300) ∧ (0 ≤ lp ∧ lp ≤ p0)) rfl ?_ ?_
      · intro ax_ hax_
        refine ⟨_, ⟨0, _, _, 1, 0, _, _, rfl, hax_.sub ⟨rfl, rfl, rfl, rfl, rfl, rfl, rfl, rfl, trivial⟩, S9.pick [0, 1, 2, 4] [_, _, _, _] (by decide) ⟨rfl, rfl, rfl, rfl, trivial⟩, ?hq1f0, ?hq1f1, ?hq1f2, ?hq1f3, ?hq1f4, ?hq1f5⟩⟩
        case hq1f0 => omega
        case hq1f1 => rfl
        case hq1f2 => simp
        case hq1f3 => simp
        case hq1f4 => (have h9 : free (List.replicate (m + 1) cdBool.z) = m + 1 := free_rep _; omega)
        case hq1f5 => omega
      · rintro m1 a1 w10 ⟨p0, wk, t, x, lp, vrw, vra, rfl, he1, S10, hp0, hcl, hwkl, htl, hx, hlp⟩
        clear S9
        refine ws_in he1 (c := Close_n34) rfl ?_
        clear he1 a1
        refine ws_seqN Close_n35 Close_n36 rfl rfl rfl ?_
        refine ws_seqN Close_n37 Close_n38 rfl rfl rfl ?_
        refine ws_region rfl ?_
        refine wl_op (k := 0) (k' := 1) rfl rfl rfl (wo_run rfl rfl (run_move rfl rfl) ?_)
        refine wl_op (k := 1) (k' := 2) rfl rfl rfl (wo_run rfl rfl (run_move rfl rfl) ?_)
        refine wl_op (k := 2) (k' := 3) rfl rfl rfl (wo_run rfl rfl (run_leq rfl rfl rfl) ?_)
        refine wl_end rfl ?_
        refine nm_sub [(0, _), (1, _), (4, _), (7, _), (8, _), (9, _), (10, _), (11, _), (44, _)] ⟨rfl, rfl, rfl, rfl, rfl, rfl, rfl, rfl, rfl, trivial⟩ ?_
        refine nm_thn ?_
        refine ws_condN Close_n39 Close_n40 rfl rfl rfl rfl (fun hb44 => ?_) (fun hb44 => ?_)
        · have hb44 := of_decide_eq_true hb44
          refine ws_skip rfl ?_
          refine nm_sub [(0, _), (1, _), (4, _), (7, _), (8, _), (9, _), (10, _), (11, _)] ⟨rfl, rfl, rfl, rfl, rfl, rfl, rfl, rfl, trivial⟩ ?_
          refine nm_thn ?_
          refine ws_seqN Close_n41 Close_n42 rfl rfl rfl ?_
          refine ws_blockN Close_n43 1 rfl rfl rfl ?_
          refine ws_seqN Close_n44 Close_n45 rfl rfl rfl ?_
          refine ws_seqN Close_n46 Close_n47 rfl rfl rfl ?_
          refine ws_region rfl ?_
          refine wl_op (k := 0) (k' := 1) rfl rfl rfl (wo_run rfl rfl (run_move rfl rfl) ?_)
          refine wl_op (k := 1) (k' := 2) rfl rfl rfl (wo_run rfl rfl (run_move rfl rfl) ?_)
          refine wl_op (k := 2) (k' := 3) rfl rfl rfl (wo_run rfl rfl (run_indexR (C := cdBool) (i := 0) (p0 + 1) rfl rfl rfl sl58 S10 rfl (by first | rfl | omega) (by first | omega | (simp only [List.length_set, List.length_append, List.length_replicate, List.length_singleton, List.length_cons, List.length_nil]; omega))) ?_)
          refine wl_op (k := 3) (k' := 4) rfl rfl rfl (wo_run rfl rfl (run_load1 rfl rfl Try.underlying4 rfl (S10.rowc (i := 0) (e := p0 + 1) (j := 0) rfl (by first | omega | (simp only [List.length_set, List.length_append, List.length_replicate, List.length_singleton, List.length_cons, List.length_nil]; omega)) rfl rfl)) ?_)
          refine wl_end rfl ?_
          refine nm_sub [(0, _), (1, _), (4, _), (7, _), (8, _), (9, _), (10, _), (11, _), (50, _)] ⟨rfl, rfl, rfl, rfl, rfl, rfl, rfl, rfl, rfl, trivial⟩ ?_
          refine nm_thn ?_
          refine ws_condN Close_n48 Close_n49 rfl rfl rfl rfl (fun hb50 => ?_) (fun hb50 => ?_)
          · refine ws_exit rfl rfl ?_
            refine nm_sub [(0, _), (1, _), (4, _), (7, _), (8, _), (9, _), (10, _), (11, _)] ⟨rfl, rfl, rfl, rfl, rfl, rfl, rfl, rfl, trivial⟩ ?_
            refine nm_thn ?_
            refine ws_region rfl ?_
            refine wl_op (k := 0) (k' := 1) rfl rfl rfl (wo_run rfl rfl (run_move rfl rfl) ?_)
            refine wl_op (k := 1) (k' := 2) rfl rfl rfl (wo_run rfl rfl (run_add rfl rfl rfl (by first | omega | (simp only [List.length_set, List.length_append, List.length_replicate, List.length_singleton, List.length_cons, List.length_nil]; omega))) ?_)
            refine wl_op (k := 2) (k' := 3) rfl rfl rfl (wo_run rfl rfl (run_assign rfl rfl) ?_)
            refine wl_end rfl ?_
            refine nm_lp ?_
            have hcl9 := closeF_skip hcl hb50
            intro ax_ hax_
            refine ⟨_, ?hq2m, ⟨p0 + 1, wk, t, x, lp, _, _, rfl, hax_.sub ⟨rfl, rfl, rfl, rfl, rfl, rfl, rfl, rfl, trivial⟩, S10.pick [0, 1, 2, 3] [_, _, _, _] (by decide) ⟨rfl, rfl, rfl, rfl, trivial⟩, ?hq2f0, ?hq2f1, ?hq2f2, ?hq2f3, ?hq2f4, ?hq2f5⟩⟩
            case hq2f0 => omega
            case hq2f1 => (first | exact hcl9 | (rw [hcl9]; simp [tieC]; done) | (rw [hcl9]; simp [tieC]))
            case hq2f2 => assumption
            case hq2f3 => first | assumption | simpa using htl1
            case hq2f4 => omega
            case hq2f5 => omega
            case hq2m => omega
          · refine ws_skip rfl ?_
            refine nm_sub [(0, _), (1, _), (4, _), (7, _), (8, _), (9, _), (10, _), (11, _)] ⟨rfl, rfl, rfl, rfl, rfl, rfl, rfl, rfl, trivial⟩ ?_
            refine nm_thn ?_
            refine ws_seqN Close_n50 Close_n51 rfl rfl rfl ?_
            refine ws_region rfl ?_
            refine wl_op (k := 0) (k' := 1) rfl rfl rfl (wo_run rfl rfl (run_move rfl rfl) ?_)
            refine wl_op (k := 1) (k' := 2) rfl rfl rfl (wo_run rfl rfl (run_assign rfl rfl) ?_)
            refine wl_end rfl ?_
            refine nm_sub [(0, _), (1, _), (4, _), (7, _), (8, _), (9, _), (10, _), (11, _), (12, _)] ⟨rfl, rfl, rfl, rfl, rfl, rfl, rfl, rfl, rfl, trivial⟩ ?_
            refine nm_thn ?_
            refine ws_seqN Close_n52 Close_n53 rfl rfl rfl ?_
            refine ws_region rfl ?_
            refine wl_op (k := 0) (k' := 1) rfl rfl rfl (wo_run rfl rfl (run_assign rfl rfl) ?_)
            refine wl_end rfl ?_
            refine nm_thn ?_
            refine ws_seqN Close_n54 Close_n55 rfl rfl rfl ?_
            refine ws_seqN Close_n56 Close_n57 rfl rfl rfl ?_
            refine ws_region rfl ?_
            refine wl_op (k := 0) (k' := 1) rfl rfl rfl (wo_run rfl rfl (run_move rfl rfl) ?_)
            refine wl_op (k := 1) (k' := 2) rfl rfl rfl (wo_run rfl rfl (run_assign rfl rfl) ?_)
            refine wl_end rfl ?_
            refine nm_sub [(0, _), (1, _), (4, _), (7, _), (8, _), (9, _), (10, _), (11, _), (12, _), (13, _), (14, _)] ⟨rfl, rfl, rfl, rfl, rfl, rfl, rfl, rfl, rfl, rfl, rfl, trivial⟩ ?_
            refine nm_thn ?_
            refine ws_blockN Close_n58 2 rfl rfl rfl ?_
            refine ws_loopE (fun mx_ ax_ wx_ => ∃ (wk1 : List Bool) (t1 : List A4) (p1 : Nat) (x1 : Nat) (q1 : Nat) (lk1 : Nat) (vrw1 : Value) (vra1 : Value), mx_ = free wk1 ∧ Env 143 [(0, .int .i64 (m : Int)), (1, .slice lA l.length lc), (4, .pointer (some ⟨gb1, 0, none⟩)), (7, vra1), (8, .pointer (some ⟨gb3, 0, none⟩)), (9, vrw1), (10, .int .i64 (x1 : Int)), (11, .int .i64 ((p0 : Int) + 1)), (12, .int .i64 (x : Int)), (13, .pointer (lpA vra1 q1 lk1)), (14, .int .i64 (p1 : Int))] ax_ ∧ SH wx_ M X [Rs.row cdBool vrw1 wk1, Rs.box gb3 38 [.slice none 0 0, .int .i64 lp], Rs.row cdA4 vra1 t1, Rs.box gb1 38 [.slice none 0 0, .int .i64 0]] ∧ ringC l wk ⟨t, p0 + 1, x, 0, 0⟩ = ringC l wk1 ⟨t1, p1, x1, q1, lk1⟩ ∧ wk1.length = m + 1 ∧ t1.length = l.length ∧ (1 ≤ p1 ∧ p1 ≤ m) ∧ (1 ≤ x1 ∧ x1 + 20 * free wk1 ≤ 300) ∧ (q1 = 0 ∨ q1 = 1 ∨ q1 = 2) ∧ (q1 ≠ 0 → lk1 < l.length)) rfl ?_ ?_
            · intro ax_ hax_
              refine ⟨_, ⟨wk, t, p0 + 1, x, 0, 0, _, _, rfl, hax_.sub ⟨rfl, rfl, rfl, rfl, rfl, rfl, rfl, rfl, rfl, rfl, rfl, trivial⟩, S10.pick [0, 1, 2, 3] [_, _, _, _] (by decide) ⟨rfl, rfl, rfl, rfl, trivial⟩, ?hq3f0, ?hq3f1, ?hq3f2, ?hq3f3, ?hq3f4, ?hq3f5, ?hq3f6⟩⟩
              case hq3f0 => rfl
              case hq3f1 => assumption
              case hq3f2 => assumption
              case hq3f3 => omega
              case hq3f4 => omega
              case hq3f5 => omega
              case hq3f6 => omega
            · rintro m2 a2 w11 ⟨wk1, t1, p1, x1, q1, lk1, vrw1, vra1, rfl, he2, S11, hrg, hwkl1, htl1, hp1, hx1, hlq1, hlk1⟩
              clear S10
              refine ws_in he2 (c := Close_n59) rfl ?_
              clear he2 a2
              refine ws_seqN Close_n60 Close_n61 rfl rfl rfl ?_
              refine ws_seqN Close_n62 Close_n63 rfl rfl rfl ?_
              refine ws_region rfl ?_
              refine wl_op (k := 0) (k' := 1) rfl rfl rfl (wo_run rfl rfl (run_move rfl rfl) ?_)
              refine wl_op (k := 1) (k' := 2) rfl rfl rfl (wo_run rfl rfl (run_move rfl rfl) ?_)
              refine wl_op (k := 2) (k' := 3) rfl rfl rfl (wo_run rfl rfl (run_indexR (C := cdBool) (i := 0) p1 rfl rfl rfl sl58 S11 rfl (by first | rfl | omega) (by first | omega | (simp only [List.length_set, List.length_append, List.length_replicate, List.length_singleton, List.length_cons, List.length_nil]; omega))) ?_)
              refine wl_op (k := 3) (k' := 4) rfl rfl rfl (wo_run rfl rfl (run_load1 rfl rfl Try.underlying4 rfl (S11.rowc (i := 0) (e := p1) (j := 0) rfl (by first | omega | (simp only [List.length_set, List.length_append, List.length_replicate, List.length_singleton, List.length_cons, List.length_nil]; omega)) rfl rfl)) ?_)
              refine wl_op (k := 4) (k' := 5) rfl rfl rfl (wo_run rfl rfl (run_not rfl rfl) ?_)
              refine wl_end rfl ?_
              refine nm_sub [(0, _), (1, _), (4, _), (7, _), (8, _), (9, _), (10, _), (11, _), (12, _), (13, _), (14, _), (57, _)] ⟨rfl, rfl, rfl, rfl, rfl, rfl, rfl, rfl, rfl, rfl, rfl, rfl, trivial⟩ ?_
              refine nm_thn ?_
              refine ws_condN Close_n64 Close_n65 rfl rfl rfl rfl (fun hb57 => ?_) (fun hb57 => ?_)
              · simp only [Bool.and_eq_true, Bool.or_eq_true, Bool.and_eq_false_iff, Bool.or_eq_false_iff, decide_eq_true_eq, decide_eq_false_iff_not, Bool.not_eq_true', Bool.not_eq_false'] at hb57
                refine ws_skip rfl ?_
                refine nm_sub [(0, _), (1, _), (4, _), (7, _), (8, _), (9, _), (10, _), (11, _), (12, _), (13, _), (14, _)] ⟨rfl, rfl, rfl, rfl, rfl, rfl, rfl, rfl, rfl, rfl, rfl, trivial⟩ ?_
                refine nm_thn ?_
                refine ws_blockN Close_n66 3 rfl rfl rfl ?_
                refine ws_seqN Close_n67 Close_n68 rfl rfl rfl ?_
                refine ws_region rfl ?_
                refine wl_op (k := 0) (k' := 1) rfl rfl rfl (wo_run rfl rfl (run_move rfl rfl) ?_)
                refine wl_op (k := 1) (k' := 2) rfl rfl rfl (wo_run rfl rfl (run_move rfl rfl) ?_)
                refine wl_op (k := 2) (k' := 3) rfl rfl rfl (wo_run rfl rfl (run_indexR (C := cdBool) (i := 0) p1 rfl rfl rfl sl58 S11 rfl (by first | rfl | omega) (by first | omega | (simp only [List.length_set, List.length_append, List.length_replicate, List.length_singleton, List.length_cons, List.length_nil]; omega))) ?_)
                refine wl_op (k := 3) (k' := 4) rfl rfl rfl (wo_storeR (C := cdBool) (i := 0) (e := p1) (j := 0) (us := [_]) (H' := [_, _, _, _]) true rfl rfl S11 rfl (by first | omega | (simp only [List.length_set, List.length_append, List.length_replicate, List.length_singleton, List.length_cons, List.length_nil]; omega)) rfl rfl rfl sz4 rfl rfl rfl rfl ?_)
                intro w12 S12; clear S11
                refine wl_end rfl ?_
                refine nm_sub [(0, _), (1, _), (4, _), (7, _), (8, _), (9, _), (10, _), (11, _), (12, _), (13, _), (14, _)] ⟨rfl, rfl, rfl, rfl, rfl, rfl, rfl, rfl, rfl, rfl, rfl, trivial⟩ ?_
                refine nm_thn ?_
                refine ws_seqN Close_n69 Close_n70 rfl rfl rfl ?_
                refine ws_region rfl ?_
                refine wl_op (k := 0) (k' := 1) rfl rfl rfl (wo_run rfl rfl (run_move rfl rfl) ?_)
                refine wl_op (k := 1) (k' := 2) rfl rfl rfl (wo_run rfl rfl (run_len rfl rfl rfl rfl rfl rfl Try.underlying22) ?_)
                refine wl_op (k := 2) (k' := 3) rfl rfl rfl (wo_run rfl rfl (run_move rfl rfl) ?_)
                refine wl_end rfl ?_
                refine nm_thn ?_
                refine ws_blockN Close_n71 4 rfl rfl rfl ?_
                refine ws_loopE (fun mx_ ax_ wx_ => ∃ (k2 : Nat) (t2 : List A4) (p2 : Nat) (x2 : Nat) (q2 : Nat) (lk2 : Nat) (vra2 : Value), mx_ = l.length - k2 ∧ Env 143 [(0, .int .i64 (m : Int)), (1, .slice lA l.length lc), (4, .pointer (some ⟨gb1, 0, none⟩)), (7, vra2), (8, .pointer (some ⟨gb3, 0, none⟩)), (9, vrw1), (10, .int .i64 (x2 : Int)), (11, .int .i64 ((p0 : Int) + 1)), (12, .int .i64 (x : Int)), (13, .pointer (lpA vra2 q2 lk2)), (14, .int .i64 (p2 : Int)), (61, .slice lA l.length lc), (62, .int .i64 (l.length : Int)), (63, .int .i64 (k2 : Int))] ax_ ∧ SH wx_ M X [Rs.row cdBool vrw1 (wk1.set p1 true), Rs.box gb3 38 [.slice none 0 0, .int .i64 lp], Rs.row cdA4 vra2 t2, Rs.box gb1 38 [.slice none 0 0, .int .i64 0]] ∧ k2 ≤ l.length ∧ wordC l ⟨t1, p1, x1, q1, lk1⟩ k2 = ⟨t2, p2, x2, q2, lk2⟩ ∧ t2.length = l.length ∧ (1 ≤ p2 ∧ p2 ≤ m) ∧ (x1 ≤ x2 ∧ x2 ≤ x1 + k2) ∧ (q2 = 0 ∨ q2 = 1 ∨ q2 = 2) ∧ (q2 ≠ 0 → lk2 < l.length)) rfl ?_ ?_
                · intro ax_ hax_
                  refine ⟨_, ⟨0, t1, p1, x1, q1, lk1, _, rfl, hax_.sub ⟨rfl, rfl, rfl, rfl, rfl, rfl, rfl, rfl, rfl, rfl, rfl, rfl, rfl, rfl, trivial⟩, S12.pick [0, 1, 2, 3] [_, _, _, _] (by decide) ⟨rfl, rfl, rfl, rfl, trivial⟩, ?hq4f0, ?hq4f1, ?hq4f2, ?hq4f3, ?hq4f4, ?hq4f5, ?hq4f6⟩⟩
                  case hq4f0 => omega
                  case hq4f1 => rfl
                  case hq4f2 => assumption
                  case hq4f3 => omega
                  case hq4f4 => omega
                  case hq4f5 => assumption
                  case hq4f6 => assumption
                · rintro m3 a3 w13 ⟨k2, t2, p2, x2, q2, lk2, vra2, rfl, he3, S13, hk2, hwd, htl2, hp2, hx2, hlq2, hlk2⟩
                  clear S12
                  refine ws_in he3 (c := Close_n72) rfl ?_
                  clear he3 a3
                  have hwk := fun h => hwb k2 h
                  refine ws_seqN Close_n73 Close_n74 rfl rfl rfl ?_
                  refine ws_region rfl ?_
                  refine wl_op (k := 0) (k' := 1) rfl rfl rfl (wo_run rfl rfl (run_lss rfl rfl rfl) ?_)
                  refine wl_end rfl ?_
                  refine nm_thn ?_
                  refine ws_seqN Close_n75 Close_n76 rfl rfl rfl ?_
                  refine ws_condN Close_n77 Close_n78 rfl rfl rfl rfl (fun hb64 => ?_) (fun hb64 => ?_)
                  · have hb64 := of_decide_eq_true hb64
                    refine ws_skip rfl ?_
                    refine nm_sub [(0, _), (1, _), (4, _), (7, _), (8, _), (9, _), (10, _), (11, _), (12, _), (13, _), (14, _), (61, _), (62, _), (63, _)] ⟨rfl, rfl, rfl, rfl, rfl, rfl, rfl, rfl, rfl, rfl, rfl, rfl, rfl, rfl, trivial⟩ ?_
                    refine nm_thn ?_
                    refine ws_seqN Close_n79 Close_n80 rfl rfl rfl ?_
                    refine ws_blockN Close_n81 5 rfl rfl rfl ?_
                    refine ws_seqN Close_n82 Close_n83 rfl rfl rfl ?_
                    refine ws_region rfl ?_
                    refine wl_op (k := 0) (k' := 1) rfl rfl rfl (wo_run rfl rfl (run_move rfl rfl) ?_)
                    refine wl_op (k := 1) (k' := 2) rfl rfl rfl (wo_run rfl rfl (run_indexM (C := cdInt) k2 rfl rfl rfl sl22 (by first | rfl | omega) hl (by first | omega | (simp only [List.length_set, List.length_append, List.length_replicate, List.length_singleton, List.length_cons, List.length_nil]; omega))) ?_)
                    refine wl_op (k := 2) (k' := 3) rfl rfl rfl (wo_run rfl rfl (run_load1 rfl rfl Try.underlying3 rfl (hl.cell S13.um (i := k2) (by first | omega | (simp only [List.length_set, List.length_append, List.length_replicate, List.length_singleton, List.length_cons, List.length_nil]; omega)) 0 rfl rfl)) ?_)
                    refine wl_op (k := 3) (k' := 4) rfl rfl rfl (wo_run rfl rfl (run_assign rfl rfl) ?_)
                    refine wl_op (k := 4) (k' := 5) rfl rfl rfl (wo_run rfl rfl (run_assign rfl rfl) ?_)
                    refine wl_end rfl ?_
                    refine nm_sub [(0, _), (1, _), (4, _), (7, _), (8, _), (9, _), (10, _), (11, _), (12, _), (13, _), (14, _), (61, _), (62, _), (63, _), (15, _), (16, _)] ⟨rfl, rfl, rfl, rfl, rfl, rfl, rfl, rfl, rfl, rfl, rfl, rfl, rfl, rfl, rfl, rfl, trivial⟩ ?_
                    refine nm_thn ?_
                    refine ws_seqN Close_n84 Close_n85 rfl rfl rfl ?_
                    refine ws_region rfl ?_
                    refine wl_op (k := 0) (k' := 1) rfl rfl rfl (wo_run rfl rfl (run_move rfl rfl) ?_)
                    refine wl_op (k := 1) (k' := 2) rfl rfl rfl (wo_run rfl rfl (run_move rfl rfl) ?_)
                    refine wl_op (k := 2) (k' := 3) rfl rfl rfl (wo_run rfl rfl (run_neg rfl rfl (by first | omega | (simp only [List.length_set, List.length_append, List.length_replicate, List.length_singleton, List.length_cons, List.length_nil]; omega))) ?_)
                    refine wl_op (k := 3) (k' := 4) rfl rfl rfl (wo_run rfl rfl (run_max rfl rfl rfl rfl rfl) ?_)
                    refine wl_op (k := 4) (k' := 5) rfl rfl rfl (wo_run rfl rfl (run_assign rfl rfl) ?_)
                    refine wl_end rfl ?_
                    refine nm_sub [(0, _), (1, _), (4, _), (7, _), (8, _), (9, _), (10, _), (11, _), (12, _), (13, _), (14, _), (61, _), (62, _), (63, _), (15, _), (17, _)] ⟨rfl, rfl, rfl, rfl, rfl, rfl, rfl, rfl, rfl, rfl, rfl, rfl, rfl, rfl, rfl, rfl, trivial⟩ ?_
                    refine nm_thn ?_
                    refine ws_seqN Close_n86 Close_n87 rfl rfl rfl ?_
                    refine ws_eq 17 (.int .i64 (leC l k2 : Int)) rfl (int_eq (by unfold leC; omega)) ?_
                    have hle2 : 1 ≤ leC l k2 ∧ leC l k2 + 1 ≤ m := by have := hwb k2 (by omega); unfold leC; omega
                    refine ws_region rfl ?_
                    refine wl_op (k := 0) (k' := 1) rfl rfl rfl (wo_run rfl rfl (run_assign rfl rfl) ?_)
                    refine wl_end rfl ?_
                    refine nm_sub [(0, _), (1, _), (4, _), (7, _), (8, _), (9, _), (10, _), (11, _), (12, _), (13, _), (14, _), (61, _), (62, _), (63, _), (15, _), (17, _), (18, _)] ⟨rfl, rfl, rfl, rfl, rfl, rfl, rfl, rfl, rfl, rfl, rfl, rfl, rfl, rfl, rfl, rfl, rfl, trivial⟩ ?_
                    refine nm_thn ?_
                    refine ws_seqN Close_n88 Close_n89 rfl rfl rfl ?_
                    refine ws_seqN Close_n90 Close_n91 rfl rfl rfl ?_
                    refine ws_region rfl ?_
                    refine wl_op (k := 0) (k' := 1) rfl rfl rfl (wo_run rfl rfl (run_move rfl rfl) ?_)
                    refine wl_end rfl ?_
                    refine nm_thn ?_
                    refine ws_blockN Close_n92 6 rfl rfl rfl ?_
                    refine ws_seqN Close_n93 Close_n94 rfl rfl rfl ?_
                    refine ws_region rfl ?_
                    refine wl_op (k := 0) (k' := 1) rfl rfl rfl (wo_run rfl rfl (run_move rfl rfl) ?_)
                    refine wl_op (k := 1) (k' := 2) rfl rfl rfl (wo_run rfl rfl (run_eql rfl rfl rfl) ?_)
                    refine wl_op (k := 2) (k' := 3) rfl rfl rfl (wo_run rfl rfl (run_assign rfl rfl) ?_)
                    refine wl_end rfl ?_
                    refine nm_sub [(0, _), (1, _), (4, _), (7, _), (8, _), (9, _), (10, _), (11, _), (12, _), (13, _), (14, _), (61, _), (62, _), (63, _), (15, _), (17, _), (18, _), (72, _), (73, _)] ⟨rfl, rfl, rfl, rfl, rfl, rfl, rfl, rfl, rfl, rfl, rfl, rfl, rfl, rfl, rfl, rfl, rfl, rfl, rfl, trivial⟩ ?_
                    refine nm_thn ?_
                    refine ws_condN Close_n95 Close_n96 rfl rfl rfl rfl (fun hb73 => ?_) (fun hb73 => ?_)
                    · have hb73 := of_decide_eq_true hb73
                      refine ws_region rfl ?_
                      refine wl_op (k := 0) (k' := 1) rfl rfl rfl (wo_run rfl rfl (run_move rfl rfl) ?_)
                      refine wl_op (k := 1) (k' := 2) rfl rfl rfl (wo_run rfl rfl (run_add rfl rfl rfl (by first | omega | (simp only [List.length_set, List.length_append, List.length_replicate, List.length_singleton, List.length_cons, List.length_nil]; omega))) ?_)
                      refine wl_op (k := 2) (k' := 3) rfl rfl rfl (wo_run rfl rfl (run_assign rfl rfl) ?_)
                      refine wl_end rfl ?_
                      refine nm_blk ?_
                      refine nm_sub [(0, _), (1, _), (4, _), (7, _), (8, _), (9, _), (10, _), (11, _), (12, _), (14, _), (61, _), (62, _), (63, _), (15, _), (18, _)] ⟨rfl, rfl, rfl, rfl, rfl, rfl, rfl, rfl, rfl, rfl, rfl, rfl, rfl, rfl, rfl, trivial⟩ ?_
                      refine nm_thn ?_
                      refine ws_seqN Close_n97 Close_n98 rfl rfl rfl ?_
                      refine ws_region rfl ?_
                      refine wl_op (k := 0) (k' := 1) rfl rfl rfl (wo_run rfl rfl (run_move rfl rfl) ?_)
                      refine wl_op (k := 1) (k' := 2) rfl rfl rfl (wo_run rfl rfl (run_move rfl rfl) ?_)
                      refine wl_op (k := 2) (k' := 3) rfl rfl rfl (wo_run rfl rfl (run_move rfl rfl) ?_)
                      refine wl_op (k := 3) (k' := 4) rfl rfl rfl (wo_run rfl rfl (run_move rfl rfl) ?_)
                      refine wl_op (k := 4) (k' := 5) rfl rfl rfl (wo_run rfl rfl (run_move rfl rfl) ?_)
                      refine wl_op (k := 5) (k' := 6) rfl rfl rfl (wo_run rfl rfl (run_add rfl rfl rfl (by first | omega | (simp only [List.length_set, List.length_append, List.length_replicate, List.length_singleton, List.length_cons, List.length_nil]; omega))) ?_)
                      refine wl_op (k := 6) (k' := 7) rfl rfl rfl (wo_run rfl rfl (run_buildA (l := [_, _]) (pl := [(0, 1), (1, 1)]) rfl rfl Try.underlying60 zr60 sz3 rfl rfl rfl) ?_)
                      refine wl_op (k := 7) (k' := 8) rfl rfl rfl (wo_run rfl rfl (run_indexR (C := cdA4) (i := 2) k2 rfl rfl rfl sl57 S13 rfl (by first | rfl | omega) (by first | omega | (simp only [List.length_set, List.length_append, List.length_replicate, List.length_singleton, List.length_cons, List.length_nil]; omega))) ?_)
                      refine wl_op (k := 8) (k' := 9) rfl rfl rfl (wo_run rfl rfl (run_indexP (e := 0) (k := 2) rfl rfl rfl Try.underlying61 sz60 (by first | rfl | omega) (by first | omega | (simp only [List.length_set, List.length_append, List.length_replicate, List.length_singleton, List.length_cons, List.length_nil]; omega))) ?_)
                      refine wl_op (k := 9) (k' := 10) rfl rfl rfl (wo_storeR (C := cdA4) (i := 2) (e := k2) (j := 0) (us := [_, _]) (H' := [_, _, _, _]) (⟨(x2 : Int), (x2 : Int) + 1, (ga t2 k2).c, (ga t2 k2).d⟩ : A4) rfl rfl S13 rfl (by first | omega | (simp only [List.length_set, List.length_append, List.length_replicate, List.length_singleton, List.length_cons, List.length_nil]; omega)) rfl rfl rfl sz60 rfl rfl rfl rfl ?_)
                      intro w14 S14; clear S13
                      refine wl_end rfl ?_
                      refine nm_sub [(0, _), (1, _), (4, _), (7, _), (8, _), (9, _), (10, _), (11, _), (12, _), (14, _), (61, _), (62, _), (63, _), (15, _), (18, _)] ⟨rfl, rfl, rfl, rfl, rfl, rfl, rfl, rfl, rfl, rfl, rfl, rfl, rfl, rfl, rfl, trivial⟩ ?_
                      refine nm_thn ?_
                      refine ws_seqN Close_n99 Close_n100 rfl rfl rfl ?_
                      refine ws_region rfl ?_
                      refine wl_op (k := 0) (k' := 1) rfl rfl rfl (wo_run rfl rfl (run_move rfl rfl) ?_)
                      refine wl_op (k := 1) (k' := 2) rfl rfl rfl (wo_run rfl rfl (run_move rfl rfl) ?_)
                      refine wl_op (k := 2) (k' := 3) rfl rfl rfl (wo_run rfl rfl (run_move rfl rfl) ?_)
                      refine wl_op (k := 3) (k' := 4) rfl rfl rfl (wo_run rfl rfl (run_indexR (C := cdA4) (i := 2) k2 rfl rfl rfl sl57 S14 rfl (by first | rfl | omega) (by first | omega | (simp only [List.length_set, List.length_append, List.length_replicate, List.length_singleton, List.length_cons, List.length_nil]; omega))) ?_)
                      refine wl_op (k := 4) (k' := 5) rfl rfl rfl (wo_run rfl rfl (run_indexP (e := 0) (k := 2) rfl rfl rfl Try.underlying61 sz60 (by first | rfl | omega) (by first | omega | (simp only [List.length_set, List.length_append, List.length_replicate, List.length_singleton, List.length_cons, List.length_nil]; omega))) ?_)
                      refine wl_op (k := 5) (k' := 6) rfl rfl rfl (wo_run rfl rfl (run_indexP (e := 1) (k := 1) rfl rfl rfl Try.underlying60 sz3 (by first | rfl | omega) (by first | omega | (simp only [List.length_set, List.length_append, List.length_replicate, List.length_singleton, List.length_cons, List.length_nil]; omega))) ?_)
                      refine wl_op (k := 6) (k' := 7) rfl rfl rfl (wo_run rfl rfl (run_assign rfl rfl) ?_)
                      refine wl_end rfl ?_
                      refine nm_sub [(0, _), (1, _), (4, _), (7, _), (8, _), (9, _), (10, _), (11, _), (12, _), (14, _), (61, _), (62, _), (63, _), (13, _)] ⟨rfl, rfl, rfl, rfl, rfl, rfl, rfl, rfl, rfl, rfl, rfl, rfl, rfl, rfl, trivial⟩ ?_
                      refine nm_thn ?_
                      refine ws_region rfl ?_
                      refine wl_op (k := 0) (k' := 1) rfl rfl rfl (wo_run rfl rfl (run_move rfl rfl) ?_)
                      refine wl_op (k := 1) (k' := 2) rfl rfl rfl (wo_run rfl rfl (run_add rfl rfl rfl (by first | omega | (simp only [List.length_set, List.length_append, List.length_replicate, List.length_singleton, List.length_cons, List.length_nil]; omega))) ?_)
                      refine wl_op (k := 2) (k' := 3) rfl rfl rfl (wo_run rfl rfl (run_assign rfl rfl) ?_)
                      refine wl_end rfl ?_
                      refine nm_blk ?_
                      refine nm_sub [(0, _), (1, _), (4, _), (7, _), (8, _), (9, _), (10, _), (11, _), (12, _), (14, _), (61, _), (62, _), (63, _), (13, _)] ⟨rfl, rfl, rfl, rfl, rfl, rfl, rfl, rfl, rfl, rfl, rfl, rfl, rfl, rfl, trivial⟩ ?_
                      refine nm_thn ?_
                      refine ws_region rfl ?_
                      refine wl_op (k := 0) (k' := 1) rfl rfl rfl (wo_run rfl rfl (run_add rfl rfl rfl (by first | omega | (simp only [List.length_set, List.length_append, List.length_replicate, List.length_singleton, List.length_cons, List.length_nil]; omega))) ?_)
                      refine wl_op (k := 1) (k' := 2) rfl rfl rfl (wo_run rfl rfl (run_move rfl rfl) ?_)
                      refine wl_end rfl ?_
                      refine nm_lp ?_
                      have hwd9 := wordC_succ l ⟨t1, p1, x1, q1, lk1⟩ k2
                      rw [hwd] at hwd9
                      unfold letC at hwd9; dsimp only at hwd9; rw [if_pos (by omega)] at hwd9
                      intro ax_ hax_
                      refine ⟨_, ?hq5m, ⟨k2 + 1, _, leC l k2 + 1, x2 + 1, 1, k2, _, rfl, hax_.sub ⟨rfl, rfl, rfl, rfl, rfl, rfl, rfl, rfl, rfl, rfl, rfl, rfl, rfl, rfl, trivial⟩, S14.pick [0, 1, 2, 3] [_, _, _, _] (by decide) ⟨rfl, rfl, rfl, rfl, trivial⟩, ?hq5f0, ?hq5f1, ?hq5f2, ?hq5f3, ?hq5f4, ?hq5f5, ?hq5f6⟩⟩
                      case hq5f0 => omega
                      case hq5f1 => exact hwd9
                      case hq5f2 => first | assumption | simpa using htl2
                      case hq5f3 => omega
                      case hq5f4 => omega
                      case hq5f5 => omega
                      case hq5f6 => first | assumption | omega
                      case hq5m => omega
                    · have hb73 := of_decide_eq_false hb73
                      refine ws_seqN Close_n101 Close_n102 rfl rfl rfl ?_
                      refine ws_region rfl ?_
                      refine wl_op (k := 0) (k' := 1) rfl rfl rfl (wo_run rfl rfl (run_move rfl rfl) ?_)
                      refine wl_op (k := 1) (k' := 2) rfl rfl rfl (wo_run rfl rfl (run_add rfl rfl rfl (by first | omega | (simp only [List.length_set, List.length_append, List.length_replicate, List.length_singleton, List.length_cons, List.length_nil]; omega))) ?_)
                      refine wl_op (k := 2) (k' := 3) rfl rfl rfl (wo_run rfl rfl (run_eql rfl rfl rfl) ?_)
                      refine wl_op (k := 3) (k' := 4) rfl rfl rfl (wo_run rfl rfl (run_assign rfl rfl) ?_)
                      refine wl_end rfl ?_
                      refine nm_sub [(0, _), (1, _), (4, _), (7, _), (8, _), (9, _), (10, _), (11, _), (12, _), (13, _), (14, _), (61, _), (62, _), (63, _), (15, _), (17, _), (78, _)] ⟨rfl, rfl, rfl, rfl, rfl, rfl, rfl, rfl, rfl, rfl, rfl, rfl, rfl, rfl, rfl, rfl, rfl, trivial⟩ ?_
                      refine nm_thn ?_
                      refine ws_condN Close_n103 Close_n104 rfl rfl rfl rfl (fun hb78 => ?_) (fun hb78 => ?_)
                      · have hb78 := of_decide_eq_true hb78
                        refine ws_region rfl ?_
                        refine wl_op (k := 0) (k' := 1) rfl rfl rfl (wo_run rfl rfl (run_move rfl rfl) ?_)
                        refine wl_op (k := 1) (k' := 2) rfl rfl rfl (wo_run rfl rfl (run_assign rfl rfl) ?_)
                        refine wl_op (k := 2) (k' := 3) rfl rfl rfl (wo_run rfl rfl (run_assign rfl rfl) ?_)
                        refine wl_end rfl ?_
                        refine nm_blk ?_
                        refine nm_sub [(0, _), (1, _), (4, _), (7, _), (8, _), (9, _), (10, _), (11, _), (12, _), (14, _), (61, _), (62, _), (63, _), (15, _), (18, _)] ⟨rfl, rfl, rfl, rfl, rfl, rfl, rfl, rfl, rfl, rfl, rfl, rfl, rfl, rfl, rfl, trivial⟩ ?_
                        refine nm_thn ?_
                        refine ws_seqN Close_n97 Close_n98 rfl rfl rfl ?_
                        refine ws_region rfl ?_
                        refine wl_op (k := 0) (k' := 1) rfl rfl rfl (wo_run rfl rfl (run_move rfl rfl) ?_)
                        refine wl_op (k := 1) (k' := 2) rfl rfl rfl (wo_run rfl rfl (run_move rfl rfl) ?_)
                        refine wl_op (k := 2) (k' := 3) rfl rfl rfl (wo_run rfl rfl (run_move rfl rfl) ?_)
                        refine wl_op (k := 3) (k' := 4) rfl rfl rfl (wo_run rfl rfl (run_move rfl rfl) ?_)
                        refine wl_op (k := 4) (k' := 5) rfl rfl rfl (wo_run rfl rfl (run_move rfl rfl) ?_)
                        refine wl_op (k := 5) (k' := 6) rfl rfl rfl (wo_run rfl rfl (run_add rfl rfl rfl (by first | omega | (simp only [List.length_set, List.length_append, List.length_replicate, List.length_singleton, List.length_cons, List.length_nil]; omega))) ?_)
                        refine wl_op (k := 6) (k' := 7) rfl rfl rfl (wo_run rfl rfl (run_buildA (l := [_, _]) (pl := [(0, 1), (1, 1)]) rfl rfl Try.underlying60 zr60 sz3 rfl rfl rfl) ?_)
                        refine wl_op (k := 7) (k' := 8) rfl rfl rfl (wo_run rfl rfl (run_indexR (C := cdA4) (i := 2) k2 rfl rfl rfl sl57 S13 rfl (by first | rfl | omega) (by first | omega | (simp only [List.length_set, List.length_append, List.length_replicate, List.length_singleton, List.length_cons, List.length_nil]; omega))) ?_)
                        refine wl_op (k := 8) (k' := 9) rfl rfl rfl (wo_run rfl rfl (run_indexP (e := 1) (k := 2) rfl rfl rfl Try.underlying61 sz60 (by first | rfl | omega) (by first | omega | (simp only [List.length_set, List.length_append, List.length_replicate, List.length_singleton, List.length_cons, List.length_nil]; omega))) ?_)
                        refine wl_op (k := 9) (k' := 10) rfl rfl rfl (wo_storeR (C := cdA4) (i := 2) (e := k2) (j := 2) (us := [_, _]) (H' := [_, _, _, _]) (⟨(ga t2 k2).a, (ga t2 k2).b, (x2 : Int), (x2 : Int) + 1⟩ : A4) rfl rfl S13 rfl (by first | omega | (simp only [List.length_set, List.length_append, List.length_replicate, List.length_singleton, List.length_cons, List.length_nil]; omega)) rfl rfl rfl sz60 rfl rfl rfl rfl ?_)
                        intro w15 S15; clear S13
                        refine wl_end rfl ?_
                        refine nm_sub [(0, _), (1, _), (4, _), (7, _), (8, _), (9, _), (10, _), (11, _), (12, _), (14, _), (61, _), (62, _), (63, _), (15, _), (18, _)] ⟨rfl, rfl, rfl, rfl, rfl, rfl, rfl, rfl, rfl, rfl, rfl, rfl, rfl, rfl, rfl, trivial⟩ ?_
                        refine nm_thn ?_
                        refine ws_seqN Close_n99 Close_n100 rfl rfl rfl ?_
                        refine ws_region rfl ?_
                        refine wl_op (k := 0) (k' := 1) rfl rfl rfl (wo_run rfl rfl (run_move rfl rfl) ?_)
                        refine wl_op (k := 1) (k' := 2) rfl rfl rfl (wo_run rfl rfl (run_move rfl rfl) ?_)
                        refine wl_op (k := 2) (k' := 3) rfl rfl rfl (wo_run rfl rfl (run_move rfl rfl) ?_)
                        refine wl_op (k := 3) (k' := 4) rfl rfl rfl (wo_run rfl rfl (run_indexR (C := cdA4) (i := 2) k2 rfl rfl rfl sl57 S15 rfl (by first | rfl | omega) (by first | omega | (simp only [List.length_set, List.length_append, List.length_replicate, List.length_singleton, List.length_cons, List.length_nil]; omega))) ?_)
                        refine wl_op (k := 4) (k' := 5) rfl rfl rfl (wo_run rfl rfl (run_indexP (e := 1) (k := 2) rfl rfl rfl Try.underlying61 sz60 (by first | rfl | omega) (by first | omega | (simp only [List.length_set, List.length_append, List.length_replicate, List.length_singleton, List.length_cons, List.length_nil]; omega))) ?_)
                        refine wl_op (k := 5) (k' := 6) rfl rfl rfl (wo_run rfl rfl (run_indexP (e := 1) (k := 1) rfl rfl rfl Try.underlying60 sz3 (by first | rfl | omega) (by first | omega | (simp only [List.length_set, List.length_append, List.length_replicate, List.length_singleton, List.length_cons, List.length_nil]; omega))) ?_)
                        refine wl_op (k := 6) (k' := 7) rfl rfl rfl (wo_run rfl rfl (run_assign rfl rfl) ?_)
                        refine wl_end rfl ?_
                        refine nm_sub [(0, _), (1, _), (4, _), (7, _), (8, _), (9, _), (10, _), (11, _), (12, _), (14, _), (61, _), (62, _), (63, _), (13, _)] ⟨rfl, rfl, rfl, rfl, rfl, rfl, rfl, rfl, rfl, rfl, rfl, rfl, rfl, rfl, trivial⟩ ?_
                        refine nm_thn ?_
                        refine ws_region rfl ?_
                        refine wl_op (k := 0) (k' := 1) rfl rfl rfl (wo_run rfl rfl (run_move rfl rfl) ?_)
                        refine wl_op (k := 1) (k' := 2) rfl rfl rfl (wo_run rfl rfl (run_add rfl rfl rfl (by first | omega | (simp only [List.length_set, List.length_append, List.length_replicate, List.length_singleton, List.length_cons, List.length_nil]; omega))) ?_)
                        refine wl_op (k := 2) (k' := 3) rfl rfl rfl (wo_run rfl rfl (run_assign rfl rfl) ?_)
                        refine wl_end rfl ?_
                        refine nm_blk ?_
                        refine nm_sub [(0, _), (1, _), (4, _), (7, _), (8, _), (9, _), (10, _), (11, _), (12, _), (14, _), (61, _), (62, _), (63, _), (13, _)] ⟨rfl, rfl, rfl, rfl, rfl, rfl, rfl, rfl, rfl, rfl, rfl, rfl, rfl, rfl, trivial⟩ ?_
                        refine nm_thn ?_
                        refine ws_region rfl ?_
                        refine wl_op (k := 0) (k' := 1) rfl rfl rfl (wo_run rfl rfl (run_add rfl rfl rfl (by first | omega | (simp only [List.length_set, List.length_append, List.length_replicate, List.length_singleton, List.length_cons, List.length_nil]; omega))) ?_)
                        refine wl_op (k := 1) (k' := 2) rfl rfl rfl (wo_run rfl rfl (run_move rfl rfl) ?_)
                        refine wl_end rfl ?_
                        refine nm_lp ?_
                        have hwd9 := wordC_succ l ⟨t1, p1, x1, q1, lk1⟩ k2
                        rw [hwd] at hwd9
                        unfold letC at hwd9; dsimp only at hwd9; rw [if_neg (by omega), if_pos (by omega)] at hwd9
                        intro ax_ hax_
                        refine ⟨_, ?hq6m, ⟨k2 + 1, _, leC l k2, x2 + 1, 2, k2, _, rfl, hax_.sub ⟨rfl, rfl, rfl, rfl, rfl, rfl, rfl, rfl, rfl, rfl, rfl, rfl, rfl, rfl, trivial⟩, S15.pick [0, 1, 2, 3] [_, _, _, _] (by decide) ⟨rfl, rfl, rfl, rfl, trivial⟩, ?hq6f0, ?hq6f1, ?hq6f2, ?hq6f3, ?hq6f4, ?hq6f5, ?hq6f6⟩⟩
                        case hq6f0 => omega
                        case hq6f1 => exact hwd9
                        case hq6f2 => first | assumption | simpa using htl2
                        case hq6f3 => omega
                        case hq6f4 => omega
                        case hq6f5 => omega
                        case hq6f6 => first | assumption | omega
                        case hq6m => omega
                      · have hb78 := of_decide_eq_false hb78
                        refine ws_exit rfl rfl ?_
                        refine nm_sub [(0, _), (1, _), (4, _), (7, _), (8, _), (9, _), (10, _), (11, _), (12, _), (13, _), (14, _), (61, _), (62, _), (63, _)] ⟨rfl, rfl, rfl, rfl, rfl, rfl, rfl, rfl, rfl, rfl, rfl, rfl, rfl, rfl, trivial⟩ ?_
                        refine nm_thn ?_
                        refine ws_region rfl ?_
                        refine wl_op (k := 0) (k' := 1) rfl rfl rfl (wo_run rfl rfl (run_add rfl rfl rfl (by first | omega | (simp only [List.length_set, List.length_append, List.length_replicate, List.length_singleton, List.length_cons, List.length_nil]; omega))) ?_)
                        refine wl_op (k := 1) (k' := 2) rfl rfl rfl (wo_run rfl rfl (run_move rfl rfl) ?_)
                        refine wl_end rfl ?_
                        refine nm_lp ?_
                        have hwd9 := wordC_succ l ⟨t1, p1, x1, q1, lk1⟩ k2
                        rw [hwd] at hwd9
                        unfold letC at hwd9; dsimp only at hwd9; rw [if_neg (by omega), if_neg (by omega)] at hwd9
                        intro ax_ hax_
                        refine ⟨_, ?hq7m, ⟨k2 + 1, t2, p2, x2, q2, lk2, _, rfl, hax_.sub ⟨rfl, rfl, rfl, rfl, rfl, rfl, rfl, rfl, rfl, rfl, rfl, rfl, rfl, rfl, trivial⟩, S13.pick [0, 1, 2, 3] [_, _, _, _] (by decide) ⟨rfl, rfl, rfl, rfl, trivial⟩, ?hq7f0, ?hq7f1, ?hq7f2, ?hq7f3, ?hq7f4, ?hq7f5, ?hq7f6⟩⟩
                        case hq7f0 => omega
                        case hq7f1 => exact hwd9
                        case hq7f2 => first | assumption | simpa using htl2
                        case hq7f3 => omega
                        case hq7f4 => omega
                        case hq7f5 => omega
                        case hq7f6 => first | assumption | omega
                        case hq7m => omega
                  · have hb64 := of_decide_eq_false hb64
                    refine ws_exit rfl rfl ?_
                    refine nm_blk ?_
                    refine nm_lp ?_
                    have hk2e : k2 = l.length := by omega
                    subst hk2e
                    have hfr := free_set (seen := wk1) (x := p1) (by omega) (by simpa using hb57)
                    have hwd9 : wordC l ⟨t1, p1, x1, q1, lk1⟩ l.length = ⟨t2, p2, x2, q2, lk2⟩ := hwd
                    intro ax_ hax_
                    refine ⟨_, ?hq8m, ⟨_, _, p2, x2, q2, lk2, _, _, rfl, hax_.sub ⟨rfl, rfl, rfl, rfl, rfl, rfl, rfl, rfl, rfl, rfl, rfl, trivial⟩, S13.pick [0, 1, 2, 3] [_, _, _, _] (by decide) ⟨rfl, rfl, rfl, rfl, trivial⟩, ?hq8f0, ?hq8f1, ?hq8f2, ?hq8f3, ?hq8f4, ?hq8f5, ?hq8f6⟩⟩
                    case hq8f0 => (rw [hrg, ringC_go (by show p1 < _; omega) (by simpa using hb57)]; exact congrArg _ hwd9)
                    case hq8f1 => (rw [List.length_set]; exact hwkl1)
                    case hq8f2 => assumption
                    case hq8f3 => omega
                    case hq8f4 => omega
                    case hq8f5 => omega
                    case hq8f6 => assumption
                    case hq8m => omega
              · simp only [Bool.and_eq_true, Bool.or_eq_true, Bool.and_eq_false_iff, Bool.or_eq_false_iff, decide_eq_true_eq, decide_eq_false_iff_not, Bool.not_eq_true', Bool.not_eq_false'] at hb57
                have hw1 : ga wk1 p1 = true := by simpa using hb57
                refine ws_exit rfl rfl ?_
                refine nm_sub [(0, _), (1, _), (4, _), (7, _), (8, _), (9, _), (10, _), (11, _), (12, _), (13, _)] ⟨rfl, rfl, rfl, rfl, rfl, rfl, rfl, rfl, rfl, rfl, trivial⟩ ?_
                refine nm_thn ?_
                refine ws_seqN Close_n105 Close_n106 rfl rfl rfl ?_
                refine ws_region rfl ?_
                refine wl_op (k := 0) (k' := 1) rfl rfl rfl (wo_run rfl rfl (run_move rfl rfl) ?_)
                refine wl_op (k := 1) (k' := 2) rfl rfl rfl (wo_run rfl rfl (run_ptrNeNil rfl rfl rfl Try.underlying59) ?_)
                refine wl_end rfl ?_
                refine nm_sub [(0, _), (1, _), (4, _), (7, _), (8, _), (9, _), (10, _), (11, _), (12, _), (13, _), (102, _)] ⟨rfl, rfl, rfl, rfl, rfl, rfl, rfl, rfl, rfl, rfl, rfl, trivial⟩ ?_
                refine nm_thn ?_
                rcases hlq1 with rfl | rfl | rfl
                · refine ws_condFN Close_n108 rfl rfl rfl ?_
                  refine ws_region rfl ?_
                  refine wl_op (k := 0) (k' := 1) rfl rfl rfl (wo_run rfl rfl (run_fieldAddr rfl rfl Try.underlying38 rfl (ce3) (nf3)) ?_)
                  refine wl_op (k := 1) (k' := 2) rfl rfl rfl (wo_run rfl rfl (run_load1 rfl rfl Try.underlying3 rfl (S11.boxc (i := 1) rfl rfl)) ?_)
                  refine wl_op (k := 2) (k' := 3) rfl rfl rfl (wo_run rfl rfl (run_add rfl rfl rfl (by first | omega | (simp only [List.length_set, List.length_append, List.length_replicate, List.length_singleton, List.length_cons, List.length_nil]; omega))) ?_)
                  refine wl_op (k := 3) (k' := 4) rfl rfl rfl (wo_run rfl rfl (run_fieldAddr rfl rfl Try.underlying38 rfl (ce3) (nf3)) ?_)
                  refine wl_op (k := 4) (k' := 5) rfl rfl rfl (wo_storeB (i := 1) (us := [_]) (l' := [_, _]) (H' := [_, _, _, _]) rfl rfl S11 rfl rfl rfl rfl sz3 rfl rfl rfl rfl ?_)
                  intro w16 S16; clear S11
                  refine wl_end rfl ?_
                  refine nm_blk ?_
                  refine nm_sub [(0, _), (1, _), (4, _), (7, _), (8, _), (9, _), (10, _), (11, _)] ⟨rfl, rfl, rfl, rfl, rfl, rfl, rfl, rfl, trivial⟩ ?_
                  refine nm_thn ?_
                  refine ws_region rfl ?_
                  refine wl_op (k := 0) (k' := 1) rfl rfl rfl (wo_run rfl rfl (run_move rfl rfl) ?_)
                  refine wl_op (k := 1) (k' := 2) rfl rfl rfl (wo_run rfl rfl (run_add rfl rfl rfl (by first | omega | (simp only [List.length_set, List.length_append, List.length_replicate, List.length_singleton, List.length_cons, List.length_nil]; omega))) ?_)
                  refine wl_op (k := 2) (k' := 3) rfl rfl rfl (wo_run rfl rfl (run_assign rfl rfl) ?_)
                  refine wl_end rfl ?_
                  refine nm_lp ?_
                  have hcl9 := closeF_ring hcl (by simpa using hb50) (hrg.trans (ringC_stop (by exact hw1)))
                  intro ax_ hax_
                  refine ⟨_, ?hq9m, ⟨p0 + 1, wk1, t1, x1, lp + 1, _, _, rfl, hax_.sub ⟨rfl, rfl, rfl, rfl, rfl, rfl, rfl, rfl, trivial⟩, S16.pick [0, 1, 2, 3] [_, _, _, _] (by decide) ⟨rfl, rfl, rfl, rfl, trivial⟩, ?hq9f0, ?hq9f1, ?hq9f2, ?hq9f3, ?hq9f4, ?hq9f5⟩⟩
                  case hq9f0 => omega
                  case hq9f1 => (first | exact hcl9 | (rw [hcl9]; simp [tieC]; done) | (rw [hcl9]; simp [tieC]))
                  case hq9f2 => assumption
                  case hq9f3 => first | assumption | simpa using htl1
                  case hq9f4 => omega
                  case hq9f5 => omega
                  case hq9m => omega
                · have hlkb := hlk1 (by omega)
                  refine ws_condTN Close_n107 rfl rfl rfl ?_
                  refine ws_region rfl ?_
                  refine wl_op (k := 0) (k' := 1) rfl rfl rfl (wo_run rfl rfl (run_move rfl rfl) ?_)
                  refine wl_op (k := 1) (k' := 2) rfl rfl rfl (wo_run rfl rfl (run_move rfl rfl) ?_)
                  refine wl_op (k := 2) (k' := 3) rfl rfl rfl (wo_run rfl rfl (run_nilCheck rfl rfl) ?_)
                  refine wl_op (k := 3) (k' := 4) rfl rfl rfl (wo_storeR (C := cdA4) (i := 2) (e := lk1) (j := 1) (us := [_]) (H' := [_, _, _, _]) (⟨(ga t1 lk1).a, (x : Int), (ga t1 lk1).c, (ga t1 lk1).d⟩ : A4) rfl rfl S11 rfl (by first | omega | (simp only [List.length_set, List.length_append, List.length_replicate, List.length_singleton, List.length_cons, List.length_nil]; omega)) rfl rfl rfl sz3 rfl rfl rfl rfl ?_)
                  intro w17 S17; clear S11
                  refine wl_end rfl ?_
                  refine nm_blk ?_
                  refine nm_sub [(0, _), (1, _), (4, _), (7, _), (8, _), (9, _), (10, _), (11, _)] ⟨rfl, rfl, rfl, rfl, rfl, rfl, rfl, rfl, trivial⟩ ?_
                  refine nm_thn ?_
                  refine ws_region rfl ?_
                  refine wl_op (k := 0) (k' := 1) rfl rfl rfl (wo_run rfl rfl (run_move rfl rfl) ?_)
                  refine wl_op (k := 1) (k' := 2) rfl rfl rfl (wo_run rfl rfl (run_add rfl rfl rfl (by first | omega | (simp only [List.length_set, List.length_append, List.length_replicate, List.length_singleton, List.length_cons, List.length_nil]; omega))) ?_)
                  refine wl_op (k := 2) (k' := 3) rfl rfl rfl (wo_run rfl rfl (run_assign rfl rfl) ?_)
                  refine wl_end rfl ?_
                  refine nm_lp ?_
                  have hcl9 := closeF_ring hcl (by simpa using hb50) (hrg.trans (ringC_stop (by exact hw1)))
                  intro ax_ hax_
                  refine ⟨_, ?hq10m, ⟨p0 + 1, wk1, _, x1, lp, _, _, rfl, hax_.sub ⟨rfl, rfl, rfl, rfl, rfl, rfl, rfl, rfl, trivial⟩, S17.pick [0, 1, 2, 3] [_, _, _, _] (by decide) ⟨rfl, rfl, rfl, rfl, trivial⟩, ?hq10f0, ?hq10f1, ?hq10f2, ?hq10f3, ?hq10f4, ?hq10f5⟩⟩
                  case hq10f0 => omega
                  case hq10f1 => (first | exact hcl9 | (rw [hcl9]; simp [tieC]; done) | (rw [hcl9]; simp [tieC]))
                  case hq10f2 => assumption
                  case hq10f3 => first | assumption | simpa using htl1
                  case hq10f4 => omega
                  case hq10f5 => omega
                  case hq10m => omega
                · have hlkb := hlk1 (by omega)
                  refine ws_condTN Close_n107 rfl rfl rfl ?_
                  refine ws_region rfl ?_
                  refine wl_op (k := 0) (k' := 1) rfl rfl rfl (wo_run rfl rfl (run_move rfl rfl) ?_)
                  refine wl_op (k := 1) (k' := 2) rfl rfl rfl (wo_run rfl rfl (run_move rfl rfl) ?_)
                  refine wl_op (k := 2) (k' := 3) rfl rfl rfl (wo_run rfl rfl (run_nilCheck rfl rfl) ?_)
                  refine wl_op (k := 3) (k' := 4) rfl rfl rfl (wo_storeR (C := cdA4) (i := 2) (e := lk1) (j := 3) (us := [_]) (H' := [_, _, _, _]) (⟨(ga t1 lk1).a, (ga t1 lk1).b, (ga t1 lk1).c, (x : Int)⟩ : A4) rfl rfl S11 rfl (by first | omega | (simp only [List.length_set, List.length_append, List.length_replicate, List.length_singleton, List.length_cons, List.length_nil]; omega)) rfl rfl rfl sz3 rfl rfl rfl rfl ?_)
                  intro w18 S18; clear S11
                  refine wl_end rfl ?_
                  refine nm_blk ?_
                  refine nm_sub [(0, _), (1, _), (4, _), (7, _), (8, _), (9, _), (10, _), (11, _)] ⟨rfl, rfl, rfl, rfl, rfl, rfl, rfl, rfl, trivial⟩ ?_
                  refine nm_thn ?_
                  refine ws_region rfl ?_
                  refine wl_op (k := 0) (k' := 1) rfl rfl rfl (wo_run rfl rfl (run_move rfl rfl) ?_)
                  refine wl_op (k := 1) (k' := 2) rfl rfl rfl (wo_run rfl rfl (run_add rfl rfl rfl (by first | omega | (simp only [List.length_set, List.length_append, List.length_replicate, List.length_singleton, List.length_cons, List.length_nil]; omega))) ?_)
                  refine wl_op (k := 2) (k' := 3) rfl rfl rfl (wo_run rfl rfl (run_assign rfl rfl) ?_)
                  refine wl_end rfl ?_
                  refine nm_lp ?_
                  have hcl9 := closeF_ring hcl (by simpa using hb50) (hrg.trans (ringC_stop (by exact hw1)))
                  intro ax_ hax_
                  refine ⟨_, ?hq11m, ⟨p0 + 1, wk1, _, x1, lp, _, _, rfl, hax_.sub ⟨rfl, rfl, rfl, rfl, rfl, rfl, rfl, rfl, trivial⟩, S18.pick [0, 1, 2, 3] [_, _, _, _] (by decide) ⟨rfl, rfl, rfl, rfl, trivial⟩, ?hq11f0, ?hq11f1, ?hq11f2, ?hq11f3, ?hq11f4, ?hq11f5⟩⟩
                  case hq11f0 => omega
                  case hq11f1 => (first | exact hcl9 | (rw [hcl9]; simp [tieC]; done) | (rw [hcl9]; simp [tieC]))
                  case hq11f2 => assumption
                  case hq11f3 => first | assumption | simpa using htl1
                  case hq11f4 => omega
                  case hq11f5 => omega
                  case hq11m => omega
        · have hb44 := of_decide_eq_false hb44
          refine ws_exit rfl rfl ?_
          refine nm_sub [(1, _), (4, _), (7, _), (8, _)] ⟨rfl, rfl, rfl, rfl, trivial⟩ ?_
          refine nm_thn ?_
          refine ws_seqN Close_n109 Close_n110 rfl rfl rfl ?_
          refine ws_seqN Close_n111 Close_n112 rfl rfl rfl ?_
          refine ws_region rfl ?_
          refine wl_op (k := 0) (k' := 1) rfl rfl rfl (wo_run rfl rfl (run_move rfl rfl) ?_)
          refine wl_op (k := 1) (k' := 2) rfl rfl rfl (wo_run rfl rfl (run_len rfl rfl rfl rfl rfl rfl Try.underlying22) ?_)
          refine wl_op (k := 2) (k' := 3) rfl rfl rfl (wo_run rfl rfl (run_move rfl rfl) ?_)
          refine wl_end rfl ?_
          refine nm_sub [(4, _), (7, _), (8, _), (110, _), (111, _), (112, _)] ⟨rfl, rfl, rfl, rfl, rfl, rfl, trivial⟩ ?_
          refine nm_thn ?_
          refine ws_blockN Close_n113 7 rfl rfl rfl ?_
          have S19 := S10.nilrow cdCr; clear S10
          refine ws_loopE (fun mx_ ax_ wx_ => ∃ (k3 : Nat) (acc : List Cr) (vro : Value), mx_ = l.length - k3 ∧ Env 143 [(4, .pointer (some ⟨gb1, 0, none⟩)), (7, vra), (8, .pointer (some ⟨gb3, 0, none⟩)), (110, .slice lA l.length lc), (111, .int .i64 (l.length : Int)), (112, .int .i64 (k3 : Int))] ax_ ∧ SH wx_ M X [Rs.row cdCr vro acc, Rs.box gb3 38 [vro, .int .i64 lp], Rs.row cdA4 vra t, Rs.box gb1 38 [.slice none 0 0, .int .i64 0]] ∧ k3 ≤ l.length ∧ acc = closeL l t k3) rfl ?_ ?_
          · intro ax_ hax_
            refine ⟨_, ⟨0, _, _, rfl, hax_.sub ⟨rfl, rfl, rfl, rfl, rfl, rfl, trivial⟩, S19.pick [0, 2, 3, 4] [_, _, _, _] (by decide) ⟨rfl, rfl, rfl, rfl, trivial⟩, ?hq12f0, ?hq12f1⟩⟩
            case hq12f0 => omega
            case hq12f1 => rfl
          · rintro m4 a4 w19 ⟨k3, acc, vro, rfl, he4, S20, hk3, hacc⟩
            clear S19
            refine ws_in he4 (c := Close_n114) rfl ?_
            clear he4 a4
            have hal : acc.length = k3 := by rw [hacc]; exact closeL_len _ _ _
            have hwk := fun h => hwb k3 h
            refine ws_seqN Close_n115 Close_n116 rfl rfl rfl ?_
            refine ws_region rfl ?_
            refine wl_op (k := 0) (k' := 1) rfl rfl rfl (wo_run rfl rfl (run_lss rfl rfl rfl) ?_)
            refine wl_end rfl ?_
            refine nm_thn ?_
            refine ws_seqN Close_n117 Close_n118 rfl rfl rfl ?_
            refine ws_condN Close_n119 Close_n120 rfl rfl rfl rfl (fun hb113 => ?_) (fun hb113 => ?_)
            · have hb113 := of_decide_eq_true hb113
              refine ws_skip rfl ?_
              refine nm_sub [(4, _), (7, _), (8, _), (110, _), (111, _), (112, _)] ⟨rfl, rfl, rfl, rfl, rfl, rfl, trivial⟩ ?_
              refine nm_thn ?_
              refine ws_seqN Close_n121 Close_n122 rfl rfl rfl ?_
              refine ws_blockN Close_n123 8 rfl rfl rfl ?_
              refine ws_seqN Close_n124 Close_n125 rfl rfl rfl ?_
              refine ws_region rfl ?_
              refine wl_op (k := 0) (k' := 1) rfl rfl rfl (wo_run rfl rfl (run_move rfl rfl) ?_)
              refine wl_op (k := 1) (k' := 2) rfl rfl rfl (wo_run rfl rfl (run_indexM (C := cdInt) k3 rfl rfl rfl sl22 (by first | rfl | omega) hl (by first | omega | (simp only [List.length_set, List.length_append, List.length_replicate, List.length_singleton, List.length_cons, List.length_nil]; omega))) ?_)
              refine wl_op (k := 2) (k' := 3) rfl rfl rfl (wo_run rfl rfl (run_load1 rfl rfl Try.underlying3 rfl (hl.cell S20.um (i := k3) (by first | omega | (simp only [List.length_set, List.length_append, List.length_replicate, List.length_singleton, List.length_cons, List.length_nil]; omega)) 0 rfl rfl)) ?_)
              refine wl_op (k := 3) (k' := 4) rfl rfl rfl (wo_run rfl rfl (run_assign rfl rfl) ?_)
              refine wl_op (k := 4) (k' := 5) rfl rfl rfl (wo_run rfl rfl (run_assign rfl rfl) ?_)
              refine wl_end rfl ?_
              refine nm_sub [(4, _), (7, _), (8, _), (110, _), (111, _), (112, _), (19, _), (20, _)] ⟨rfl, rfl, rfl, rfl, rfl, rfl, rfl, rfl, trivial⟩ ?_
              refine nm_thn ?_
              refine ws_seqN Close_n126 Close_n127 rfl rfl rfl ?_
              refine ws_draw rfl (by kernel_rfl) S20 14 rfl ?_
              clear S20
              refine wa_takeP (i := 0) (d := 117) 13 rfl (by kernel_rfl) (by kernel_rfl) (by kernel_rfl) rfl rfl rfl (fun w20 => run_move rfl rfl) ?_
              refine wa_takeP (i := 1) (d := 118) 12 rfl (by kernel_rfl) (by kernel_rfl) (by kernel_rfl) rfl rfl rfl (fun w21 => run_move rfl rfl) ?_
              refine wa_take (i := 2) (d := 119) 11 rfl (by kernel_rfl) (by kernel_rfl) (by kernel_rfl) rfl rfl rfl (fun M3 N3 w22 hle7 S23 => .inl (run_indexR (C := cdA4) (i := 2) k3 rfl rfl rfl sl57 S23.suf rfl (by first | rfl | omega) (by first | omega | (simp only [List.length_set, List.length_append, List.length_replicate, List.length_singleton, List.length_cons, List.length_nil]; omega)))) ?_
              refine wa_take (i := 3) (d := 120) 10 rfl (by kernel_rfl) (by kernel_rfl) (by kernel_rfl) rfl rfl rfl (fun M4 N4 w23 hle8 S24 => .inl (run_indexP (e := 0) (k := 2) rfl rfl rfl Try.underlying61 sz60 (by first | rfl | omega) (by first | omega | (simp only [List.length_set, List.length_append, List.length_replicate, List.length_singleton, List.length_cons, List.length_nil]; omega)))) ?_
              refine wa_take (i := 4) (d := 121) 9 rfl (by kernel_rfl) (by kernel_rfl) (by kernel_rfl) rfl rfl rfl (fun M5 N5 w24 hle9 S25 => .inl (run_loadN (us := [_, _]) rfl rfl Try.underlying60 rfl sz60 (S25.suf.rowcs (i := 2) (e := k3) (j := 0) rfl (by first | omega | (simp only [List.length_set, List.length_append, List.length_replicate, List.length_singleton, List.length_cons, List.length_nil]; omega)) ⟨rfl, rfl, trivial⟩))) ?_
              refine wa_takeP (i := 5) (d := 122) 8 rfl (by kernel_rfl) (by kernel_rfl) (by kernel_rfl) rfl rfl rfl (fun w25 => run_move rfl rfl) ?_
              refine wa_takeP (i := 6) (d := 123) 7 rfl (by kernel_rfl) (by kernel_rfl) (by kernel_rfl) rfl rfl rfl (fun w26 => run_move rfl rfl) ?_
              refine wa_take (i := 7) (d := 124) 6 rfl (by kernel_rfl) (by kernel_rfl) (by kernel_rfl) rfl rfl rfl (fun M8 N8 w27 hle12 S28 => .inl (run_indexR (C := cdA4) (i := 2) k3 rfl rfl rfl sl57 S28.suf rfl (by first | rfl | omega) (by first | omega | (simp only [List.length_set, List.length_append, List.length_replicate, List.length_singleton, List.length_cons, List.length_nil]; omega)))) ?_
              refine wa_take (i := 8) (d := 125) 5 rfl (by kernel_rfl) (by kernel_rfl) (by kernel_rfl) rfl rfl rfl (fun M9 N9 w28 hle13 S29 => .inl (run_indexP (e := 1) (k := 2) rfl rfl rfl Try.underlying61 sz60 (by first | rfl | omega) (by first | omega | (simp only [List.length_set, List.length_append, List.length_replicate, List.length_singleton, List.length_cons, List.length_nil]; omega)))) ?_
              refine wa_take (i := 9) (d := 126) 4 rfl (by kernel_rfl) (by kernel_rfl) (by kernel_rfl) rfl rfl rfl (fun M10 N10 w29 hle14 S30 => .inl (run_loadN (us := [_, _]) rfl rfl Try.underlying60 rfl sz60 (S30.suf.rowcs (i := 2) (e := k3) (j := 2) rfl (by first | omega | (simp only [List.length_set, List.length_append, List.length_replicate, List.length_singleton, List.length_cons, List.length_nil]; omega)) ⟨rfl, rfl, trivial⟩))) ?_
              refine wa_two (i := 10) (j := 11) 3 rfl rfl (by kernel_rfl) rfl rfl rfl rfl (fun w32 S33 => ?_) (fun w32 S33 => ?_)
              · refine (wo_alloc (l := [_, _]) rfl rfl rfl zr60 rfl S33 ?_)
                intro gb4 w33 S34; clear S33
                refine LeftW.grow [_] (Hp.le_refl _) S34 ?_; clear S34
                change WA _ _ _ _ _ _ _ _ _ _ _ _ [_, _, _, _, _]
                refine wa_only (i := 11) 2 rfl (by kernel_rfl) rfl rfl (fun w35 S36 => ?_)
                refine (wo_alloc (l := [_, _]) rfl rfl rfl zr60 rfl S36 ?_)
                intro gb5 w36 S37; clear S36
                refine LeftW.grow [_, _] (Hp.le_refl _) S37 ?_; clear S37
                change WA _ _ _ _ _ _ _ _ _ _ _ _ [_, _, _, _, _, _]
                refine wa_only (i := 12) 1 rfl (by kernel_rfl) rfl rfl (fun w38 S39 => ?_)
                refine (wo_storeB (i := 1) (us := [_, _]) (l' := [_, _]) (H' := [_, _, _, _, _, _]) rfl rfl S39 rfl rfl rfl rfl sz60 rfl rfl rfl rfl ?_)
                intro w39 S40; clear S39
                refine LeftW.grow [_, _] (Hp.le_refl _) S40 ?_; clear S40
                change WA _ _ _ _ _ _ _ _ _ _ _ _ [_, _, _, _, _, _]
                refine wa_only (i := 13) 0 rfl (by kernel_rfl) rfl rfl (fun w41 S42 => ?_)
                refine (wo_storeB (i := 0) (us := [_, _]) (l' := [_, _]) (H' := [_, _, _, _, _, _]) rfl rfl S42 rfl rfl rfl rfl sz60 rfl rfl rfl rfl ?_)
                intro w42 S43; clear S42
                refine LeftW.grow [_, _] (Hp.le_refl _) S43 ?_; clear S43
                change WA _ _ _ _ _ _ _ _ _ _ _ _ [_, _, _, _, _, _]
                refine wa_end (by kernel_rfl) (fun w43 S44 => ?_)
                refine nm_sub [(4, _), (7, _), (8, _), (110, _), (111, _), (112, _), (20, _), (21, _), (22, _)] ⟨rfl, rfl, rfl, rfl, rfl, rfl, rfl, rfl, rfl, trivial⟩ ?_
                refine nm_thn ?_
                refine ws_seqN Close_n128 Close_n129 rfl rfl rfl ?_
                refine ws_seqN Close_n130 Close_n131 rfl rfl rfl ?_
                refine ws_region rfl ?_
                refine wl_op (k := 0) (k' := 1) rfl rfl rfl (wo_run rfl rfl (run_move rfl rfl) ?_)
                refine wl_op (k := 1) (k' := 2) rfl rfl rfl (wo_run rfl rfl (run_gtr rfl rfl rfl) ?_)
                refine wl_end rfl ?_
                refine nm_sub [(4, _), (7, _), (8, _), (110, _), (111, _), (112, _), (20, _), (21, _), (22, _), (128, _)] ⟨rfl, rfl, rfl, rfl, rfl, rfl, rfl, rfl, rfl, rfl, trivial⟩ ?_
                refine nm_thn ?_
                refine ws_condN Close_n132 Close_n133 rfl rfl rfl rfl (fun hb128 => ?_) (fun hb128 => ?_)
                · have hb128 := of_decide_eq_true hb128
                  refine ws_region rfl ?_
                  refine wl_op (k := 0) (k' := 1) rfl rfl rfl (wo_run rfl rfl (run_loadN (us := [_, _]) rfl rfl Try.underlying60 rfl sz60 (S44.boxcs (i := 0) rfl ⟨rfl, rfl, trivial⟩)) ?_)
                  refine wl_op (k := 1) (k' := 2) rfl rfl rfl (wo_run rfl rfl (run_loadN (us := [_, _]) rfl rfl Try.underlying60 rfl sz60 (S44.boxcs (i := 1) rfl ⟨rfl, rfl, trivial⟩)) ?_)
                  refine wl_op (k := 2) (k' := 3) rfl rfl rfl (wo_storeB (i := 1) (us := [_, _]) (l' := [_, _]) (H' := [_, _, _, _, _, _]) rfl rfl S44 rfl rfl rfl rfl sz60 rfl rfl rfl rfl ?_)
                  intro w44 S45; clear S44
                  refine wl_op (k := 3) (k' := 4) rfl rfl rfl (wo_storeB (i := 0) (us := [_, _]) (l' := [_, _]) (H' := [_, _, _, _, _, _]) rfl rfl S45 rfl rfl rfl rfl sz60 rfl rfl rfl rfl ?_)
                  intro w45 S46; clear S45
                  refine wl_end rfl ?_
                  refine nm_sub [(4, _), (7, _), (8, _), (110, _), (111, _), (112, _), (20, _), (21, _), (22, _)] ⟨rfl, rfl, rfl, rfl, rfl, rfl, rfl, rfl, rfl, trivial⟩ ?_
                  refine nm_thn ?_
                  refine ws_draw rfl (by kernel_rfl) S46 11 rfl ?_
                  clear S46
                  refine wa_takeP (i := 0) (d := 131) 10 rfl (by kernel_rfl) (by kernel_rfl) (by kernel_rfl) rfl rfl rfl (fun w46 => run_fieldAddr rfl rfl Try.underlying38 rfl (ce36) (nf36)) ?_
                  refine wa_take (i := 1) (d := 132) 9 rfl (by kernel_rfl) (by kernel_rfl) (by kernel_rfl) rfl rfl rfl (fun M17 N17 w47 hle21 S48 => .inl (run_load1 rfl rfl Try.underlying36 rfl (S48.suf.boxc (i := 3) rfl rfl))) ?_
                  refine wa_take (i := 2) (d := 133) 8 rfl (by kernel_rfl) (by kernel_rfl) (by kernel_rfl) rfl rfl rfl (fun M18 N18 w48 hle22 S49 => .inl (run_loadN (us := [_, _]) rfl rfl Try.underlying60 rfl sz60 (S49.suf.boxcs (i := 1) rfl ⟨rfl, rfl, trivial⟩))) ?_
                  refine wa_take (i := 3) (d := 134) 7 rfl (by kernel_rfl) (by kernel_rfl) (by kernel_rfl) rfl rfl rfl (fun M19 N19 w49 hle23 S50 => .inl (run_loadN (us := [_, _]) rfl rfl Try.underlying60 rfl sz60 (S50.suf.boxcs (i := 0) rfl ⟨rfl, rfl, trivial⟩))) ?_
                  refine wa_takeP (i := 4) (d := 135) 6 rfl (by kernel_rfl) (by kernel_rfl) (by kernel_rfl) rfl rfl rfl (fun w50 => run_move rfl rfl) ?_
                  refine wa_takeP (i := 5) (d := 136) 5 rfl (by kernel_rfl) (by kernel_rfl) (by kernel_rfl) rfl rfl rfl (fun w51 => run_gtr rfl rfl rfl) ?_
                  refine wa_take (i := 6) (d := 137) 4 rfl (by kernel_rfl) (by kernel_rfl) (by kernel_rfl) rfl rfl rfl (fun M22 N22 w52 hle26 S53 => yield_cq rfl rfl rfl rfl rfl cf32 S53 (Make_q ((ga t k3).c) ((ga t k3).d) ((ga t k3).a) ((ga t k3).b) (decide (0 < (ga l k3)))  S53.lend)) ?_
                  refine wa_only (i := 7) 3 rfl (by kernel_rfl) rfl rfl (fun w54 S55 => ?_)
                  refine (wo_buildSlice1 (C := cdCr) (l := [_, _, _, _, _]) rfl rfl rfl rfl sl36 rfl rfl rfl rfl S55 ?_)
                  intro gb6 w55 S56; clear S55
                  refine LeftW.grow [_] (Hp.le_refl _) S56 ?_; clear S56
                  change WA _ _ _ _ _ _ _ _ _ _ _ _ [_, _, _, _, _, _, _]
                  refine wa_only (i := 8) 2 rfl (by kernel_rfl) rfl rfl (fun w57 S58 => ?_)
                  refine (wo_append1 (C := cdCr) (i := 3) (q := 0) (⟨(makeC ((ga t k3).c) ((ga t k3).d) ((ga t k3).a) ((ga t k3).b) (decide (0 < (ga l k3)))).a, (makeC ((ga t k3).c) ((ga t k3).d) ((ga t k3).a) ((ga t k3).b) (decide (0 < (ga l k3)))).b, (makeC ((ga t k3).c) ((ga t k3).d) ((ga t k3).a) ((ga t k3).b) (decide (0 < (ga l k3)))).c, (makeC ((ga t k3).c) ((ga t k3).d) ((ga t k3).a) ((ga t k3).b) (decide (0 < (ga l k3)))).d, (makeC ((ga t k3).c) ((ga t k3).d) ((ga t k3).a) ((ga t k3).b) (decide (0 < (ga l k3)))).plus⟩ : Cr) rfl rfl rfl rfl rfl rfl rfl rfl sl36 S58 rfl rfl rfl (by show (_ + 1) * 40 ≤ _; first | omega | (simp only [List.length_set, List.length_append, List.length_replicate, List.length_singleton, List.length_cons, List.length_nil]; omega)) ?_)
                  intro vro1 w58 S59; clear S58
                  have S60 := S59.pick [1, 2, 3, 4, 5, 6] [_, _, _, _, _, _] (by decide) ⟨rfl, rfl, rfl, rfl, rfl, rfl, trivial⟩; clear S59
                  refine LeftW.turn (by kernel_rfl) S60 ?_; clear S60
                  change WA _ _ _ _ _ _ _ _ _ _ _ _ [_, _, _, _, _, _]
                  refine wa_takeP (i := 9) (d := 140) 1 rfl (by kernel_rfl) (by kernel_rfl) (by kernel_rfl) rfl rfl rfl (fun w59 => run_fieldAddr rfl rfl Try.underlying38 rfl (ce36) (nf36)) ?_
                  refine wa_only (i := 10) 0 rfl (by kernel_rfl) rfl rfl (fun w61 S63 => ?_)
                  refine (wo_storeB (i := 3) (us := [_]) (l' := [_, _]) (H' := [_, _, _, _, _, _]) rfl rfl S63 rfl rfl rfl (S63.cells1 (i := 2) rfl) sz36 rfl (ones_cons (S63.one (i := 2) rfl) rfl) rfl rfl ?_)
                  intro w62 S64; clear S63
                  refine LeftW.turn (by kernel_rfl) S64 ?_; clear S64
                  change WA _ _ _ _ _ _ _ _ _ _ _ _ [_, _, _, _, _, _]
                  refine wa_end (by kernel_rfl) (fun w63 S65 => ?_)
                  refine nm_blk ?_
                  refine nm_sub [(4, _), (7, _), (8, _), (110, _), (111, _), (112, _)] ⟨rfl, rfl, rfl, rfl, rfl, rfl, trivial⟩ ?_
                  refine nm_thn ?_
                  refine ws_region rfl ?_
                  refine wl_op (k := 0) (k' := 1) rfl rfl rfl (wo_run rfl rfl (run_add rfl rfl rfl (by first | omega | (simp only [List.length_set, List.length_append, List.length_replicate, List.length_singleton, List.length_cons, List.length_nil]; omega))) ?_)
                  refine wl_op (k := 1) (k' := 2) rfl rfl rfl (wo_run rfl rfl (run_move rfl rfl) ?_)
                  refine wl_end rfl ?_
                  refine nm_lp ?_
                  intro ax_ hax_
                  refine ⟨_, ?hq13m, ⟨k3 + 1, _, _, rfl, hax_.sub ⟨rfl, rfl, rfl, rfl, rfl, rfl, trivial⟩, S65.pick [2, 3, 4, 5] [_, _, _, _] (by decide) ⟨rfl, rfl, rfl, rfl, trivial⟩, ?hq13f0, ?hq13f1⟩⟩
                  case hq13f0 => omega
                  case hq13f1 => (rw [closeL_succ, ← hacc]; unfold crC makeC; simp only [hb128, decide_true, decide_false, Bool.false_eq_true, if_true, if_false])
                  case hq13m => omega
                · have hb128 := of_decide_eq_false hb128
                  refine ws_skip rfl ?_
                  refine nm_sub [(4, _), (7, _), (8, _), (110, _), (111, _), (112, _), (20, _), (21, _), (22, _)] ⟨rfl, rfl, rfl, rfl, rfl, rfl, rfl, rfl, rfl, trivial⟩ ?_
                  refine nm_thn ?_
                  refine ws_draw rfl (by kernel_rfl) S44 11 rfl ?_
                  clear S44
                  refine wa_takeP (i := 0) (d := 131) 10 rfl (by kernel_rfl) (by kernel_rfl) (by kernel_rfl) rfl rfl rfl (fun w64 => run_fieldAddr rfl rfl Try.underlying38 rfl (ce36) (nf36)) ?_
                  refine wa_take (i := 1) (d := 132) 9 rfl (by kernel_rfl) (by kernel_rfl) (by kernel_rfl) rfl rfl rfl (fun M28 N28 w65 hle32 S67 => .inl (run_load1 rfl rfl Try.underlying36 rfl (S67.suf.boxc (i := 3) rfl rfl))) ?_
                  refine wa_take (i := 2) (d := 133) 8 rfl (by kernel_rfl) (by kernel_rfl) (by kernel_rfl) rfl rfl rfl (fun M29 N29 w66 hle33 S68 => .inl (run_loadN (us := [_, _]) rfl rfl Try.underlying60 rfl sz60 (S68.suf.boxcs (i := 1) rfl ⟨rfl, rfl, trivial⟩))) ?_
                  refine wa_take (i := 3) (d := 134) 7 rfl (by kernel_rfl) (by kernel_rfl) (by kernel_rfl) rfl rfl rfl (fun M30 N30 w67 hle34 S69 => .inl (run_loadN (us := [_, _]) rfl rfl Try.underlying60 rfl sz60 (S69.suf.boxcs (i := 0) rfl ⟨rfl, rfl, trivial⟩))) ?_
                  refine wa_takeP (i := 4) (d := 135) 6 rfl (by kernel_rfl) (by kernel_rfl) (by kernel_rfl) rfl rfl rfl (fun w68 => run_move rfl rfl) ?_
                  refine wa_takeP (i := 5) (d := 136) 5 rfl (by kernel_rfl) (by kernel_rfl) (by kernel_rfl) rfl rfl rfl (fun w69 => run_gtr rfl rfl rfl) ?_
                  refine wa_take (i := 6) (d := 137) 4 rfl (by kernel_rfl) (by kernel_rfl) (by kernel_rfl) rfl rfl rfl (fun M33 N33 w70 hle37 S72 => yield_cq rfl rfl rfl rfl rfl cf32 S72 (Make_q ((ga t k3).a) ((ga t k3).b) ((ga t k3).c) ((ga t k3).d) (decide (0 < (ga l k3)))  S72.lend)) ?_
                  refine wa_only (i := 7) 3 rfl (by kernel_rfl) rfl rfl (fun w72 S74 => ?_)
                  refine (wo_buildSlice1 (C := cdCr) (l := [_, _, _, _, _]) rfl rfl rfl rfl sl36 rfl rfl rfl rfl S74 ?_)
                  intro gb7 w73 S75; clear S74
                  refine LeftW.grow [_] (Hp.le_refl _) S75 ?_; clear S75
                  change WA _ _ _ _ _ _ _ _ _ _ _ _ [_, _, _, _, _, _, _]
                  refine wa_only (i := 8) 2 rfl (by kernel_rfl) rfl rfl (fun w75 S77 => ?_)
                  refine (wo_append1 (C := cdCr) (i := 3) (q := 0) (⟨(makeC ((ga t k3).a) ((ga t k3).b) ((ga t k3).c) ((ga t k3).d) (decide (0 < (ga l k3)))).a, (makeC ((ga t k3).a) ((ga t k3).b) ((ga t k3).c) ((ga t k3).d) (decide (0 < (ga l k3)))).b, (makeC ((ga t k3).a) ((ga t k3).b) ((ga t k3).c) ((ga t k3).d) (decide (0 < (ga l k3)))).c, (makeC ((ga t k3).a) ((ga t k3).b) ((ga t k3).c) ((ga t k3).d) (decide (0 < (ga l k3)))).d, (makeC ((ga t k3).a) ((ga t k3).b) ((ga t k3).c) ((ga t k3).d) (decide (0 < (ga l k3)))).plus⟩ : Cr) rfl rfl rfl rfl rfl rfl rfl rfl sl36 S77 rfl rfl rfl (by show (_ + 1) * 40 ≤ _; first | omega | (simp only [List.length_set, List.length_append, List.length_replicate, List.length_singleton, List.length_cons, List.length_nil]; omega)) ?_)
                  intro vro2 w76 S78; clear S77
                  have S79 := S78.pick [1, 2, 3, 4, 5, 6] [_, _, _, _, _, _] (by decide) ⟨rfl, rfl, rfl, rfl, rfl, rfl, trivial⟩; clear S78
                  refine LeftW.turn (by kernel_rfl) S79 ?_; clear S79
                  change WA _ _ _ _ _ _ _ _ _ _ _ _ [_, _, _, _, _, _]
                  refine wa_takeP (i := 9) (d := 140) 1 rfl (by kernel_rfl) (by kernel_rfl) (by kernel_rfl) rfl rfl rfl (fun w77 => run_fieldAddr rfl rfl Try.underlying38 rfl (ce36) (nf36)) ?_
                  refine wa_only (i := 10) 0 rfl (by kernel_rfl) rfl rfl (fun w79 S82 => ?_)
                  refine (wo_storeB (i := 3) (us := [_]) (l' := [_, _]) (H' := [_, _, _, _, _, _]) rfl rfl S82 rfl rfl rfl (S82.cells1 (i := 2) rfl) sz36 rfl (ones_cons (S82.one (i := 2) rfl) rfl) rfl rfl ?_)
                  intro w80 S83; clear S82
                  refine LeftW.turn (by kernel_rfl) S83 ?_; clear S83
                  change WA _ _ _ _ _ _ _ _ _ _ _ _ [_, _, _, _, _, _]
                  refine wa_end (by kernel_rfl) (fun w81 S84 => ?_)
                  refine nm_blk ?_
                  refine nm_sub [(4, _), (7, _), (8, _), (110, _), (111, _), (112, _)] ⟨rfl, rfl, rfl, rfl, rfl, rfl, trivial⟩ ?_
                  refine nm_thn ?_
                  refine ws_region rfl ?_
                  refine wl_op (k := 0) (k' := 1) rfl rfl rfl (wo_run rfl rfl (run_add rfl rfl rfl (by first | omega | (simp only [List.length_set, List.length_append, List.length_replicate, List.length_singleton, List.length_cons, List.length_nil]; omega))) ?_)
                  refine wl_op (k := 1) (k' := 2) rfl rfl rfl (wo_run rfl rfl (run_move rfl rfl) ?_)
                  refine wl_end rfl ?_
                  refine nm_lp ?_
                  intro ax_ hax_
                  refine ⟨_, ?hq14m, ⟨k3 + 1, _, _, rfl, hax_.sub ⟨rfl, rfl, rfl, rfl, rfl, rfl, trivial⟩, S84.pick [2, 3, 4, 5] [_, _, _, _] (by decide) ⟨rfl, rfl, rfl, rfl, trivial⟩, ?hq14f0, ?hq14f1⟩⟩
                  case hq14f0 => omega
                  case hq14f1 => (rw [closeL_succ, ← hacc]; unfold crC makeC; simp only [hb128, decide_true, decide_false, Bool.false_eq_true, if_true, if_false])
                  case hq14m => omega
              · refine (wo_alloc (l := [_, _]) rfl rfl rfl zr60 rfl S33 ?_)
                intro gb8 w82 S85; clear S33
                refine LeftW.grow [_] (Hp.le_refl _) S85 ?_; clear S85
                change WA _ _ _ _ _ _ _ _ _ _ _ _ [_, _, _, _, _]
                refine wa_only (i := 10) 2 rfl (by kernel_rfl) rfl rfl (fun w84 S87 => ?_)
                refine (wo_alloc (l := [_, _]) rfl rfl rfl zr60 rfl S87 ?_)
                intro gb9 w85 S88; clear S87
                refine LeftW.grow [_, _] (Hp.le_refl _) S88 ?_; clear S88
                change WA _ _ _ _ _ _ _ _ _ _ _ _ [_, _, _, _, _, _]
                refine wa_only (i := 12) 1 rfl (by kernel_rfl) rfl rfl (fun w87 S90 => ?_)
                refine (wo_storeB (i := 0) (us := [_, _]) (l' := [_, _]) (H' := [_, _, _, _, _, _]) rfl rfl S90 rfl rfl rfl rfl sz60 rfl rfl rfl rfl ?_)
                intro w88 S91; clear S90
                refine LeftW.grow [_, _] (Hp.le_refl _) S91 ?_; clear S91
                change WA _ _ _ _ _ _ _ _ _ _ _ _ [_, _, _, _, _, _]
                refine wa_only (i := 13) 0 rfl (by kernel_rfl) rfl rfl (fun w90 S93 => ?_)
                refine (wo_storeB (i := 1) (us := [_, _]) (l' := [_, _]) (H' := [_, _, _, _, _, _]) rfl rfl S93 rfl rfl rfl rfl sz60 rfl rfl rfl rfl ?_)
                intro w91 S94; clear S93
                refine LeftW.grow [_, _] (Hp.le_refl _) S94 ?_; clear S94
                change WA _ _ _ _ _ _ _ _ _ _ _ _ [_, _, _, _, _, _]
                refine wa_end (by kernel_rfl) (fun w92 S95 => ?_)
                refine nm_sub [(4, _), (7, _), (8, _), (110, _), (111, _), (112, _), (20, _), (22, _), (21, _)] ⟨rfl, rfl, rfl, rfl, rfl, rfl, rfl, rfl, rfl, trivial⟩ ?_
                refine nm_thn ?_
                refine ws_seqN Close_n128 Close_n129 rfl rfl rfl ?_
                refine ws_seqN Close_n130 Close_n131 rfl rfl rfl ?_
                refine ws_region rfl ?_
                refine wl_op (k := 0) (k' := 1) rfl rfl rfl (wo_run rfl rfl (run_move rfl rfl) ?_)
                refine wl_op (k := 1) (k' := 2) rfl rfl rfl (wo_run rfl rfl (run_gtr rfl rfl rfl) ?_)
                refine wl_end rfl ?_
                refine nm_sub [(4, _), (7, _), (8, _), (110, _), (111, _), (112, _), (20, _), (22, _), (21, _), (128, _)] ⟨rfl, rfl, rfl, rfl, rfl, rfl, rfl, rfl, rfl, rfl, trivial⟩ ?_
                refine nm_thn ?_
                refine ws_condN Close_n132 Close_n133 rfl rfl rfl rfl (fun hb128 => ?_) (fun hb128 => ?_)
                · have hb128 := of_decide_eq_true hb128
                  refine ws_region rfl ?_
                  refine wl_op (k := 0) (k' := 1) rfl rfl rfl (wo_run rfl rfl (run_loadN (us := [_, _]) rfl rfl Try.underlying60 rfl sz60 (S95.boxcs (i := 1) rfl ⟨rfl, rfl, trivial⟩)) ?_)
                  refine wl_op (k := 1) (k' := 2) rfl rfl rfl (wo_run rfl rfl (run_loadN (us := [_, _]) rfl rfl Try.underlying60 rfl sz60 (S95.boxcs (i := 0) rfl ⟨rfl, rfl, trivial⟩)) ?_)
                  refine wl_op (k := 2) (k' := 3) rfl rfl rfl (wo_storeB (i := 0) (us := [_, _]) (l' := [_, _]) (H' := [_, _, _, _, _, _]) rfl rfl S95 rfl rfl rfl rfl sz60 rfl rfl rfl rfl ?_)
                  intro w93 S96; clear S95
                  refine wl_op (k := 3) (k' := 4) rfl rfl rfl (wo_storeB (i := 1) (us := [_, _]) (l' := [_, _]) (H' := [_, _, _, _, _, _]) rfl rfl S96 rfl rfl rfl rfl sz60 rfl rfl rfl rfl ?_)
                  intro w94 S97; clear S96
                  refine wl_end rfl ?_
                  refine nm_sub [(4, _), (7, _), (8, _), (110, _), (111, _), (112, _), (20, _), (22, _), (21, _)] ⟨rfl, rfl, rfl, rfl, rfl, rfl, rfl, rfl, rfl, trivial⟩ ?_
                  refine nm_thn ?_
                  refine ws_draw rfl (by kernel_rfl) S97 11 rfl ?_
                  clear S97
                  refine wa_takeP (i := 0) (d := 131) 10 rfl (by kernel_rfl) (by kernel_rfl) (by kernel_rfl) rfl rfl rfl (fun w95 => run_fieldAddr rfl rfl Try.underlying38 rfl (ce36) (nf36)) ?_
                  refine wa_take (i := 1) (d := 132) 9 rfl (by kernel_rfl) (by kernel_rfl) (by kernel_rfl) rfl rfl rfl (fun M42 N42 w96 hle46 S99 => .inl (run_load1 rfl rfl Try.underlying36 rfl (S99.suf.boxc (i := 3) rfl rfl))) ?_
                  refine wa_take (i := 2) (d := 133) 8 rfl (by kernel_rfl) (by kernel_rfl) (by kernel_rfl) rfl rfl rfl (fun M43 N43 w97 hle47 S100 => .inl (run_loadN (us := [_, _]) rfl rfl Try.underlying60 rfl sz60 (S100.suf.boxcs (i := 0) rfl ⟨rfl, rfl, trivial⟩))) ?_
                  refine wa_take (i := 3) (d := 134) 7 rfl (by kernel_rfl) (by kernel_rfl) (by kernel_rfl) rfl rfl rfl (fun M44 N44 w98 hle48 S101 => .inl (run_loadN (us := [_, _]) rfl rfl Try.underlying60 rfl sz60 (S101.suf.boxcs (i := 1) rfl ⟨rfl, rfl, trivial⟩))) ?_
                  refine wa_takeP (i := 4) (d := 135) 6 rfl (by kernel_rfl) (by kernel_rfl) (by kernel_rfl) rfl rfl rfl (fun w99 => run_move rfl rfl) ?_
                  refine wa_takeP (i := 5) (d := 136) 5 rfl (by kernel_rfl) (by kernel_rfl) (by kernel_rfl) rfl rfl rfl (fun w100 => run_gtr rfl rfl rfl) ?_
                  refine wa_take (i := 6) (d := 137) 4 rfl (by kernel_rfl) (by kernel_rfl) (by kernel_rfl) rfl rfl rfl (fun M47 N47 w101 hle51 S104 => yield_cq rfl rfl rfl rfl rfl cf32 S104 (Make_q ((ga t k3).c) ((ga t k3).d) ((ga t k3).a) ((ga t k3).b) (decide (0 < (ga l k3)))  S104.lend)) ?_
                  refine wa_only (i := 7) 3 rfl (by kernel_rfl) rfl rfl (fun w103 S106 => ?_)
                  refine (wo_buildSlice1 (C := cdCr) (l := [_, _, _, _, _]) rfl rfl rfl rfl sl36 rfl rfl rfl rfl S106 ?_)
                  intro gb10 w104 S107; clear S106
                  refine LeftW.grow [_] (Hp.le_refl _) S107 ?_; clear S107
                  change WA _ _ _ _ _ _ _ _ _ _ _ _ [_, _, _, _, _, _, _]
                  refine wa_only (i := 8) 2 rfl (by kernel_rfl) rfl rfl (fun w106 S109 => ?_)
                  refine (wo_append1 (C := cdCr) (i := 3) (q := 0) (⟨(makeC ((ga t k3).c) ((ga t k3).d) ((ga t k3).a) ((ga t k3).b) (decide (0 < (ga l k3)))).a, (makeC ((ga t k3).c) ((ga t k3).d) ((ga t k3).a) ((ga t k3).b) (decide (0 < (ga l k3)))).b, (makeC ((ga t k3).c) ((ga t k3).d) ((ga t k3).a) ((ga t k3).b) (decide (0 < (ga l k3)))).c, (makeC ((ga t k3).c) ((ga t k3).d) ((ga t k3).a) ((ga t k3).b) (decide (0 < (ga l k3)))).d, (makeC ((ga t k3).c) ((ga t k3).d) ((ga t k3).a) ((ga t k3).b) (decide (0 < (ga l k3)))).plus⟩ : Cr) rfl rfl rfl rfl rfl rfl rfl rfl sl36 S109 rfl rfl rfl (by show (_ + 1) * 40 ≤ _; first | omega | (simp only [List.length_set, List.length_append, List.length_replicate, List.length_singleton, List.length_cons, List.length_nil]; omega)) ?_)
                  intro vro3 w107 S110; clear S109
                  have S111 := S110.pick [1, 2, 3, 4, 5, 6] [_, _, _, _, _, _] (by decide) ⟨rfl, rfl, rfl, rfl, rfl, rfl, trivial⟩; clear S110
                  refine LeftW.turn (by kernel_rfl) S111 ?_; clear S111
                  change WA _ _ _ _ _ _ _ _ _ _ _ _ [_, _, _, _, _, _]
                  refine wa_takeP (i := 9) (d := 140) 1 rfl (by kernel_rfl) (by kernel_rfl) (by kernel_rfl) rfl rfl rfl (fun w108 => run_fieldAddr rfl rfl Try.underlying38 rfl (ce36) (nf36)) ?_
                  refine wa_only (i := 10) 0 rfl (by kernel_rfl) rfl rfl (fun w110 S114 => ?_)
                  refine (wo_storeB (i := 3) (us := [_]) (l' := [_, _]) (H' := [_, _, _, _, _, _]) rfl rfl S114 rfl rfl rfl (S114.cells1 (i := 2) rfl) sz36 rfl (ones_cons (S114.one (i := 2) rfl) rfl) rfl rfl ?_)
                  intro w111 S115; clear S114
                  refine LeftW.turn (by kernel_rfl) S115 ?_; clear S115
                  change WA _ _ _ _ _ _ _ _ _ _ _ _ [_, _, _, _, _, _]
                  refine wa_end (by kernel_rfl) (fun w112 S116 => ?_)
                  refine nm_blk ?_
                  refine nm_sub [(4, _), (7, _), (8, _), (110, _), (111, _), (112, _)] ⟨rfl, rfl, rfl, rfl, rfl, rfl, trivial⟩ ?_
                  refine nm_thn ?_
                  refine ws_region rfl ?_
                  refine wl_op (k := 0) (k' := 1) rfl rfl rfl (wo_run rfl rfl (run_add rfl rfl rfl (by first | omega | (simp only [List.length_set, List.length_append, List.length_replicate, List.length_singleton, List.length_cons, List.length_nil]; omega))) ?_)
                  refine wl_op (k := 1) (k' := 2) rfl rfl rfl (wo_run rfl rfl (run_move rfl rfl) ?_)
                  refine wl_end rfl ?_
                  refine nm_lp ?_
                  intro ax_ hax_
                  refine ⟨_, ?hq15m, ⟨k3 + 1, _, _, rfl, hax_.sub ⟨rfl, rfl, rfl, rfl, rfl, rfl, trivial⟩, S116.pick [2, 3, 4, 5] [_, _, _, _] (by decide) ⟨rfl, rfl, rfl, rfl, trivial⟩, ?hq15f0, ?hq15f1⟩⟩
                  case hq15f0 => omega
                  case hq15f1 => (rw [closeL_succ, ← hacc]; unfold crC makeC; simp only [hb128, decide_true, decide_false, Bool.false_eq_true, if_true, if_false])
                  case hq15m => omega
                · have hb128 := of_decide_eq_false hb128
                  refine ws_skip rfl ?_
                  refine nm_sub [(4, _), (7, _), (8, _), (110, _), (111, _), (112, _), (20, _), (22, _), (21, _)] ⟨rfl, rfl, rfl, rfl, rfl, rfl, rfl, rfl, rfl, trivial⟩ ?_
                  refine nm_thn ?_
                  refine ws_draw rfl (by kernel_rfl) S95 11 rfl ?_
                  clear S95
                  refine wa_takeP (i := 0) (d := 131) 10 rfl (by kernel_rfl) (by kernel_rfl) (by kernel_rfl) rfl rfl rfl (fun w113 => run_fieldAddr rfl rfl Try.underlying38 rfl (ce36) (nf36)) ?_
                  refine wa_take (i := 1) (d := 132) 9 rfl (by kernel_rfl) (by kernel_rfl) (by kernel_rfl) rfl rfl rfl (fun M53 N53 w114 hle57 S118 => .inl (run_load1 rfl rfl Try.underlying36 rfl (S118.suf.boxc (i := 3) rfl rfl))) ?_
                  refine wa_take (i := 2) (d := 133) 8 rfl (by kernel_rfl) (by kernel_rfl) (by kernel_rfl) rfl rfl rfl (fun M54 N54 w115 hle58 S119 => .inl (run_loadN (us := [_, _]) rfl rfl Try.underlying60 rfl sz60 (S119.suf.boxcs (i := 0) rfl ⟨rfl, rfl, trivial⟩))) ?_
                  refine wa_take (i := 3) (d := 134) 7 rfl (by kernel_rfl) (by kernel_rfl) (by kernel_rfl) rfl rfl rfl (fun M55 N55 w116 hle59 S120 => .inl (run_loadN (us := [_, _]) rfl rfl Try.underlying60 rfl sz60 (S120.suf.boxcs (i := 1) rfl ⟨rfl, rfl, trivial⟩))) ?_
                  refine wa_takeP (i := 4) (d := 135) 6 rfl (by kernel_rfl) (by kernel_rfl) (by kernel_rfl) rfl rfl rfl (fun w117 => run_move rfl rfl) ?_
                  refine wa_takeP (i := 5) (d := 136) 5 rfl (by kernel_rfl) (by kernel_rfl) (by kernel_rfl) rfl rfl rfl (fun w118 => run_gtr rfl rfl rfl) ?_
                  refine wa_take (i := 6) (d := 137) 4 rfl (by kernel_rfl) (by kernel_rfl) (by kernel_rfl) rfl rfl rfl (fun M58 N58 w119 hle62 S123 => yield_cq rfl rfl rfl rfl rfl cf32 S123 (Make_q ((ga t k3).a) ((ga t k3).b) ((ga t k3).c) ((ga t k3).d) (decide (0 < (ga l k3)))  S123.lend)) ?_
                  refine wa_only (i := 7) 3 rfl (by kernel_rfl) rfl rfl (fun w121 S125 => ?_)
                  refine (wo_buildSlice1 (C := cdCr) (l := [_, _, _, _, _]) rfl rfl rfl rfl sl36 rfl rfl rfl rfl S125 ?_)
                  intro gb11 w122 S126; clear S125
                  refine LeftW.grow [_] (Hp.le_refl _) S126 ?_; clear S126
                  change WA _ _ _ _ _ _ _ _ _ _ _ _ [_, _, _, _, _, _, _]
                  refine wa_only (i := 8) 2 rfl (by kernel_rfl) rfl rfl (fun w124 S128 => ?_)
                  refine (wo_append1 (C := cdCr) (i := 3) (q := 0) (⟨(makeC ((ga t k3).a) ((ga t k3).b) ((ga t k3).c) ((ga t k3).d) (decide (0 < (ga l k3)))).a, (makeC ((ga t k3).a) ((ga t k3).b) ((ga t k3).c) ((ga t k3).d) (decide (0 < (ga l k3)))).b, (makeC ((ga t k3).a) ((ga t k3).b) ((ga t k3).c) ((ga t k3).d) (decide (0 < (ga l k3)))).c, (makeC ((ga t k3).a) ((ga t k3).b) ((ga t k3).c) ((ga t k3).d) (decide (0 < (ga l k3)))).d, (makeC ((ga t k3).a) ((ga t k3).b) ((ga t k3).c) ((ga t k3).d) (decide (0 < (ga l k3)))).plus⟩ : Cr) rfl rfl rfl rfl rfl rfl rfl rfl sl36 S128 rfl rfl rfl (by show (_ + 1) * 40 ≤ _; first | omega | (simp only [List.length_set, List.length_append, List.length_replicate, List.length_singleton, List.length_cons, List.length_nil]; omega)) ?_)
                  intro vro4 w125 S129; clear S128
                  have S130 := S129.pick [1, 2, 3, 4, 5, 6] [_, _, _, _, _, _] (by decide) ⟨rfl, rfl, rfl, rfl, rfl, rfl, trivial⟩; clear S129
                  refine LeftW.turn (by kernel_rfl) S130 ?_; clear S130
                  change WA _ _ _ _ _ _ _ _ _ _ _ _ [_, _, _, _, _, _]
                  refine wa_takeP (i := 9) (d := 140) 1 rfl (by kernel_rfl) (by kernel_rfl) (by kernel_rfl) rfl rfl rfl (fun w126 => run_fieldAddr rfl rfl Try.underlying38 rfl (ce36) (nf36)) ?_
                  refine wa_only (i := 10) 0 rfl (by kernel_rfl) rfl rfl (fun w128 S133 => ?_)
                  refine (wo_storeB (i := 3) (us := [_]) (l' := [_, _]) (H' := [_, _, _, _, _, _]) rfl rfl S133 rfl rfl rfl (S133.cells1 (i := 2) rfl) sz36 rfl (ones_cons (S133.one (i := 2) rfl) rfl) rfl rfl ?_)
                  intro w129 S134; clear S133
                  refine LeftW.turn (by kernel_rfl) S134 ?_; clear S134
                  change WA _ _ _ _ _ _ _ _ _ _ _ _ [_, _, _, _, _, _]
                  refine wa_end (by kernel_rfl) (fun w130 S135 => ?_)
                  refine nm_blk ?_
                  refine nm_sub [(4, _), (7, _), (8, _), (110, _), (111, _), (112, _)] ⟨rfl, rfl, rfl, rfl, rfl, rfl, trivial⟩ ?_
                  refine nm_thn ?_
                  refine ws_region rfl ?_
                  refine wl_op (k := 0) (k' := 1) rfl rfl rfl (wo_run rfl rfl (run_add rfl rfl rfl (by first | omega | (simp only [List.length_set, List.length_append, List.length_replicate, List.length_singleton, List.length_cons, List.length_nil]; omega))) ?_)
                  refine wl_op (k := 1) (k' := 2) rfl rfl rfl (wo_run rfl rfl (run_move rfl rfl) ?_)
                  refine wl_end rfl ?_
                  refine nm_lp ?_
                  intro ax_ hax_
                  refine ⟨_, ?hq16m, ⟨k3 + 1, _, _, rfl, hax_.sub ⟨rfl, rfl, rfl, rfl, rfl, rfl, trivial⟩, S135.pick [2, 3, 4, 5] [_, _, _, _] (by decide) ⟨rfl, rfl, rfl, rfl, trivial⟩, ?hq16f0, ?hq16f1⟩⟩
                  case hq16f0 => omega
                  case hq16f1 => (rw [closeL_succ, ← hacc]; unfold crC makeC; simp only [hb128, decide_true, decide_false, Bool.false_eq_true, if_true, if_false])
                  case hq16m => omega
            · have hb113 := of_decide_eq_false hb113
              refine ws_exit rfl rfl ?_
              refine nm_sub [(4, _), (8, _)] ⟨rfl, rfl, trivial⟩ ?_
              refine nm_thn ?_
              refine ws_seqN Close_n134 Close_n135 rfl rfl rfl ?_
              refine ws_region rfl ?_
              refine wl_op (k := 0) (k' := 1) rfl rfl rfl (wo_run rfl rfl (run_loadN (us := [_, _]) rfl rfl Try.underlying38 rfl sz38 (S20.boxcs (i := 1) rfl ⟨rfl, rfl, trivial⟩)) ?_)
              refine wl_op (k := 1) (k' := 2) rfl rfl rfl (wo_storeB (i := 3) (us := [_, _]) (l' := [_, _]) (H' := [_, _, _, _]) rfl rfl S20 rfl rfl rfl rfl sz38 rfl (ones_cons (S20.one (i := 0) rfl) (ones_cons rfl rfl)) rfl rfl ?_)
              intro w131 S136; clear S20
              refine wl_op (k := 2) (k' := 3) rfl rfl rfl (wo_run rfl rfl (run_assign rfl rfl) ?_)
              refine wl_end rfl ?_
              refine nm_sub [(4, _), (5, _)] ⟨rfl, rfl, trivial⟩ ?_
              refine nm_thn ?_
              obtain ⟨M63, hle67, S137, ⟨A1, c1, e1, hr2⟩⟩ := S136.pubrow (i := 0) (H' := [_, _, _, _]) rfl rfl (by show _ * 40 ≤ _; first | omega | (simp only [List.length_set, List.length_append, List.length_replicate, List.length_singleton, List.length_cons, List.length_nil]; omega))
              clear S136; subst e1
              replace hl := hl.mono (Hp.un_mono hle67 S137.mx)
              refine ws_ret hC [_, _] rfl rfl ⟨⟨_, rfl, loadVarN (us := [_, _]) Try.underlying38 rfl sz38 (S137.boxcs (i := 3) rfl ⟨rfl, rfl, trivial⟩)⟩, rfl, trivial⟩ ?_
              refine ⟨_, rfl, _, hle67, (S137.pick [] [] (by decide) trivial), ?_⟩
              obtain rfl : p0 = m := by omega
              obtain rfl : k3 = l.length := by omega
              have e : closeR (p0 : Int) l = (⟨acc, lp⟩, 0) := by unfold closeR; rw [if_neg (by omega), if_neg (by omega)]; unfold closeD; rw [Int.toNat_natCast, hcl, hacc]
              rw [e]
              exact ⟨_, _, rfl, hr2⟩

end Go.Proofs.Ythfiblbkkjcliaa
