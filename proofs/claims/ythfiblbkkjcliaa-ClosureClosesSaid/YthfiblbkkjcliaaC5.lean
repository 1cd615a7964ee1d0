/- Walks printed by eng.py. -/
import Derived.Test.YthfiblbkkjcliaaC4
set_option linter.unusedSimpArgs false
set_option linter.unusedVariables false
namespace Go.Proofs.Ythfiblbkkjcliaa
open Go.ChangeShapes Go.WideShapes Go.ChangeAt Go.RowKit
noncomputable def ClosureCloses_n0 : Code := Try.f4.body.getD .skip
noncomputable def ClosureCloses_n1 : Code := cL ClosureCloses_n0
noncomputable def ClosureCloses_n2 : Code := cR ClosureCloses_n0
noncomputable def ClosureCloses_n3 : Code := cL ClosureCloses_n2
noncomputable def ClosureCloses_n4 : Code := cR ClosureCloses_n2
noncomputable def ClosureCloses_n5 : Code := cL ClosureCloses_n4
noncomputable def ClosureCloses_n6 : Code := cR ClosureCloses_n4
noncomputable def ClosureCloses_n7 : Code := cL ClosureCloses_n6
noncomputable def ClosureCloses_n8 : Code := cR ClosureCloses_n6
noncomputable def ClosureCloses_n9 : Code := cL ClosureCloses_n7
noncomputable def ClosureCloses_n10 : Code := cR ClosureCloses_n7
noncomputable def ClosureCloses_n11 : Code := cL ClosureCloses_n10
noncomputable def ClosureCloses_n12 : Code := cR ClosureCloses_n10
noncomputable def ClosureCloses_n13 : Code := cL ClosureCloses_n8
noncomputable def ClosureCloses_n14 : Code := cR ClosureCloses_n8
noncomputable def ClosureCloses_n15 : Code := cL ClosureCloses_n13
noncomputable def ClosureCloses_n16 : Code := cR ClosureCloses_n13
noncomputable def ClosureCloses_n17 : Code := cL ClosureCloses_n16
noncomputable def ClosureCloses_n18 : Code := cR ClosureCloses_n16
noncomputable def ClosureCloses_n19 : Code := cL ClosureCloses_n17
noncomputable def ClosureCloses_n20 : Code := cR ClosureCloses_n17
noncomputable def ClosureCloses_n21 : Code := cL ClosureCloses_n14
noncomputable def ClosureCloses_n22 : Code := cR ClosureCloses_n14
set_option maxRecDepth 10000 in
theorem ClosureCloses_t {w : World} {M : Hp} {X : Fr} (n : Int) (l : List Int) {lA : Option Addr} {lc : Nat} (hl : RdA cdInt M lA lc l) (S : SH w M X []) : Ct Try.prog 4 [.int .i64 n, .slice lA l.length lc] w M X (fun u _ => u = .bool true) := by
  unfold Ct
  have rmhl : l.length * 8 ≤ 140737488355328 := hl.room
  refine calls_in (b := ClosureCloses_n0) Try.func4 rfl Try.ntmps4 rfl (fun C hC => ?_)
  refine ws_sub [(0, _), (1, _)] ⟨rfl, rfl, trivial⟩ ?_
  refine ws_seqN ClosureCloses_n1 ClosureCloses_n2 rfl rfl rfl ?_
  refine ws_region rfl ?_
  refine wl_op (k := 0) (k' := 1) rfl rfl rfl (wo_run rfl rfl (run_assign rfl rfl) ?_)
  refine wl_end rfl ?_
  refine nm_sub [(0, _), (1, _)] ⟨rfl, rfl, trivial⟩ ?_
  refine nm_thn ?_
  refine ws_seqN ClosureCloses_n3 ClosureCloses_n4 rfl rfl rfl ?_
  refine ws_region rfl ?_
  refine wl_op (k := 0) (k' := 1) rfl rfl rfl (wo_run rfl rfl (run_move rfl rfl) ?_)
  refine wl_op (k := 1) (k' := 2) rfl rfl rfl (wo_run rfl rfl (run_move rfl rfl) ?_)
  refine wl_op (k := 2) (k' := 3) rfl rfl rfl (wo_ct rfl rfl rfl rfl rfl rfl rfl cf8 S (ints_t l (hl.mono (Hp.le_un _ _)) S.lend) ?_)
  intro vw1 w1 M1 hle1 S1 hRw1; clear S
  replace hl := hl.mono hle1
  obtain ⟨A1, c1, rfl, hr1⟩ := hRw1
  refine wl_op (k := 3) (k' := 4) rfl rfl rfl (wo_ct rfl rfl rfl rfl rfl rfl rfl cf15 S1 (Close_t n l (hr1.mono (Hp.le_un _ _)) S1.lend) ?_)
  intro vw2 w2 M2 hle2 S2 hRw2; clear S1
  replace hl := hl.mono hle2
  replace hr1 := hr1.mono hle2
  obtain ⟨A2, c2, rfl, hr2⟩ := hRw2
  refine wl_op (k := 4) (k' := 5) rfl rfl rfl (wo_run rfl rfl (run_move rfl rfl) ?_)
  refine wl_op (k := 5) (k' := 6) rfl rfl rfl (wo_run rfl rfl (run_extract rfl rfl rfl) ?_)
  refine wl_op (k := 6) (k' := 7) rfl rfl rfl (wo_run rfl rfl (run_extract rfl rfl rfl) ?_)
  refine wl_op (k := 7) (k' := 8) rfl rfl rfl (wo_alloc (l := [_, _]) rfl rfl rfl zr38 rfl S2 ?_)
  intro gb1 w3 S3; clear S2
  refine wl_op (k := 8) (k' := 9) rfl rfl rfl (wo_storeB (i := 0) (us := [_, _]) (l' := [_, _]) (H' := [_]) rfl rfl S3 rfl rfl rfl rfl sz38 rfl rfl rfl rfl ?_)
  intro w4 S4; clear S3
  refine wl_op (k := 9) (k' := 10) rfl rfl rfl (wo_run rfl rfl (run_assign rfl rfl) ?_)
  refine wl_end rfl ?_
  refine nm_sub [(0, _), (1, _), (5, _), (6, _)] ⟨rfl, rfl, rfl, rfl, trivial⟩ ?_
  refine nm_thn ?_
  refine ws_seqN ClosureCloses_n5 ClosureCloses_n6 rfl rfl rfl ?_
  refine ws_region rfl ?_
  refine wl_op (k := 0) (k' := 1) rfl rfl rfl (wo_run rfl rfl (run_move rfl rfl) ?_)
  refine wl_op (k := 1) (k' := 2) rfl rfl rfl (wo_run rfl rfl (run_move rfl rfl) ?_)
  refine wl_op (k := 2) (k' := 3) rfl rfl rfl (wo_cq rfl rfl rfl rfl rfl rfl rfl cf10 S4 (WordsMay_q n l [] (hl.mono (Hp.le_un _ _)) RdA.nil_ ((by simp only [List.length_nil]; omega)) S4.lend) ?_)
  rintro _ w5 S5 rfl; clear S4
  refine wl_op (k := 3) (k' := 4) rfl rfl rfl (wo_run rfl rfl (run_assign rfl rfl) ?_)
  refine wl_end rfl ?_
  refine nm_sub [(0, _), (1, _), (5, _), (6, _), (7, _)] ⟨rfl, rfl, rfl, rfl, rfl, trivial⟩ ?_
  refine nm_thn ?_
  refine ws_seqN ClosureCloses_n7 ClosureCloses_n8 rfl rfl rfl ?_
  refine ws_seqN ClosureCloses_n9 ClosureCloses_n10 rfl rfl rfl ?_
  refine ws_region rfl ?_
  refine wl_op (k := 0) (k' := 1) rfl rfl rfl (wo_run rfl rfl (run_move rfl rfl) ?_)
  refine wl_op (k := 1) (k' := 2) rfl rfl rfl (wo_run rfl rfl (run_eql rfl rfl rfl) ?_)
  refine wl_op (k := 2) (k' := 3) rfl rfl rfl (wo_run rfl rfl (run_move rfl rfl) ?_)
  refine wl_split (t := 20) rfl (fun hg20 => ?_) (fun hg20 => ?_)
  · have hg20 := of_decide_eq_true hg20
    refine wl_opG (k := 3) (k' := 4) rfl rfl ⟨_, _, _, rfl, rfl, rfl, rfl⟩ rfl (wo_run rfl rfl (run_move rfl rfl) ?_)
    refine wl_opG (k := 4) (k' := 5) rfl rfl ⟨_, _, _, rfl, rfl, rfl, rfl⟩ rfl (wo_run rfl rfl (run_len rfl rfl rfl rfl rfl rfl Try.underlying22) ?_)
    refine wl_opG (k := 5) (k' := 6) rfl rfl ⟨_, _, _, rfl, rfl, rfl, rfl⟩ rfl (wo_run rfl rfl (run_gtr rfl rfl rfl) ?_)
    refine wl_op (k := 6) (k' := 7) rfl rfl rfl (wo_run rfl rfl (run_pickT rfl rfl rfl) ?_)
    refine wl_end rfl ?_
    refine nm_sub [(0, _), (1, _), (5, _), (6, _), (7, _), (24, _)] ⟨rfl, rfl, rfl, rfl, rfl, rfl, trivial⟩ ?_
    refine nm_thn ?_
    refine ws_condN ClosureCloses_n11 ClosureCloses_n12 rfl rfl rfl rfl (fun hb24 => ?_) (fun hb24 => ?_)
    · have hb24 := of_decide_eq_true hb24
      refine ws_region rfl ?_
      refine wl_op (k := 0) (k' := 1) rfl rfl rfl (wo_run rfl rfl (run_assign rfl rfl) ?_)
      refine wl_end rfl ?_
      refine nm_sub [(0, _), (1, _), (5, _), (6, _), (7, _)] ⟨rfl, rfl, rfl, rfl, rfl, trivial⟩ ?_
      refine nm_thn ?_
      refine ws_seqN ClosureCloses_n13 ClosureCloses_n14 rfl rfl rfl ?_
      refine ws_seqN ClosureCloses_n15 ClosureCloses_n16 rfl rfl rfl ?_
      refine ws_region rfl ?_
      refine wl_op (k := 0) (k' := 1) rfl rfl rfl (wo_run rfl rfl (run_move rfl rfl) ?_)
      refine wl_op (k := 1) (k' := 2) rfl rfl rfl (wo_run rfl rfl (run_neq rfl rfl rfl) ?_)
      refine wl_end rfl ?_
      refine nm_sub [(0, _), (1, _), (5, _), (6, _), (7, _), (26, _)] ⟨rfl, rfl, rfl, rfl, rfl, rfl, trivial⟩ ?_
      refine nm_thn ?_
      refine ws_condN ClosureCloses_n17 ClosureCloses_n18 rfl rfl rfl rfl (fun hb26 => ?_) (fun hb26 => ?_)
      · have hb26 := of_decide_eq_true hb26
        have hmc := mayI_check n l
        have e1 : closeR n l = (⟨[], 0⟩, 2) := by unfold closeR; rw [if_neg (by omega), if_pos (by omega)]
        refine ws_seqN ClosureCloses_n19 ClosureCloses_n20 rfl rfl rfl ?_
        refine ws_region rfl ?_
        refine wl_op (k := 0) (k' := 1) rfl rfl rfl (wo_run rfl rfl (run_move rfl rfl) ?_)
        refine wl_op (k := 1) (k' := 2) rfl rfl rfl (wo_run rfl rfl (run_move rfl rfl) ?_)
        refine wl_op (k := 2) (k' := 3) rfl rfl rfl (wo_run rfl rfl (run_eql rfl rfl rfl) ?_)
        refine wl_op (k := 3) (k' := 4) rfl rfl rfl (wo_run rfl rfl (run_move rfl rfl) ?_)
        refine wl_split (t := 30) rfl (fun hg30 => ?_) (fun hg30 => ?_)
        · have hg30 := of_decide_eq_true hg30
          refine wl_opG (k := 4) (k' := 5) rfl rfl ⟨_, _, _, rfl, rfl, rfl, rfl⟩ rfl (wo_run rfl rfl (run_fieldAddr rfl rfl Try.underlying38 rfl (ce36) (nf36)) ?_)
          refine wl_opG (k := 5) (k' := 6) rfl rfl ⟨_, _, _, rfl, rfl, rfl, rfl⟩ rfl (wo_run rfl rfl (run_load1 rfl rfl Try.underlying36 rfl (S5.boxc (i := 0) rfl rfl)) ?_)
          refine wl_opG (k := 6) (k' := 7) rfl rfl ⟨_, _, _, rfl, rfl, rfl, rfl⟩ rfl (wo_run rfl rfl (run_len rfl rfl rfl rfl rfl rfl Try.underlying36) ?_)
          refine wl_opG (k := 7) (k' := 8) rfl rfl ⟨_, _, _, rfl, rfl, rfl, rfl⟩ rfl (wo_run rfl rfl (run_eql rfl rfl rfl) ?_)
          refine wl_op (k := 8) (k' := 9) rfl rfl rfl (wo_run rfl rfl (run_pickT rfl rfl rfl) ?_)
          refine wl_op (k := 9) (k' := 10) rfl rfl rfl (wo_run rfl rfl (run_move rfl rfl) ?_)
          refine wl_split (t := 36) rfl (fun hg36 => ?_) (fun hg36 => ?_)
          · have hg36 := of_decide_eq_true hg36
            refine wl_opG (k := 10) (k' := 11) rfl rfl ⟨_, _, _, rfl, rfl, rfl, rfl⟩ rfl (wo_run rfl rfl (run_fieldAddr rfl rfl Try.underlying38 rfl (ce3) (nf3)) ?_)
            refine wl_opG (k := 11) (k' := 12) rfl rfl ⟨_, _, _, rfl, rfl, rfl, rfl⟩ rfl (wo_run rfl rfl (run_load1 rfl rfl Try.underlying3 rfl (S5.boxc (i := 0) rfl rfl)) ?_)
            refine wl_opG (k := 12) (k' := 13) rfl rfl ⟨_, _, _, rfl, rfl, rfl, rfl⟩ rfl (wo_run rfl rfl (run_eql rfl rfl rfl) ?_)
            refine wl_op (k := 13) (k' := 14) rfl rfl rfl (wo_run rfl rfl (run_pickT rfl rfl rfl) ?_)
            refine wl_op (k := 14) (k' := 15) rfl rfl rfl (wo_run rfl rfl (run_assign rfl rfl) ?_)
            refine wl_end rfl ?_
            refine nm_sub [(4, _)] ⟨rfl, trivial⟩ ?_
            refine nm_thn ?_
            refine ws_ret hC [_] rfl rfl ⟨rfl, trivial⟩ ?_
            refine ⟨_, rfl, _, hle1.trans hle2, (S5.pick [] [] (by decide) trivial), ?_⟩
            show Value.bool _ = _
            refine congrArg Value.bool ?_
            rw [e1]; rfl
          · have hg36 := of_decide_eq_false hg36
            exfalso; exact hg36 (by rw [e1]; rfl)
        · have hg30 := of_decide_eq_false hg30
          exfalso; exact hg30 (by rw [e1])
      · have hb26 := of_decide_eq_false hb26
        exfalso; omega
    · have hb24 := of_decide_eq_false hb24
      refine ws_skip rfl ?_
      refine nm_sub [(0, _), (1, _), (5, _), (6, _), (7, _)] ⟨rfl, rfl, rfl, rfl, rfl, trivial⟩ ?_
      refine nm_thn ?_
      refine ws_seqN ClosureCloses_n13 ClosureCloses_n14 rfl rfl rfl ?_
      refine ws_seqN ClosureCloses_n15 ClosureCloses_n16 rfl rfl rfl ?_
      refine ws_region rfl ?_
      refine wl_op (k := 0) (k' := 1) rfl rfl rfl (wo_run rfl rfl (run_move rfl rfl) ?_)
      refine wl_op (k := 1) (k' := 2) rfl rfl rfl (wo_run rfl rfl (run_neq rfl rfl rfl) ?_)
      refine wl_end rfl ?_
      refine nm_sub [(0, _), (1, _), (5, _), (6, _), (7, _), (26, _)] ⟨rfl, rfl, rfl, rfl, rfl, rfl, trivial⟩ ?_
      refine nm_thn ?_
      refine ws_condN ClosureCloses_n17 ClosureCloses_n18 rfl rfl rfl rfl (fun hb26 => ?_) (fun hb26 => ?_)
      · have hb26 := of_decide_eq_true hb26
        have hmc := mayI_check n l
        have e1 : closeR n l = (⟨[], 0⟩, checkI n [l]) := by unfold closeR; rw [if_pos (by omega)]
        refine ws_seqN ClosureCloses_n19 ClosureCloses_n20 rfl rfl rfl ?_
        refine ws_region rfl ?_
        refine wl_op (k := 0) (k' := 1) rfl rfl rfl (wo_run rfl rfl (run_move rfl rfl) ?_)
        refine wl_op (k := 1) (k' := 2) rfl rfl rfl (wo_run rfl rfl (run_move rfl rfl) ?_)
        refine wl_op (k := 2) (k' := 3) rfl rfl rfl (wo_run rfl rfl (run_eql rfl rfl rfl) ?_)
        refine wl_op (k := 3) (k' := 4) rfl rfl rfl (wo_run rfl rfl (run_move rfl rfl) ?_)
        refine wl_split (t := 30) rfl (fun hg30 => ?_) (fun hg30 => ?_)
        · have hg30 := of_decide_eq_true hg30
          refine wl_opG (k := 4) (k' := 5) rfl rfl ⟨_, _, _, rfl, rfl, rfl, rfl⟩ rfl (wo_run rfl rfl (run_fieldAddr rfl rfl Try.underlying38 rfl (ce36) (nf36)) ?_)
          refine wl_opG (k := 5) (k' := 6) rfl rfl ⟨_, _, _, rfl, rfl, rfl, rfl⟩ rfl (wo_run rfl rfl (run_load1 rfl rfl Try.underlying36 rfl (S5.boxc (i := 0) rfl rfl)) ?_)
          refine wl_opG (k := 6) (k' := 7) rfl rfl ⟨_, _, _, rfl, rfl, rfl, rfl⟩ rfl (wo_run rfl rfl (run_len rfl rfl rfl rfl rfl rfl Try.underlying36) ?_)
          refine wl_opG (k := 7) (k' := 8) rfl rfl ⟨_, _, _, rfl, rfl, rfl, rfl⟩ rfl (wo_run rfl rfl (run_eql rfl rfl rfl) ?_)
          refine wl_op (k := 8) (k' := 9) rfl rfl rfl (wo_run rfl rfl (run_pickT rfl rfl rfl) ?_)
          refine wl_op (k := 9) (k' := 10) rfl rfl rfl (wo_run rfl rfl (run_move rfl rfl) ?_)
          refine wl_split (t := 36) rfl (fun hg36 => ?_) (fun hg36 => ?_)
          · have hg36 := of_decide_eq_true hg36
            refine wl_opG (k := 10) (k' := 11) rfl rfl ⟨_, _, _, rfl, rfl, rfl, rfl⟩ rfl (wo_run rfl rfl (run_fieldAddr rfl rfl Try.underlying38 rfl (ce3) (nf3)) ?_)
            refine wl_opG (k := 11) (k' := 12) rfl rfl ⟨_, _, _, rfl, rfl, rfl, rfl⟩ rfl (wo_run rfl rfl (run_load1 rfl rfl Try.underlying3 rfl (S5.boxc (i := 0) rfl rfl)) ?_)
            refine wl_opG (k := 12) (k' := 13) rfl rfl ⟨_, _, _, rfl, rfl, rfl, rfl⟩ rfl (wo_run rfl rfl (run_eql rfl rfl rfl) ?_)
            refine wl_op (k := 13) (k' := 14) rfl rfl rfl (wo_run rfl rfl (run_pickT rfl rfl rfl) ?_)
            refine wl_op (k := 14) (k' := 15) rfl rfl rfl (wo_run rfl rfl (run_assign rfl rfl) ?_)
            refine wl_end rfl ?_
            refine nm_sub [(4, _)] ⟨rfl, trivial⟩ ?_
            refine nm_thn ?_
            refine ws_ret hC [_] rfl rfl ⟨rfl, trivial⟩ ?_
            refine ⟨_, rfl, _, hle1.trans hle2, (S5.pick [] [] (by decide) trivial), ?_⟩
            show Value.bool _ = _
            refine congrArg Value.bool ?_
            rw [e1]; rfl
          · have hg36 := of_decide_eq_false hg36
            exfalso; exact hg36 (by rw [e1]; rfl)
        · have hg30 := of_decide_eq_false hg30
          exfalso; exact hg30 (by rw [e1, hmc])
      · have hb26 := of_decide_eq_false hb26
        have hmc := mayI_check n l
        have hck : checkI n [l] = 0 := by omega
        obtain ⟨hn1, hn2, hwl, hwb⟩ := check_ok hck
        obtain ⟨m, hnm⟩ : ∃ m : Nat, n = (m : Int) := ⟨n.toNat, by omega⟩
        have hwb9 : ∀ i, i < l.length → 1 ≤ max (ga l i) (-(ga l i)) ∧ max (ga l i) (-(ga l i)) < (m : Int) := fun i hi => by rw [← hnm]; exact hwb i hi
        have e1 : closeR n l = (closeD m l, 0) := by unfold closeR; rw [if_neg (by omega), if_neg (by omega), hnm]; rfl
        refine ws_skip rfl ?_
        refine nm_sub [(0, _), (1, _), (5, _), (6, _)] ⟨rfl, rfl, rfl, rfl, trivial⟩ ?_
        refine nm_thn ?_
        refine ws_seqN ClosureCloses_n21 ClosureCloses_n22 rfl rfl rfl ?_
        refine ws_eq 0 (.int .i64 (m : Int)) rfl (int_eq hnm) ?_
        refine ws_draw rfl (by kernel_rfl) S5 10 rfl ?_
        clear S5
        refine wa_takeP (i := 0) (d := 41) 9 rfl (by kernel_rfl) (by kernel_rfl) (by kernel_rfl) rfl rfl rfl (fun w6 => run_move rfl rfl) ?_
        refine wa_takeP (i := 1) (d := 42) 8 rfl (by kernel_rfl) (by kernel_rfl) (by kernel_rfl) rfl rfl rfl (fun w7 => run_eql rfl rfl rfl) ?_
        refine wa_takeP (i := 2) (d := 43) 7 rfl (by kernel_rfl) (by kernel_rfl) (by kernel_rfl) rfl rfl rfl (fun w8 => run_move rfl rfl) ?_
        refine wa_split (t := 43) rfl (fun hg43 => ?_) (fun hg43 => ?_)
        · have hg43 := of_decide_eq_true hg43
          refine wa_take (i := 3) (d := 44) 6 rfl (by kernel_rfl) (by kernel_rfl) (by kernel_rfl) ⟨_, _, _, rfl, rfl, rfl, rfl⟩ rfl rfl (fun M6 N4 w9 hle6 S9 => .inl (run_loadN (us := [_, _]) rfl rfl Try.underlying38 rfl sz38 (S9.suf.boxcs (i := 0) rfl ⟨rfl, rfl, trivial⟩))) ?_
          refine wa_takeP (i := 4) (d := 45) 5 rfl (by kernel_rfl) (by kernel_rfl) (by kernel_rfl) ⟨_, _, _, rfl, rfl, rfl, rfl⟩ rfl rfl (fun w10 => run_move rfl rfl) ?_
          refine wa_takeP (i := 5) (d := 46) 4 rfl (by kernel_rfl) (by kernel_rfl) (by kernel_rfl) ⟨_, _, _, rfl, rfl, rfl, rfl⟩ rfl rfl (fun w11 => run_move rfl rfl) ?_
          refine wa_only (i := 6) 3 rfl (by kernel_rfl) ⟨_, _, _, rfl, rfl, rfl, rfl⟩ rfl (fun w13 S13 => ?_)
          refine (wo_ct rfl rfl rfl rfl rfl rfl rfl cf17 S13 (CloseOf_t m l (hl.mono (Hp.le_un _ _)) ((by omega)) ((by omega)) (hwb9) S13.lend) ?_)
          intro vw14 w14 M10 hle10 S14 hRw14; clear S13
          replace hl := hl.mono hle10
          replace hr1 := hr1.mono hle10
          replace hr2 := hr2.mono hle10
          obtain ⟨A3, c3, rfl, hr3⟩ := hRw14
          refine LeftW.grow [] (hle10) S14 ?_; clear S14
          change WA _ _ _ _ _ _ _ _ _ _ _ _ [_]
          refine wa_base ?_
          refine wa_take (i := 7) (d := 48) 2 rfl (by kernel_rfl) (by kernel_rfl) (by kernel_rfl) ⟨_, _, _, rfl, rfl, rfl, rfl⟩ rfl rfl (fun M11 N8 w15 hle11 S15 => yield_cq rfl rfl rfl rfl rfl cf16 S15 (SameDiagram_q ((closeR n l).1) (closeD m l) ((hr2.mono hle11).mono (Hp.le_un _ _)) ((hr3.mono hle11).mono (Hp.le_un _ _)) ((by rw [e1])) S15.lend)) ?_
          refine wa_takeP (i := 8) (d := 49) 1 rfl (by kernel_rfl) (by kernel_rfl) (by kernel_rfl) rfl rfl rfl (fun w16 => run_pickT rfl rfl rfl) ?_
          refine wa_takeP (i := 9) (d := 4) 0 rfl (by kernel_rfl) (by kernel_rfl) (by kernel_rfl) rfl rfl rfl (fun w17 => run_assign rfl rfl) ?_
          refine wa_end (by kernel_rfl) (fun w18 S18 => ?_)
          refine nm_sub [(4, _)] ⟨rfl, trivial⟩ ?_
          refine nm_thn ?_
          refine ws_ret hC [_] rfl rfl ⟨rfl, trivial⟩ ?_
          refine ⟨_, rfl, _, (hle1.trans hle2).trans hle10, (S18.pick [] [] (by decide) trivial), ?_⟩
          show Value.bool _ = _
          rfl
        · have hg43 := of_decide_eq_false hg43
          exfalso; exact hg43 (by rw [e1])
  · have hg20 := of_decide_eq_false hg20
    refine wl_no (k := 3) (k' := 4) (d := 21) rfl rfl ⟨_, _, _, rfl, rfl, rfl, rfl⟩ rfl rfl ?_
    refine wl_no (k := 4) (k' := 5) (d := 22) rfl rfl ⟨_, _, _, rfl, rfl, rfl, rfl⟩ rfl rfl ?_
    refine wl_no (k := 5) (k' := 6) (d := 23) rfl rfl ⟨_, _, _, rfl, rfl, rfl, rfl⟩ rfl rfl ?_
    refine wl_op (k := 6) (k' := 7) rfl rfl rfl (wo_run rfl rfl (run_pickF rfl rfl rfl) ?_)
    refine wl_end rfl ?_
    refine nm_sub [(0, _), (1, _), (5, _), (6, _), (7, _), (24, _)] ⟨rfl, rfl, rfl, rfl, rfl, rfl, trivial⟩ ?_
    refine nm_thn ?_
    refine ws_condFN ClosureCloses_n12 rfl rfl rfl ?_
    refine ws_skip rfl ?_
    refine nm_sub [(0, _), (1, _), (5, _), (6, _), (7, _)] ⟨rfl, rfl, rfl, rfl, rfl, trivial⟩ ?_
    refine nm_thn ?_
    refine ws_seqN ClosureCloses_n13 ClosureCloses_n14 rfl rfl rfl ?_
    refine ws_seqN ClosureCloses_n15 ClosureCloses_n16 rfl rfl rfl ?_
    refine ws_region rfl ?_
    refine wl_op (k := 0) (k' := 1) rfl rfl rfl (wo_run rfl rfl (run_move rfl rfl) ?_)
    refine wl_op (k := 1) (k' := 2) rfl rfl rfl (wo_run rfl rfl (run_neq rfl rfl rfl) ?_)
    refine wl_end rfl ?_
    refine nm_sub [(0, _), (1, _), (5, _), (6, _), (7, _), (26, _)] ⟨rfl, rfl, rfl, rfl, rfl, rfl, trivial⟩ ?_
    refine nm_thn ?_
    refine ws_condN ClosureCloses_n17 ClosureCloses_n18 rfl rfl rfl rfl (fun hb26 => ?_) (fun hb26 => ?_)
    · have hb26 := of_decide_eq_true hb26
      have hmc := mayI_check n l
      have e1 : closeR n l = (⟨[], 0⟩, checkI n [l]) := by unfold closeR; rw [if_pos (by omega)]
      refine ws_seqN ClosureCloses_n19 ClosureCloses_n20 rfl rfl rfl ?_
      refine ws_region rfl ?_
      refine wl_op (k := 0) (k' := 1) rfl rfl rfl (wo_run rfl rfl (run_move rfl rfl) ?_)
      refine wl_op (k := 1) (k' := 2) rfl rfl rfl (wo_run rfl rfl (run_move rfl rfl) ?_)
      refine wl_op (k := 2) (k' := 3) rfl rfl rfl (wo_run rfl rfl (run_eql rfl rfl rfl) ?_)
      refine wl_op (k := 3) (k' := 4) rfl rfl rfl (wo_run rfl rfl (run_move rfl rfl) ?_)
      refine wl_split (t := 30) rfl (fun hg30 => ?_) (fun hg30 => ?_)
      · have hg30 := of_decide_eq_true hg30
        refine wl_opG (k := 4) (k' := 5) rfl rfl ⟨_, _, _, rfl, rfl, rfl, rfl⟩ rfl (wo_run rfl rfl (run_fieldAddr rfl rfl Try.underlying38 rfl (ce36) (nf36)) ?_)
        refine wl_opG (k := 5) (k' := 6) rfl rfl ⟨_, _, _, rfl, rfl, rfl, rfl⟩ rfl (wo_run rfl rfl (run_load1 rfl rfl Try.underlying36 rfl (S5.boxc (i := 0) rfl rfl)) ?_)
        refine wl_opG (k := 6) (k' := 7) rfl rfl ⟨_, _, _, rfl, rfl, rfl, rfl⟩ rfl (wo_run rfl rfl (run_len rfl rfl rfl rfl rfl rfl Try.underlying36) ?_)
        refine wl_opG (k := 7) (k' := 8) rfl rfl ⟨_, _, _, rfl, rfl, rfl, rfl⟩ rfl (wo_run rfl rfl (run_eql rfl rfl rfl) ?_)
        refine wl_op (k := 8) (k' := 9) rfl rfl rfl (wo_run rfl rfl (run_pickT rfl rfl rfl) ?_)
        refine wl_op (k := 9) (k' := 10) rfl rfl rfl (wo_run rfl rfl (run_move rfl rfl) ?_)
        refine wl_split (t := 36) rfl (fun hg36 => ?_) (fun hg36 => ?_)
        · have hg36 := of_decide_eq_true hg36
          refine wl_opG (k := 10) (k' := 11) rfl rfl ⟨_, _, _, rfl, rfl, rfl, rfl⟩ rfl (wo_run rfl rfl (run_fieldAddr rfl rfl Try.underlying38 rfl (ce3) (nf3)) ?_)
          refine wl_opG (k := 11) (k' := 12) rfl rfl ⟨_, _, _, rfl, rfl, rfl, rfl⟩ rfl (wo_run rfl rfl (run_load1 rfl rfl Try.underlying3 rfl (S5.boxc (i := 0) rfl rfl)) ?_)
          refine wl_opG (k := 12) (k' := 13) rfl rfl ⟨_, _, _, rfl, rfl, rfl, rfl⟩ rfl (wo_run rfl rfl (run_eql rfl rfl rfl) ?_)
          refine wl_op (k := 13) (k' := 14) rfl rfl rfl (wo_run rfl rfl (run_pickT rfl rfl rfl) ?_)
          refine wl_op (k := 14) (k' := 15) rfl rfl rfl (wo_run rfl rfl (run_assign rfl rfl) ?_)
          refine wl_end rfl ?_
          refine nm_sub [(4, _)] ⟨rfl, trivial⟩ ?_
          refine nm_thn ?_
          refine ws_ret hC [_] rfl rfl ⟨rfl, trivial⟩ ?_
          refine ⟨_, rfl, _, hle1.trans hle2, (S5.pick [] [] (by decide) trivial), ?_⟩
          show Value.bool _ = _
          refine congrArg Value.bool ?_
          rw [e1]; rfl
        · have hg36 := of_decide_eq_false hg36
          exfalso; exact hg36 (by rw [e1]; rfl)
      · have hg30 := of_decide_eq_false hg30
        exfalso; exact hg30 (by rw [e1, hmc])
    · have hb26 := of_decide_eq_false hb26
      have hmc := mayI_check n l
      have hck : checkI n [l] = 0 := by omega
      obtain ⟨hn1, hn2, hwl, hwb⟩ := check_ok hck
      obtain ⟨m, hnm⟩ : ∃ m : Nat, n = (m : Int) := ⟨n.toNat, by omega⟩
      have hwb9 : ∀ i, i < l.length → 1 ≤ max (ga l i) (-(ga l i)) ∧ max (ga l i) (-(ga l i)) < (m : Int) := fun i hi => by rw [← hnm]; exact hwb i hi
      have e1 : closeR n l = (closeD m l, 0) := by unfold closeR; rw [if_neg (by omega), if_neg (by omega), hnm]; rfl
      refine ws_skip rfl ?_
      refine nm_sub [(0, _), (1, _), (5, _), (6, _)] ⟨rfl, rfl, rfl, rfl, trivial⟩ ?_
      refine nm_thn ?_
      refine ws_seqN ClosureCloses_n21 ClosureCloses_n22 rfl rfl rfl ?_
      refine ws_eq 0 (.int .i64 (m : Int)) rfl (int_eq hnm) ?_
      refine ws_draw rfl (by kernel_rfl) S5 10 rfl ?_
      clear S5
      refine wa_takeP (i := 0) (d := 41) 9 rfl (by kernel_rfl) (by kernel_rfl) (by kernel_rfl) rfl rfl rfl (fun w19 => run_move rfl rfl) ?_
      refine wa_takeP (i := 1) (d := 42) 8 rfl (by kernel_rfl) (by kernel_rfl) (by kernel_rfl) rfl rfl rfl (fun w20 => run_eql rfl rfl rfl) ?_
      refine wa_takeP (i := 2) (d := 43) 7 rfl (by kernel_rfl) (by kernel_rfl) (by kernel_rfl) rfl rfl rfl (fun w21 => run_move rfl rfl) ?_
      refine wa_split (t := 43) rfl (fun hg43 => ?_) (fun hg43 => ?_)
      · have hg43 := of_decide_eq_true hg43
        refine wa_take (i := 3) (d := 44) 6 rfl (by kernel_rfl) (by kernel_rfl) (by kernel_rfl) ⟨_, _, _, rfl, rfl, rfl, rfl⟩ rfl rfl (fun M17 N14 w22 hle17 S22 => .inl (run_loadN (us := [_, _]) rfl rfl Try.underlying38 rfl sz38 (S22.suf.boxcs (i := 0) rfl ⟨rfl, rfl, trivial⟩))) ?_
        refine wa_takeP (i := 4) (d := 45) 5 rfl (by kernel_rfl) (by kernel_rfl) (by kernel_rfl) ⟨_, _, _, rfl, rfl, rfl, rfl⟩ rfl rfl (fun w23 => run_move rfl rfl) ?_
        refine wa_takeP (i := 5) (d := 46) 4 rfl (by kernel_rfl) (by kernel_rfl) (by kernel_rfl) ⟨_, _, _, rfl, rfl, rfl, rfl⟩ rfl rfl (fun w24 => run_move rfl rfl) ?_
        refine wa_only (i := 6) 3 rfl (by kernel_rfl) ⟨_, _, _, rfl, rfl, rfl, rfl⟩ rfl (fun w26 S26 => ?_)
        refine (wo_ct rfl rfl rfl rfl rfl rfl rfl cf17 S26 (CloseOf_t m l (hl.mono (Hp.le_un _ _)) ((by omega)) ((by omega)) (hwb9) S26.lend) ?_)
        intro vw27 w27 M21 hle21 S27 hRw27; clear S26
        replace hl := hl.mono hle21
        replace hr1 := hr1.mono hle21
        replace hr2 := hr2.mono hle21
        obtain ⟨A4, c4, rfl, hr4⟩ := hRw27
        refine LeftW.grow [] (hle21) S27 ?_; clear S27
        change WA _ _ _ _ _ _ _ _ _ _ _ _ [_]
        refine wa_base ?_
        refine wa_take (i := 7) (d := 48) 2 rfl (by kernel_rfl) (by kernel_rfl) (by kernel_rfl) ⟨_, _, _, rfl, rfl, rfl, rfl⟩ rfl rfl (fun M22 N18 w28 hle22 S28 => yield_cq rfl rfl rfl rfl rfl cf16 S28 (SameDiagram_q ((closeR n l).1) (closeD m l) ((hr2.mono hle22).mono (Hp.le_un _ _)) ((hr4.mono hle22).mono (Hp.le_un _ _)) ((by rw [e1])) S28.lend)) ?_
        refine wa_takeP (i := 8) (d := 49) 1 rfl (by kernel_rfl) (by kernel_rfl) (by kernel_rfl) rfl rfl rfl (fun w29 => run_pickT rfl rfl rfl) ?_
        refine wa_takeP (i := 9) (d := 4) 0 rfl (by kernel_rfl) (by kernel_rfl) (by kernel_rfl) rfl rfl rfl (fun w30 => run_assign rfl rfl) ?_
        refine wa_end (by kernel_rfl) (fun w31 S31 => ?_)
        refine nm_sub [(4, _)] ⟨rfl, trivial⟩ ?_
        refine nm_thn ?_
        refine ws_ret hC [_] rfl rfl ⟨rfl, trivial⟩ ?_
        refine ⟨_, rfl, _, (hle1.trans hle2).trans hle21, (S31.pick [] [] (by decide) trivial), ?_⟩
        show Value.bool _ = _
        rfl
      · have hg43 := of_decide_eq_false hg43
        exfalso; exact hg43 (by rw [e1])

end Go.Proofs.Ythfiblbkkjcliaa
