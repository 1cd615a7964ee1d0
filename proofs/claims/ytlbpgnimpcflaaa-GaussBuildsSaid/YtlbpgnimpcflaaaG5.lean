/- Walks printed by eng.py. -/
import Derived.Test.YtlbpgnimpcflaaaG4
import Derived.Test.YtlbpgnimpcflaaaE8
set_option linter.unusedSimpArgs false
set_option linter.unusedVariables false
namespace Go.Proofs.Ytlbpgnimpcflaaa
open Go.ChangeShapes Go.WideShapes Go.ChangeAt Go.RowKit
noncomputable def GaussBuilds_n0 : Code := Try.f3.body.getD .skip
noncomputable def GaussBuilds_n1 : Code := cL GaussBuilds_n0
noncomputable def GaussBuilds_n2 : Code := cR GaussBuilds_n0
noncomputable def GaussBuilds_n3 : Code := cL GaussBuilds_n2
noncomputable def GaussBuilds_n4 : Code := cR GaussBuilds_n2
noncomputable def GaussBuilds_n5 : Code := cL GaussBuilds_n4
noncomputable def GaussBuilds_n6 : Code := cR GaussBuilds_n4
noncomputable def GaussBuilds_n7 : Code := cL GaussBuilds_n5
noncomputable def GaussBuilds_n8 : Code := cR GaussBuilds_n5
noncomputable def GaussBuilds_n9 : Code := cL GaussBuilds_n8
noncomputable def GaussBuilds_n10 : Code := cL GaussBuilds_n9
noncomputable def GaussBuilds_n11 : Code := cL GaussBuilds_n10
noncomputable def GaussBuilds_n12 : Code := cR GaussBuilds_n10
noncomputable def GaussBuilds_n13 : Code := cL GaussBuilds_n11
noncomputable def GaussBuilds_n14 : Code := cR GaussBuilds_n11
noncomputable def GaussBuilds_n15 : Code := cL GaussBuilds_n14
noncomputable def GaussBuilds_n16 : Code := cR GaussBuilds_n14
noncomputable def GaussBuilds_n17 : Code := cL GaussBuilds_n12
noncomputable def GaussBuilds_n18 : Code := cR GaussBuilds_n12
noncomputable def GaussBuilds_n19 : Code := cL GaussBuilds_n17
noncomputable def GaussBuilds_n20 : Code := cL GaussBuilds_n6
noncomputable def GaussBuilds_n21 : Code := cR GaussBuilds_n6
noncomputable def GaussBuilds_n22 : Code := cL GaussBuilds_n21
noncomputable def GaussBuilds_n23 : Code := cR GaussBuilds_n21
noncomputable def GaussBuilds_n24 : Code := cL GaussBuilds_n23
noncomputable def GaussBuilds_n25 : Code := cR GaussBuilds_n23
set_option maxRecDepth 10000 in
theorem GaussBuilds_t {w : World} {M : Hp} {X : Fr} (l : List (List Vi)) {lA : Option Addr} {lc : Nat} {lv : List SlV} (plus : List Bool) {plusA : Option Addr} {plusc : Nat} (loops : Int) (hl : RdA (cdV 24) M lA lc lv) (hdl : Rd2 cdVi M lv l) (hplus : RdA cdBool M plusA plusc plus) (hlw : -9223372036854775808 ≤ loops ∧ loops ≤ 9223372036854775807) (S : SH w M X []) : Ct Try.prog 3 [.slice lA lv.length lc, .slice plusA plus.length plusc, .int .i64 loops] w M X (fun u _ => u = .bool true) := by
  unfold Ct
  have rmhl : lv.length * 24 ≤ 140737488355328 := hl.room
  have rmhplus : plus.length * 1 ≤ 140737488355328 := hplus.room
  refine calls_in (b := GaussBuilds_n0) Try.func3 rfl Try.ntmps3 rfl (fun C hC => ?_)
  refine ws_sub [(0, _), (1, _), (2, _)] ⟨rfl, rfl, rfl, trivial⟩ ?_
  refine ws_seqN GaussBuilds_n1 GaussBuilds_n2 rfl rfl rfl ?_
  refine ws_region rfl ?_
  refine wl_op (k := 0) (k' := 1) rfl rfl rfl (wo_run rfl rfl (run_assign rfl rfl) ?_)
  refine wl_end rfl ?_
  refine nm_sub [(0, _), (1, _), (2, _)] ⟨rfl, rfl, rfl, trivial⟩ ?_
  refine nm_thn ?_
  refine ws_seqN GaussBuilds_n3 GaussBuilds_n4 rfl rfl rfl ?_
  refine ws_region rfl ?_
  refine wl_op (k := 0) (k' := 1) rfl rfl rfl (wo_run rfl rfl (run_assign rfl rfl) ?_)
  refine wl_end rfl ?_
  refine nm_thn ?_
  refine ws_seqN GaussBuilds_n5 GaussBuilds_n6 rfl rfl rfl ?_
  refine ws_seqN GaussBuilds_n7 GaussBuilds_n8 rfl rfl rfl ?_
  refine ws_region rfl ?_
  refine wl_op (k := 0) (k' := 1) rfl rfl rfl (wo_run rfl rfl (run_assign rfl rfl) ?_)
  refine wl_end rfl ?_
  refine nm_thn ?_
  refine ws_blockN GaussBuilds_n9 0 rfl rfl rfl ?_
  have S1 := S.nilrow (cdV 24); clear S
  refine ws_loopE (fun mx_ ax_ wx_ => ∃ (i : Nat) (ws : List SlV) (acc : List (List Vi)) (vrc : Value) (M1 : Hp), M.le M1 ∧ mx_ = lv.length - i ∧ Env 50 [(0, .slice lA lv.length lc), (1, .slice plusA plus.length plusc), (2, .int .i64 loops), (7, vrc), (8, .int .i64 (i : Int))] ax_ ∧ SH wx_ M1 X [Rs.row (cdV 24) vrc ws] ∧ i ≤ lv.length ∧ acc = l.take i ∧ Rd2 cdVi M1 ws acc) rfl ?_ ?_
  · intro ax_ hax_
    refine ⟨_, ⟨0, _, ([]), _, _, Hp.le_refl _, rfl, hax_.sub ⟨rfl, rfl, rfl, rfl, rfl, trivial⟩, S1.pick [0] [_] (by decide) ⟨rfl, trivial⟩, ?hq1f0, ?hq1f1, ?hq1f2⟩⟩
    case hq1f0 => omega
    case hq1f1 => rfl
    case hq1f2 => exact Rd2.nil_
  · rintro m1 a1 w1 ⟨i, ws, acc, vrc, M1, hle1, rfl, he1, S2, hi, hacc, hdw⟩
    clear S1
    refine ws_in he1 (c := GaussBuilds_n10) rfl ?_
    clear he1 a1
    replace hl := hl.mono hle1
    replace hdl := hdl.mono hle1
    replace hplus := hplus.mono hle1
    have hlv := hdl.1
    have hwl := hdw.1
    have hal : acc.length = i := by rw [hacc, List.length_take]; omega
    refine ws_seqN GaussBuilds_n11 GaussBuilds_n12 rfl rfl rfl ?_
    refine ws_seqN GaussBuilds_n13 GaussBuilds_n14 rfl rfl rfl ?_
    refine ws_region rfl ?_
    refine wl_op (k := 0) (k' := 1) rfl rfl rfl (wo_run rfl rfl (run_move rfl rfl) ?_)
    refine wl_op (k := 1) (k' := 2) rfl rfl rfl (wo_run rfl rfl (run_move rfl rfl) ?_)
    refine wl_op (k := 2) (k' := 3) rfl rfl rfl (wo_run rfl rfl (run_len rfl rfl rfl rfl rfl rfl Try.underlying22) ?_)
    refine wl_op (k := 3) (k' := 4) rfl rfl rfl (wo_run rfl rfl (run_lss rfl rfl rfl) ?_)
    refine wl_end rfl ?_
    refine nm_sub [(0, _), (1, _), (2, _), (7, _), (8, _), (16, _)] ⟨rfl, rfl, rfl, rfl, rfl, rfl, trivial⟩ ?_
    refine nm_thn ?_
    refine ws_condN GaussBuilds_n15 GaussBuilds_n16 rfl rfl rfl rfl (fun hb16 => ?_) (fun hb16 => ?_)
    · have hb16 := of_decide_eq_true hb16
      refine ws_skip rfl ?_
      refine nm_sub [(0, _), (1, _), (2, _), (7, _), (8, _)] ⟨rfl, rfl, rfl, rfl, rfl, trivial⟩ ?_
      refine nm_thn ?_
      refine ws_seqN GaussBuilds_n17 GaussBuilds_n18 rfl rfl rfl ?_
      refine ws_blockN GaussBuilds_n19 1 rfl rfl rfl ?_
      refine ws_region rfl ?_
      refine wl_op (k := 0) (k' := 1) rfl rfl rfl (wo_run rfl rfl (run_move rfl rfl) ?_)
      refine wl_op (k := 1) (k' := 2) rfl rfl rfl (wo_run rfl rfl (run_move rfl rfl) ?_)
      refine wl_op (k := 2) (k' := 3) rfl rfl rfl (wo_run rfl rfl (run_move rfl rfl) ?_)
      refine wl_op (k := 3) (k' := 4) rfl rfl rfl (wo_run rfl rfl (run_indexM (C := (cdV 24)) i rfl rfl rfl sl22 (by first | rfl | omega) hl (by first | omega | (simp only [List.length_set, List.length_append, List.length_replicate, List.length_singleton, List.length_cons, List.length_nil]; omega))) ?_)
      obtain ⟨hn1, hr1⟩ := hdl.2 i (by first | omega | (simp only [List.length_set, List.length_append, List.length_replicate, List.length_singleton, List.length_cons, List.length_nil]; omega))
      have rmhr1 : (ga l i).length * 16 ≤ 140737488355328 := hr1.room
      refine wl_op (k := 4) (k' := 5) rfl rfl rfl (wo_run rfl rfl (run_load1 rfl rfl Try.underlying24 rfl (hl.cell S2.m (i := i) (by first | omega | (simp only [List.length_set, List.length_append, List.length_replicate, List.length_singleton, List.length_cons, List.length_nil]; omega)) 0 rfl (congrArg (fun n => some (Value.slice _ n _)) hn1))) ?_)
      have S3 := S2.nilrow cdVi; clear S2
      refine wl_op (k := 5) (k' := 6) rfl rfl rfl (wo_appendM (C := cdVi) (i := 0) rfl rfl rfl rfl rfl rfl rfl rfl sl24 S3 rfl hr1 S3.m (by have h : _ * 16 ≤ _ := hr1.room; show (0 + _) * 16 ≤ _; first | omega | (simp only [List.length_set, List.length_append, List.length_replicate, List.length_singleton, List.length_cons, List.length_nil]; omega)) ?_)
      intro vr3 w2 S4; clear S3
      change SH _ _ _ [Rs.row cdVi vr3 (ga l i), _] at S4
      obtain ⟨M2, hle2, S5, ⟨A1, c1, e1, hr2⟩⟩ := S4.pubrow (i := 0) (H' := [_, _]) rfl rfl (by show _ * 16 ≤ _; first | omega | (simp only [List.length_set, List.length_append, List.length_replicate, List.length_singleton, List.length_cons, List.length_nil]; omega))
      clear S4; subst e1
      replace hl := hl.mono hle2
      replace hdl := hdl.mono hle2
      replace hplus := hplus.mono hle2
      replace hdw := hdw.mono hle2
      replace hr1 := hr1.mono hle2
      refine wl_op (k := 6) (k' := 7) rfl rfl rfl (wo_buildSlice1 (C := (cdV 24)) (l := [_]) rfl rfl rfl rfl sl22 rfl rfl rfl rfl S5 ?_)
      intro gb1 w3 S6; clear S5
      refine wl_op (k := 7) (k' := 8) rfl rfl rfl (wo_append1 (C := (cdV 24)) (i := 2) (q := 0) (⟨A1, (ga l i).length, c1⟩ : SlV) rfl rfl rfl rfl rfl rfl rfl rfl sl22 S6 rfl rfl rfl (by show (_ + 1) * 24 ≤ _; first | omega | (simp only [List.length_set, List.length_append, List.length_replicate, List.length_singleton, List.length_cons, List.length_nil]; omega)) ?_)
      intro vrc1 w4 S7; clear S6
      have S8 := S7.pick [1, 2] [_, _] (by decide) ⟨rfl, rfl, trivial⟩; clear S7
      have hd1 := hdw.snoc (c := c1) hr2
      refine wl_op (k := 8) (k' := 9) rfl rfl rfl (wo_run rfl rfl (run_assign rfl rfl) ?_)
      refine wl_end rfl ?_
      refine nm_blk ?_
      refine nm_sub [(0, _), (1, _), (2, _), (7, _), (8, _)] ⟨rfl, rfl, rfl, rfl, rfl, trivial⟩ ?_
      refine nm_thn ?_
      refine ws_region rfl ?_
      refine wl_op (k := 0) (k' := 1) rfl rfl rfl (wo_run rfl rfl (run_move rfl rfl) ?_)
      refine wl_op (k := 1) (k' := 2) rfl rfl rfl (wo_run rfl rfl (run_add rfl rfl rfl (by first | omega | (simp only [List.length_set, List.length_append, List.length_replicate, List.length_singleton, List.length_cons, List.length_nil]; omega))) ?_)
      refine wl_op (k := 2) (k' := 3) rfl rfl rfl (wo_run rfl rfl (run_assign rfl rfl) ?_)
      refine wl_end rfl ?_
      refine nm_lp ?_
      intro ax_ hax_
      refine ⟨_, ?hq2m, ⟨i + 1, _, (acc ++ [ga l i]), _, _, (hle1.trans hle2), rfl, hax_.sub ⟨rfl, rfl, rfl, rfl, rfl, trivial⟩, S8.pick [1] [_] (by decide) ⟨rfl, trivial⟩, ?hq2f0, ?hq2f1, ?hq2f2⟩⟩
      case hq2f0 => omega
      case hq2f1 => (rw [take_ga _ _ (by omega), ← hacc])
      case hq2f2 => exact hd1
      case hq2m => omega
    · have hb16 := of_decide_eq_false hb16
      have hlv := hdl.1
      have hacc2 : acc = l := by rw [hacc, show i = l.length by omega, List.take_length]
      refine ws_exit rfl rfl ?_
      refine nm_sub [(0, _), (1, _), (2, _), (7, _)] ⟨rfl, rfl, rfl, rfl, trivial⟩ ?_
      refine nm_thn ?_
      refine ws_seqN GaussBuilds_n20 GaussBuilds_n21 rfl rfl rfl ?_
      refine ws_region rfl ?_
      refine wl_op (k := 0) (k' := 1) rfl rfl rfl (wo_run rfl rfl (run_move rfl rfl) ?_)
      refine wl_op (k := 1) (k' := 2) rfl rfl rfl (wo_run rfl rfl (run_move rfl rfl) ?_)
      have S9 := S2.nilrow cdBool; clear S2
      refine wl_op (k := 2) (k' := 3) rfl rfl rfl (wo_appendM (C := cdBool) (i := 0) rfl rfl rfl rfl rfl rfl rfl rfl sl23 S9 rfl hplus S9.m (by have h : _ * 1 ≤ _ := hplus.room; show (0 + _) * 1 ≤ _; first | omega | (simp only [List.length_set, List.length_append, List.length_replicate, List.length_singleton, List.length_cons, List.length_nil]; omega)) ?_)
      intro vr5 w5 S10; clear S9
      change SH _ _ _ [Rs.row cdBool vr5 plus, _] at S10
      refine wl_op (k := 3) (k' := 4) rfl rfl rfl (wo_run rfl rfl (run_move rfl rfl) ?_)
      obtain ⟨A2, c2, e2, hr3⟩ := S10.lendRd (i := 1) rfl (by show _ * 24 ≤ _; first | omega | (simp only [List.length_set, List.length_append, List.length_replicate, List.length_singleton, List.length_cons, List.length_nil]; omega))
      have hd2 := Rd2.at_ (C := cdVi) (ss := ws) (xss := acc) S10 (hdw.mono (Hp.le_un _ _))
      obtain ⟨A3, c3, e3, hr4⟩ := S10.lendRd (i := 0) rfl (by show _ * 1 ≤ _; first | omega | (simp only [List.length_set, List.length_append, List.length_replicate, List.length_singleton, List.length_cons, List.length_nil]; omega))
      have hcall1 := Build_t acc plus loops hr3 hd2 hr4 (hlw) S10.lend
      refine wl_op (k := 4) (k' := 5) rfl rfl rfl (wo_ct rfl rfl rfl rfl rfl rfl rfl cf12 S10 (Ct.cast (by simp only [e2, e3]) (hcall1)) ?_)
      intro vw6 w6 M3 hle3 S11 hRw6; clear S10
      replace hl := hl.mono hle3
      replace hdl := hdl.mono hle3
      replace hplus := hplus.mono hle3
      replace hdw := hdw.mono hle3
      obtain ⟨A4, c4, rfl, hr5⟩ := hRw6
      refine wl_op (k := 5) (k' := 6) rfl rfl rfl (wo_run rfl rfl (run_move rfl rfl) ?_)
      refine wl_op (k := 6) (k' := 7) rfl rfl rfl (wo_run rfl rfl (run_extract rfl rfl rfl) ?_)
      refine wl_op (k := 7) (k' := 8) rfl rfl rfl (wo_run rfl rfl (run_extract rfl rfl rfl) ?_)
      refine wl_op (k := 8) (k' := 9) rfl rfl rfl (wo_alloc (l := [_, _]) rfl rfl rfl zr27 rfl S11 ?_)
      intro gb2 w7 S12; clear S11
      refine wl_op (k := 9) (k' := 10) rfl rfl rfl (wo_storeB (i := 0) (us := [_, _]) (l' := [_, _]) (H' := [_, _, _]) rfl rfl S12 rfl rfl rfl rfl sz27 rfl rfl rfl rfl ?_)
      intro w8 S13; clear S12
      refine wl_op (k := 10) (k' := 11) rfl rfl rfl (wo_run rfl rfl (run_assign rfl rfl) ?_)
      refine wl_end rfl ?_
      refine nm_sub [(0, _), (1, _), (2, _), (9, _), (10, _)] ⟨rfl, rfl, rfl, rfl, rfl, trivial⟩ ?_
      refine nm_thn ?_
      refine ws_seqN GaussBuilds_n22 GaussBuilds_n23 rfl rfl rfl ?_
      refine ws_region rfl ?_
      refine wl_op (k := 0) (k' := 1) rfl rfl rfl (wo_run rfl rfl (run_move rfl rfl) ?_)
      refine wl_op (k := 1) (k' := 2) rfl rfl rfl (wo_run rfl rfl (run_move rfl rfl) ?_)
      refine wl_op (k := 2) (k' := 3) rfl rfl rfl (wo_run rfl rfl (run_move rfl rfl) ?_)
      refine wl_op (k := 3) (k' := 4) rfl rfl rfl (wo_ct rfl rfl rfl rfl rfl rfl rfl cf13 S13 (BuildOf_t l plus loops (hl.mono (Hp.le_un _ _)) (hdl.mono (Hp.le_un _ _)) (hplus.mono (Hp.le_un _ _)) (hlw) S13.lend) ?_)
      intro vw9 w9 M4 hle4 S14 hRw9; clear S13
      replace hl := hl.mono hle4
      replace hdl := hdl.mono hle4
      replace hplus := hplus.mono hle4
      replace hdw := hdw.mono hle4
      replace hr5 := hr5.mono hle4
      obtain ⟨A5, c5, rfl, hr6⟩ := hRw9
      refine wl_op (k := 4) (k' := 5) rfl rfl rfl (wo_run rfl rfl (run_move rfl rfl) ?_)
      refine wl_op (k := 5) (k' := 6) rfl rfl rfl (wo_run rfl rfl (run_extract rfl rfl rfl) ?_)
      refine wl_op (k := 6) (k' := 7) rfl rfl rfl (wo_run rfl rfl (run_extract rfl rfl rfl) ?_)
      refine wl_op (k := 7) (k' := 8) rfl rfl rfl (wo_alloc (l := [_, _]) rfl rfl rfl zr27 rfl S14 ?_)
      intro gb3 w10 S15; clear S14
      refine wl_op (k := 8) (k' := 9) rfl rfl rfl (wo_storeB (i := 0) (us := [_, _]) (l' := [_, _]) (H' := [_, _, _, _]) rfl rfl S15 rfl rfl rfl rfl sz27 rfl rfl rfl rfl ?_)
      intro w11 S16; clear S15
      refine wl_op (k := 9) (k' := 10) rfl rfl rfl (wo_run rfl rfl (run_assign rfl rfl) ?_)
      refine wl_end rfl ?_
      refine nm_sub [(9, _), (10, _), (11, _), (12, _)] ⟨rfl, rfl, rfl, rfl, trivial⟩ ?_
      refine nm_thn ?_
      refine ws_seqN GaussBuilds_n24 GaussBuilds_n25 rfl rfl rfl ?_
      refine ws_region rfl ?_
      refine wl_op (k := 0) (k' := 1) rfl rfl rfl (wo_run rfl rfl (run_move rfl rfl) ?_)
      refine wl_op (k := 1) (k' := 2) rfl rfl rfl (wo_run rfl rfl (run_move rfl rfl) ?_)
      refine wl_op (k := 2) (k' := 3) rfl rfl rfl (wo_run rfl rfl (run_eql rfl rfl rfl) ?_)
      refine wl_op (k := 3) (k' := 4) rfl rfl rfl (wo_run rfl rfl (run_move rfl rfl) ?_)
      refine wl_split (t := 45) rfl (fun hg45 => ?_) (fun hg45 => ?_)
      · have hg45 := of_decide_eq_true hg45
        refine wl_opG (k := 4) (k' := 5) rfl rfl ⟨_, _, _, rfl, rfl, rfl, rfl⟩ rfl (wo_run rfl rfl (run_loadN (us := [_, _]) rfl rfl Try.underlying27 rfl sz27 (S16.boxcs (i := 1) rfl ⟨rfl, rfl, trivial⟩)) ?_)
        refine wl_opG (k := 5) (k' := 6) rfl rfl ⟨_, _, _, rfl, rfl, rfl, rfl⟩ rfl (wo_run rfl rfl (run_loadN (us := [_, _]) rfl rfl Try.underlying27 rfl sz27 (S16.boxcs (i := 0) rfl ⟨rfl, rfl, trivial⟩)) ?_)
        refine wl_opG (k := 6) (k' := 7) rfl rfl ⟨_, _, _, rfl, rfl, rfl, rfl⟩ rfl (wo_cq rfl rfl rfl rfl rfl rfl rfl cf14 S16 (SameDiagram_q ((buildR acc plus loops).1) ((buildR l plus loops).1) (hr5.mono (Hp.le_un _ _)) (hr6.mono (Hp.le_un _ _)) ((by rw [hacc2])) S16.lend) ?_)
        rintro _ w12 S17 rfl; clear S16
        refine wl_op (k := 7) (k' := 8) rfl rfl rfl (wo_run rfl rfl (run_pickT rfl rfl rfl) ?_)
        refine wl_op (k := 8) (k' := 9) rfl rfl rfl (wo_run rfl rfl (run_assign rfl rfl) ?_)
        refine wl_end rfl ?_
        refine nm_sub [(6, _)] ⟨rfl, trivial⟩ ?_
        refine nm_thn ?_
        refine ws_ret hC [_] rfl rfl ⟨rfl, trivial⟩ ?_
        refine ⟨_, rfl, _, (hle1.trans hle3).trans hle4, (S17.pick [] [] (by decide) trivial), ?_⟩
        show Value.bool _ = _
        rfl
      · have hg45 := of_decide_eq_false hg45
        exfalso; exact hg45 (by rw [hacc2])

end Go.Proofs.Ytlbpgnimpcflaaa
