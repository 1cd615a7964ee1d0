/- Walks printed by eng.py. -/
import Derived.Test.YthfiblbkkjcliaaB8
set_option linter.unusedSimpArgs false
set_option linter.unusedVariables false
namespace Go.Proofs.Ythfiblbkkjcliaa
open Go.ChangeShapes Go.WideShapes Go.ChangeAt Go.RowKit
noncomputable def BraidActs_n0 : Code := Try.f3.body.getD .skip
noncomputable def BraidActs_n1 : Code := cL BraidActs_n0
noncomputable def BraidActs_n2 : Code := cR BraidActs_n0
noncomputable def BraidActs_n3 : Code := cL BraidActs_n2
noncomputable def BraidActs_n4 : Code := cR BraidActs_n2
noncomputable def BraidActs_n5 : Code := cL BraidActs_n4
noncomputable def BraidActs_n6 : Code := cR BraidActs_n4
noncomputable def BraidActs_n7 : Code := cL BraidActs_n6
noncomputable def BraidActs_n8 : Code := cR BraidActs_n6
noncomputable def BraidActs_n9 : Code := cL BraidActs_n8
noncomputable def BraidActs_n10 : Code := cR BraidActs_n8
noncomputable def BraidActs_n11 : Code := cL BraidActs_n9
noncomputable def BraidActs_n12 : Code := cR BraidActs_n9
noncomputable def BraidActs_n13 : Code := cL BraidActs_n12
noncomputable def BraidActs_n14 : Code := cR BraidActs_n12
noncomputable def BraidActs_n15 : Code := cL BraidActs_n13
noncomputable def BraidActs_n16 : Code := cR BraidActs_n13
noncomputable def BraidActs_n17 : Code := cL BraidActs_n10
noncomputable def BraidActs_n18 : Code := cR BraidActs_n10
set_option maxRecDepth 10000 in
theorem BraidActs_t {w : World} {M : Hp} {X : Fr} (n : Int) (l : List Int) {lA : Option Addr} {lc : Nat} (hl : RdA cdInt M lA lc l) (S : SH w M X []) : Ct Try.prog 3 [.int .i64 n, .slice lA l.length lc] w M X (fun u _ => u = .bool true) := by
  unfold Ct
  have rmhl : l.length * 8 ≤ 140737488355328 := hl.room
  refine calls_in (b := BraidActs_n0) Try.func3 rfl Try.ntmps3 rfl (fun C hC => ?_)
  refine ws_sub [(0, _), (1, _)] ⟨rfl, rfl, trivial⟩ ?_
  refine ws_seqN BraidActs_n1 BraidActs_n2 rfl rfl rfl ?_
  refine ws_region rfl ?_
  refine wl_op (k := 0) (k' := 1) rfl rfl rfl (wo_run rfl rfl (run_assign rfl rfl) ?_)
  refine wl_end rfl ?_
  refine nm_sub [(0, _), (1, _)] ⟨rfl, rfl, trivial⟩ ?_
  refine nm_thn ?_
  refine ws_seqN BraidActs_n3 BraidActs_n4 rfl rfl rfl ?_
  refine ws_region rfl ?_
  refine wl_op (k := 0) (k' := 1) rfl rfl rfl (wo_run rfl rfl (run_move rfl rfl) ?_)
  refine wl_op (k := 1) (k' := 2) rfl rfl rfl (wo_run rfl rfl (run_move rfl rfl) ?_)
  refine wl_op (k := 2) (k' := 3) rfl rfl rfl (wo_ct rfl rfl rfl rfl rfl rfl rfl cf8 S (ints_t l (hl.mono (Hp.le_un _ _)) S.lend) ?_)
  intro vw1 w1 M1 hle1 S1 hRw1; clear S
  replace hl := hl.mono hle1
  obtain ⟨A1, c1, rfl, hr1⟩ := hRw1
  refine wl_op (k := 3) (k' := 4) rfl rfl rfl (wo_ct rfl rfl rfl rfl rfl rfl rfl cf7 S1 (Ends_t n l (hr1.mono (Hp.le_un _ _)) S1.lend) ?_)
  intro vw2 w2 M2 hle2 S2 hRw2; clear S1
  replace hl := hl.mono hle2
  replace hr1 := hr1.mono hle2
  obtain ⟨A2, c2, rfl, hr2⟩ := hRw2
  refine wl_op (k := 4) (k' := 5) rfl rfl rfl (wo_run rfl rfl (run_move rfl rfl) ?_)
  refine wl_op (k := 5) (k' := 6) rfl rfl rfl (wo_run rfl rfl (run_extract rfl rfl rfl) ?_)
  refine wl_op (k := 6) (k' := 7) rfl rfl rfl (wo_run rfl rfl (run_extract rfl rfl rfl) ?_)
  refine wl_op (k := 7) (k' := 8) rfl rfl rfl (wo_run rfl rfl (run_assign rfl rfl) ?_)
  refine wl_op (k := 8) (k' := 9) rfl rfl rfl (wo_run rfl rfl (run_assign rfl rfl) ?_)
  refine wl_end rfl ?_
  refine nm_sub [(0, _), (1, _), (5, _), (6, _)] ⟨rfl, rfl, rfl, rfl, trivial⟩ ?_
  refine nm_thn ?_
  refine ws_seqN BraidActs_n5 BraidActs_n6 rfl rfl rfl ?_
  refine ws_region rfl ?_
  refine wl_op (k := 0) (k' := 1) rfl rfl rfl (wo_run rfl rfl (run_move rfl rfl) ?_)
  refine wl_op (k := 1) (k' := 2) rfl rfl rfl (wo_run rfl rfl (run_move rfl rfl) ?_)
  refine wl_op (k := 2) (k' := 3) rfl rfl rfl (wo_ct rfl rfl rfl rfl rfl rfl rfl cf8 S2 (ints_t l (hl.mono (Hp.le_un _ _)) S2.lend) ?_)
  intro vw3 w3 M3 hle3 S3 hRw3; clear S2
  replace hl := hl.mono hle3
  replace hr1 := hr1.mono hle3
  replace hr2 := hr2.mono hle3
  obtain ⟨A3, c3, rfl, hr3⟩ := hRw3
  refine wl_op (k := 3) (k' := 4) rfl rfl rfl (wo_ct rfl rfl rfl rfl rfl rfl rfl cf9 S3 (Act_t n l (hr3.mono (Hp.le_un _ _)) S3.lend) ?_)
  intro vw4 w4 M4 hle4 S4 hRw4; clear S3
  replace hl := hl.mono hle4
  replace hr1 := hr1.mono hle4
  replace hr2 := hr2.mono hle4
  replace hr3 := hr3.mono hle4
  obtain ⟨A4, c4, vs1, rfl, hr4, hd1⟩ := hRw4
  refine wl_op (k := 4) (k' := 5) rfl rfl rfl (wo_run rfl rfl (run_move rfl rfl) ?_)
  refine wl_op (k := 5) (k' := 6) rfl rfl rfl (wo_run rfl rfl (run_extract rfl rfl rfl) ?_)
  refine wl_op (k := 6) (k' := 7) rfl rfl rfl (wo_run rfl rfl (run_extract rfl rfl rfl) ?_)
  refine wl_op (k := 7) (k' := 8) rfl rfl rfl (wo_run rfl rfl (run_assign rfl rfl) ?_)
  refine wl_op (k := 8) (k' := 9) rfl rfl rfl (wo_run rfl rfl (run_assign rfl rfl) ?_)
  refine wl_end rfl ?_
  refine nm_sub [(0, _), (1, _), (5, _), (6, _), (7, _), (8, _)] ⟨rfl, rfl, rfl, rfl, rfl, rfl, trivial⟩ ?_
  refine nm_thn ?_
  refine ws_seqN BraidActs_n7 BraidActs_n8 rfl rfl rfl ?_
  refine ws_region rfl ?_
  refine wl_op (k := 0) (k' := 1) rfl rfl rfl (wo_run rfl rfl (run_move rfl rfl) ?_)
  refine wl_op (k := 1) (k' := 2) rfl rfl rfl (wo_run rfl rfl (run_move rfl rfl) ?_)
  refine wl_op (k := 2) (k' := 3) rfl rfl rfl (wo_cq rfl rfl rfl rfl rfl rfl rfl cf10 S4 (WordsMay_q n l [] (hl.mono (Hp.le_un _ _)) RdA.nil_ ((by simp only [List.length_nil]; omega)) S4.lend) ?_)
  rintro _ w5 S5 rfl; clear S4
  refine wl_op (k := 3) (k' := 4) rfl rfl rfl (wo_run rfl rfl (run_assign rfl rfl) ?_)
  refine wl_end rfl ?_
  refine nm_sub [(0, _), (1, _), (5, _), (6, _), (7, _), (8, _), (9, _)] ⟨rfl, rfl, rfl, rfl, rfl, rfl, rfl, trivial⟩ ?_
  refine nm_thn ?_
  refine ws_seqN BraidActs_n9 BraidActs_n10 rfl rfl rfl ?_
  refine ws_seqN BraidActs_n11 BraidActs_n12 rfl rfl rfl ?_
  refine ws_region rfl ?_
  refine wl_op (k := 0) (k' := 1) rfl rfl rfl (wo_run rfl rfl (run_move rfl rfl) ?_)
  refine wl_op (k := 1) (k' := 2) rfl rfl rfl (wo_run rfl rfl (run_neq rfl rfl rfl) ?_)
  refine wl_end rfl ?_
  refine nm_sub [(0, _), (1, _), (5, _), (6, _), (7, _), (8, _), (9, _), (28, _)] ⟨rfl, rfl, rfl, rfl, rfl, rfl, rfl, rfl, trivial⟩ ?_
  refine nm_thn ?_
  refine ws_condN BraidActs_n13 BraidActs_n14 rfl rfl rfl rfl (fun hb28 => ?_) (fun hb28 => ?_)
  · have hb28 := of_decide_eq_true hb28
    have hmc := mayI_check n l
    have e1 : endsR n l = ([], checkI n [l]) := by unfold endsR; rw [if_neg (by omega)]
    have e2 : actR n l = ([], checkI n [l]) := by unfold actR; rw [if_neg (by omega)]
    refine ws_seqN BraidActs_n15 BraidActs_n16 rfl rfl rfl ?_
    refine ws_region rfl ?_
    refine wl_op (k := 0) (k' := 1) rfl rfl rfl (wo_run rfl rfl (run_move rfl rfl) ?_)
    refine wl_op (k := 1) (k' := 2) rfl rfl rfl (wo_run rfl rfl (run_move rfl rfl) ?_)
    refine wl_op (k := 2) (k' := 3) rfl rfl rfl (wo_run rfl rfl (run_eql rfl rfl rfl) ?_)
    refine wl_op (k := 3) (k' := 4) rfl rfl rfl (wo_run rfl rfl (run_move rfl rfl) ?_)
    refine wl_split (t := 32) rfl (fun hg32 => ?_) (fun hg32 => ?_)
    · have hg32 := of_decide_eq_true hg32
      refine wl_opG (k := 4) (k' := 5) rfl rfl ⟨_, _, _, rfl, rfl, rfl, rfl⟩ rfl (wo_run rfl rfl (run_move rfl rfl) ?_)
      refine wl_opG (k := 5) (k' := 6) rfl rfl ⟨_, _, _, rfl, rfl, rfl, rfl⟩ rfl (wo_run rfl rfl (run_move rfl rfl) ?_)
      refine wl_opG (k := 6) (k' := 7) rfl rfl ⟨_, _, _, rfl, rfl, rfl, rfl⟩ rfl (wo_run rfl rfl (run_eql rfl rfl rfl) ?_)
      refine wl_op (k := 7) (k' := 8) rfl rfl rfl (wo_run rfl rfl (run_pickT rfl rfl rfl) ?_)
      refine wl_op (k := 8) (k' := 9) rfl rfl rfl (wo_run rfl rfl (run_move rfl rfl) ?_)
      refine wl_split (t := 37) rfl (fun hg37 => ?_) (fun hg37 => ?_)
      · have hg37 := of_decide_eq_true hg37
        refine wl_opG (k := 9) (k' := 10) rfl rfl ⟨_, _, _, rfl, rfl, rfl, rfl⟩ rfl (wo_run rfl rfl (run_move rfl rfl) ?_)
        refine wl_opG (k := 10) (k' := 11) rfl rfl ⟨_, _, _, rfl, rfl, rfl, rfl⟩ rfl (wo_run rfl rfl (run_len rfl rfl rfl rfl rfl rfl Try.underlying22) ?_)
        refine wl_opG (k := 11) (k' := 12) rfl rfl ⟨_, _, _, rfl, rfl, rfl, rfl⟩ rfl (wo_run rfl rfl (run_eql rfl rfl rfl) ?_)
        refine wl_op (k := 12) (k' := 13) rfl rfl rfl (wo_run rfl rfl (run_pickT rfl rfl rfl) ?_)
        refine wl_op (k := 13) (k' := 14) rfl rfl rfl (wo_run rfl rfl (run_move rfl rfl) ?_)
        refine wl_split (t := 42) rfl (fun hg42 => ?_) (fun hg42 => ?_)
        · have hg42 := of_decide_eq_true hg42
          refine wl_opG (k := 14) (k' := 15) rfl rfl ⟨_, _, _, rfl, rfl, rfl, rfl⟩ rfl (wo_run rfl rfl (run_move rfl rfl) ?_)
          refine wl_opG (k := 15) (k' := 16) rfl rfl ⟨_, _, _, rfl, rfl, rfl, rfl⟩ rfl (wo_run rfl rfl (run_len rfl rfl rfl rfl rfl rfl Try.underlying27) ?_)
          refine wl_opG (k := 16) (k' := 17) rfl rfl ⟨_, _, _, rfl, rfl, rfl, rfl⟩ rfl (wo_run rfl rfl (run_eql rfl rfl rfl) ?_)
          refine wl_op (k := 17) (k' := 18) rfl rfl rfl (wo_run rfl rfl (run_pickT rfl rfl rfl) ?_)
          refine wl_op (k := 18) (k' := 19) rfl rfl rfl (wo_run rfl rfl (run_assign rfl rfl) ?_)
          refine wl_end rfl ?_
          refine nm_sub [(4, _)] ⟨rfl, trivial⟩ ?_
          refine nm_thn ?_
          refine ws_ret hC [_] rfl rfl ⟨rfl, trivial⟩ ?_
          refine ⟨_, rfl, _, ((hle1.trans hle2).trans hle3).trans hle4, (S5.pick [] [] (by decide) trivial), ?_⟩
          show Value.bool _ = _
          have hz := hd1.1
          rw [e2] at hz
          have hz2 : vs1.length = 0 := hz
          refine congrArg Value.bool ?_
          rw [decide_eq_true_iff]
          omega
        · have hg42 := of_decide_eq_false hg42
          exfalso; exact hg42 (by rw [e1]; rfl)
      · have hg37 := of_decide_eq_false hg37
        exfalso; exact hg37 (by rw [e2, hmc])
    · have hg32 := of_decide_eq_false hg32
      exfalso; exact hg32 (by rw [e1, hmc])
  · have hb28 := of_decide_eq_false hb28
    have hmc := mayI_check n l
    have hck : checkI n [l] = 0 := by omega
    obtain ⟨hn1, hn2, hwl, hwb⟩ := check_ok hck
    obtain ⟨m, hnm⟩ : ∃ m : Nat, n = (m : Int) := ⟨n.toNat, by omega⟩
    have hwb9 : ∀ i, i < l.length → 1 ≤ max (ga l i) (-(ga l i)) ∧ max (ga l i) (-(ga l i)) < (m : Int) := fun i hi => by rw [← hnm]; exact hwb i hi
    have e1 : endsR n l = ((endsP m l).drop 1, 0) := by unfold endsR; rw [if_pos hck, hnm]; rfl
    have e2 : actR n l = (actP m l, 0) := by unfold actR; rw [if_pos hck, hnm]; rfl
    refine ws_skip rfl ?_
    refine nm_sub [(0, _), (1, _), (5, _), (6, _), (7, _), (8, _)] ⟨rfl, rfl, rfl, rfl, rfl, rfl, trivial⟩ ?_
    refine nm_thn ?_
    refine ws_seqN BraidActs_n17 BraidActs_n18 rfl rfl rfl ?_
    refine ws_eq 0 (.int .i64 (m : Int)) rfl (int_eq hnm) ?_
    refine ws_region rfl ?_
    refine wl_op (k := 0) (k' := 1) rfl rfl rfl (wo_run rfl rfl (run_move rfl rfl) ?_)
    refine wl_op (k := 1) (k' := 2) rfl rfl rfl (wo_run rfl rfl (run_eql rfl rfl rfl) ?_)
    refine wl_op (k := 2) (k' := 3) rfl rfl rfl (wo_run rfl rfl (run_move rfl rfl) ?_)
    refine wl_split (t := 49) rfl (fun hg49 => ?_) (fun hg49 => ?_)
    · have hg49 := of_decide_eq_true hg49
      refine wl_opG (k := 3) (k' := 4) rfl rfl ⟨_, _, _, rfl, rfl, rfl, rfl⟩ rfl (wo_run rfl rfl (run_move rfl rfl) ?_)
      refine wl_opG (k := 4) (k' := 5) rfl rfl ⟨_, _, _, rfl, rfl, rfl, rfl⟩ rfl (wo_run rfl rfl (run_eql rfl rfl rfl) ?_)
      refine wl_op (k := 5) (k' := 6) rfl rfl rfl (wo_run rfl rfl (run_pickT rfl rfl rfl) ?_)
      refine wl_op (k := 6) (k' := 7) rfl rfl rfl (wo_run rfl rfl (run_move rfl rfl) ?_)
      refine wl_split (t := 53) rfl (fun hg53 => ?_) (fun hg53 => ?_)
      · have hg53 := of_decide_eq_true hg53
        refine wl_opG (k := 7) (k' := 8) rfl rfl ⟨_, _, _, rfl, rfl, rfl, rfl⟩ rfl (wo_run rfl rfl (run_move rfl rfl) ?_)
        refine wl_opG (k := 8) (k' := 9) rfl rfl ⟨_, _, _, rfl, rfl, rfl, rfl⟩ rfl (wo_run rfl rfl (run_move rfl rfl) ?_)
        refine wl_opG (k := 9) (k' := 10) rfl rfl ⟨_, _, _, rfl, rfl, rfl, rfl⟩ rfl (wo_run rfl rfl (run_move rfl rfl) ?_)
        refine wl_opG (k := 10) (k' := 11) rfl rfl ⟨_, _, _, rfl, rfl, rfl, rfl⟩ rfl (wo_ct rfl rfl rfl rfl rfl rfl rfl cf12 S5 (EndsOf_t m l (hl.mono (Hp.le_un _ _)) ((by omega)) ((by omega)) (hwb9) S5.lend) ?_)
        intro vw6 w6 M5 hle5 S6 hRw6; clear S5
        replace hl := hl.mono hle5
        replace hr1 := hr1.mono hle5
        replace hr2 := hr2.mono hle5
        replace hr3 := hr3.mono hle5
        replace hr4 := hr4.mono hle5
        replace hd1 := hd1.mono hle5
        obtain ⟨A5, c5, rfl, hr5⟩ := hRw6
        refine wl_opG (k := 11) (k' := 12) rfl rfl ⟨_, _, _, rfl, rfl, rfl, rfl⟩ rfl (wo_cq rfl rfl rfl rfl rfl rfl rfl cf11 S6 (sameInts_q ((endsR n l).1) (outP m (whoP m l) m) (hr2.mono (Hp.le_un _ _)) (hr5.mono (Hp.le_un _ _)) ((by rw [e1]; exact (ends_law hwb9).symm)) S6.lend) ?_)
        rintro _ w7 S7 rfl; clear S6
        refine wl_op (k := 12) (k' := 13) rfl rfl rfl (wo_run rfl rfl (run_pickT rfl rfl rfl) ?_)
        refine wl_op (k := 13) (k' := 14) rfl rfl rfl (wo_run rfl rfl (run_move rfl rfl) ?_)
        refine wl_opG (k := 14) (k' := 15) rfl rfl ⟨_, _, _, rfl, rfl, rfl, rfl⟩ rfl (wo_run rfl rfl (run_move rfl rfl) ?_)
        refine wl_opG (k := 15) (k' := 16) rfl rfl ⟨_, _, _, rfl, rfl, rfl, rfl⟩ rfl (wo_run rfl rfl (run_move rfl rfl) ?_)
        refine wl_opG (k := 16) (k' := 17) rfl rfl ⟨_, _, _, rfl, rfl, rfl, rfl⟩ rfl (wo_run rfl rfl (run_move rfl rfl) ?_)
        refine wl_opG (k := 17) (k' := 18) rfl rfl ⟨_, _, _, rfl, rfl, rfl, rfl⟩ rfl (wo_ct rfl rfl rfl rfl rfl rfl rfl cf14 S7 (ActOf_t m l (hl.mono (Hp.le_un _ _)) ((by omega)) ((by omega)) (hwb9) S7.lend) ?_)
        intro vw8 w8 M6 hle6 S8 hRw8; clear S7
        replace hl := hl.mono hle6
        replace hr1 := hr1.mono hle6
        replace hr2 := hr2.mono hle6
        replace hr3 := hr3.mono hle6
        replace hr4 := hr4.mono hle6
        replace hd1 := hd1.mono hle6
        replace hr5 := hr5.mono hle6
        obtain ⟨A6, c6, vs2, rfl, hr6, hd2⟩ := hRw8
        refine wl_opG (k := 18) (k' := 19) rfl rfl ⟨_, _, _, rfl, rfl, rfl, rfl⟩ rfl (wo_cq rfl rfl rfl rfl rfl rfl rfl cf13 S8 (sameTables_q ((actR n l).1) (actP m l) (hr4.mono (Hp.le_un _ _)) (hd1.mono (Hp.le_un _ _)) (hr6.mono (Hp.le_un _ _)) (hd2.mono (Hp.le_un _ _)) ((by rw [e2])) S8.lend) ?_)
        rintro _ w9 S9 rfl; clear S8
        refine wl_op (k := 19) (k' := 20) rfl rfl rfl (wo_run rfl rfl (run_pickT rfl rfl rfl) ?_)
        refine wl_op (k := 20) (k' := 21) rfl rfl rfl (wo_run rfl rfl (run_assign rfl rfl) ?_)
        refine wl_end rfl ?_
        refine nm_sub [(4, _)] ⟨rfl, trivial⟩ ?_
        refine nm_thn ?_
        refine ws_ret hC [_] rfl rfl ⟨rfl, trivial⟩ ?_
        refine ⟨_, rfl, _, ((((hle1.trans hle2).trans hle3).trans hle4).trans hle5).trans hle6, (S9.pick [] [] (by decide) trivial), ?_⟩
        show Value.bool _ = _
        rfl
      · have hg53 := of_decide_eq_false hg53
        exfalso; exact hg53 (by rw [e2])
    · have hg49 := of_decide_eq_false hg49
      exfalso; exact hg49 (by rw [e1])

end Go.Proofs.Ythfiblbkkjcliaa
