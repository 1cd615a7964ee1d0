/- Walks printed by eng.py. -/
import Derived.Test.YtkcighnochjlgaaM5
set_option linter.unusedSimpArgs false
set_option linter.unusedVariables false
namespace Go.Proofs.Ytkcighnochjlgaa
open Go.ChangeShapes Go.WideShapes Go.ChangeAt Go.RowKit
noncomputable def bothP_n0 : Code := Try.f59.body.getD .skip
noncomputable def bothP_n1 : Code := cL bothP_n0
noncomputable def bothP_n2 : Code := cR bothP_n0
noncomputable def bothP_n3 : Code := cL bothP_n2
noncomputable def bothP_n4 : Code := cR bothP_n2
noncomputable def bothP_n5 : Code := cL bothP_n3
noncomputable def bothP_n6 : Code := cR bothP_n3
noncomputable def bothP_n7 : Code := cL bothP_n6
noncomputable def bothP_n8 : Code := cR bothP_n6
noncomputable def bothP_n9 : Code := cL bothP_n7
noncomputable def bothP_n10 : Code := cR bothP_n7
noncomputable def bothP_n11 : Code := cL bothP_n4
noncomputable def bothP_n12 : Code := cR bothP_n4
set_option maxRecDepth 10000 in
theorem bothP_t {w : World} {M : Hp} {X : Fr} (a : List Tm) {aA : Option Addr} {ac : Nat} (b : List Tm) {bA : Option Addr} {bc : Nat} (ha : RdA cdTm M aA ac a) (hb : RdA cdTm M bA bc b) (S : SH w M X []) : Ct Try.prog 59 [.slice aA a.length ac, .slice bA b.length bc, .func (.func 60) #[] #[]] w M X (PTE (mayT a && mayT b) 1000 (mk (pr a) + mk (pr b))) := by
  unfold Ct
  have rmha : a.length * 16 ≤ 140737488355328 := ha.room
  have rmhb : b.length * 16 ≤ 140737488355328 := hb.room
  refine calls_in (b := bothP_n0) Try.func59 rfl Try.ntmps59 rfl (fun C hC => ?_)
  refine ws_sub [(0, _), (1, _), (2, _)] ⟨rfl, rfl, rfl, trivial⟩ ?_
  refine ws_seqN bothP_n1 bothP_n2 rfl rfl rfl ?_
  refine ws_region rfl ?_
  refine wl_op (k := 0) (k' := 1) rfl rfl rfl (wo_run rfl rfl (run_assign rfl rfl) ?_)
  refine wl_op (k := 1) (k' := 2) rfl rfl rfl (wo_run rfl rfl (run_assign rfl rfl) ?_)
  refine wl_end rfl ?_
  refine nm_sub [(0, _), (1, _), (2, _)] ⟨rfl, rfl, rfl, trivial⟩ ?_
  refine nm_thn ?_
  refine ws_seqN bothP_n3 bothP_n4 rfl rfl rfl ?_
  refine ws_seqN bothP_n5 bothP_n6 rfl rfl rfl ?_
  refine ws_region rfl ?_
  refine wl_op (k := 0) (k' := 1) rfl rfl rfl (wo_run rfl rfl (run_move rfl rfl) ?_)
  refine wl_op (k := 1) (k' := 2) rfl rfl rfl (wo_cq rfl rfl rfl rfl rfl rfl rfl cf63 S (May_q a (ha.mono (Hp.le_un _ _)) S.lend) ?_)
  rintro _ w1 S1 rfl; clear S
  refine wl_op (k := 2) (k' := 3) rfl rfl rfl (wo_run rfl rfl (run_not rfl rfl) ?_)
  refine wl_op (k := 3) (k' := 4) rfl rfl rfl (wo_run rfl rfl (run_move rfl rfl) ?_)
  refine wl_split (t := 11) rfl (fun hg11 => ?_) (fun hg11 => ?_)
  · simp only [Bool.and_eq_true, Bool.or_eq_true, Bool.and_eq_false_iff, Bool.or_eq_false_iff, decide_eq_true_eq, decide_eq_false_iff_not, Bool.not_eq_true', Bool.not_eq_false'] at hg11
    refine wl_no (k := 4) (k' := 5) (d := 12) rfl rfl ⟨_, _, _, rfl, rfl, rfl, rfl⟩ rfl rfl ?_
    refine wl_no (k := 5) (k' := 6) (d := 13) rfl rfl ⟨_, _, _, rfl, rfl, rfl, rfl⟩ rfl rfl ?_
    refine wl_no (k := 6) (k' := 7) (d := 14) rfl rfl ⟨_, _, _, rfl, rfl, rfl, rfl⟩ rfl rfl ?_
    refine wl_op (k := 7) (k' := 8) rfl rfl rfl (wo_run rfl rfl (run_pickT rfl rfl rfl) ?_)
    refine wl_end rfl ?_
    refine nm_sub [(0, _), (1, _), (2, _), (15, _)] ⟨rfl, rfl, rfl, rfl, trivial⟩ ?_
    refine nm_thn ?_
    refine ws_condTN bothP_n7 rfl rfl rfl ?_
    refine ws_seqN bothP_n9 bothP_n10 rfl rfl rfl ?_
    refine ws_region rfl ?_
    refine wl_op (k := 0) (k' := 1) rfl rfl rfl (wo_run rfl rfl (run_assign rfl rfl) ?_)
    refine wl_op (k := 1) (k' := 2) rfl rfl rfl (wo_run rfl rfl (run_assign rfl rfl) ?_)
    refine wl_end rfl ?_
    refine nm_sub [(6, _), (7, _)] ⟨rfl, rfl, trivial⟩ ?_
    refine nm_thn ?_
    refine ws_ret hC [_, _] rfl rfl ⟨rfl, rfl, trivial⟩ ?_
    refine ⟨_, rfl, _, Hp.le_refl _, (S1.pick [] [] (by decide) trivial), ?_⟩
    exact .inl ⟨by simp_all, rfl⟩
  · simp only [Bool.and_eq_true, Bool.or_eq_true, Bool.and_eq_false_iff, Bool.or_eq_false_iff, decide_eq_true_eq, decide_eq_false_iff_not, Bool.not_eq_true', Bool.not_eq_false'] at hg11
    refine wl_opG (k := 4) (k' := 5) rfl rfl ⟨_, _, _, rfl, rfl, rfl, rfl⟩ rfl (wo_run rfl rfl (run_move rfl rfl) ?_)
    refine wl_opG (k := 5) (k' := 6) rfl rfl ⟨_, _, _, rfl, rfl, rfl, rfl⟩ rfl (wo_cq rfl rfl rfl rfl rfl rfl rfl cf63 S1 (May_q b (hb.mono (Hp.le_un _ _)) S1.lend) ?_)
    rintro _ w2 S2 rfl; clear S1
    refine wl_opG (k := 6) (k' := 7) rfl rfl ⟨_, _, _, rfl, rfl, rfl, rfl⟩ rfl (wo_run rfl rfl (run_not rfl rfl) ?_)
    refine wl_op (k := 7) (k' := 8) rfl rfl rfl (wo_run rfl rfl (run_pickF rfl rfl rfl) ?_)
    refine wl_end rfl ?_
    refine nm_sub [(0, _), (1, _), (2, _), (15, _)] ⟨rfl, rfl, rfl, rfl, trivial⟩ ?_
    refine nm_thn ?_
    refine ws_condN bothP_n7 bothP_n8 rfl rfl rfl rfl (fun hb15 => ?_) (fun hb15 => ?_)
    · simp only [Bool.and_eq_true, Bool.or_eq_true, Bool.and_eq_false_iff, Bool.or_eq_false_iff, decide_eq_true_eq, decide_eq_false_iff_not, Bool.not_eq_true', Bool.not_eq_false'] at hb15
      refine ws_seqN bothP_n9 bothP_n10 rfl rfl rfl ?_
      refine ws_region rfl ?_
      refine wl_op (k := 0) (k' := 1) rfl rfl rfl (wo_run rfl rfl (run_assign rfl rfl) ?_)
      refine wl_op (k := 1) (k' := 2) rfl rfl rfl (wo_run rfl rfl (run_assign rfl rfl) ?_)
      refine wl_end rfl ?_
      refine nm_sub [(6, _), (7, _)] ⟨rfl, rfl, trivial⟩ ?_
      refine nm_thn ?_
      refine ws_ret hC [_, _] rfl rfl ⟨rfl, rfl, trivial⟩ ?_
      refine ⟨_, rfl, _, Hp.le_refl _, (S2.pick [] [] (by decide) trivial), ?_⟩
      exact .inl ⟨by simp_all, rfl⟩
    · simp only [Bool.and_eq_true, Bool.or_eq_true, Bool.and_eq_false_iff, Bool.or_eq_false_iff, decide_eq_true_eq, decide_eq_false_iff_not, Bool.not_eq_true', Bool.not_eq_false'] at hb15
      refine ws_skip rfl ?_
      refine nm_sub [(0, _), (1, _), (2, _)] ⟨rfl, rfl, rfl, trivial⟩ ?_
      refine nm_thn ?_
      refine ws_seqN bothP_n11 bothP_n12 rfl rfl rfl ?_
      have hma : mayT a = true := by simp_all
      have hmb : mayT b = true := by simp_all
      obtain ⟨hca, hba⟩ := may_can hma
      obtain ⟨hcb, hbb⟩ := may_can hmb
      refine ws_region rfl ?_
      refine wl_op (k := 0) (k' := 1) rfl rfl rfl (wo_run rfl rfl (run_move rfl rfl) ?_)
      refine wl_op (k := 1) (k' := 2) rfl rfl rfl (wo_run rfl rfl (run_move rfl rfl) ?_)
      refine wl_op (k := 2) (k' := 3) rfl rfl rfl (wo_ct rfl rfl rfl rfl rfl rfl rfl cf75 S2 (Of_t a (ha.mono (Hp.le_un _ _)) 1000 hba S2.lend) ?_)
      intro vw3 w3 M1 hle1 S3 hRw3; clear S2
      replace ha := ha.mono hle1
      replace hb := hb.mono hle1
      obtain ⟨gw1, rfl, hw1⟩ := hRw3
      refine wl_op (k := 3) (k' := 4) rfl rfl rfl (wo_run rfl rfl (run_move rfl rfl) ?_)
      refine wl_op (k := 4) (k' := 5) rfl rfl rfl (wo_ct rfl rfl rfl rfl rfl rfl rfl cf75 S3 (Of_t b (hb.mono (Hp.le_un _ _)) 1000 hbb S3.lend) ?_)
      intro vw4 w4 M2 hle2 S4 hRw4; clear S3
      replace ha := ha.mono hle2
      replace hb := hb.mono hle2
      replace hw1 := hw1.mono hle2
      obtain ⟨gw2, rfl, hw2⟩ := hRw4
      refine wl_op (k := 5) (k' := 6) rfl rfl rfl (wo_ct rfl rfl rfl rfl rfl rfl rfl cf60 S4 (PlusW_t hw1 hw2 1000 (by omega) (by omega) (by omega) S4.lend) ?_)
      intro vw5 w5 M3 hle3 S5 hRw5; clear S4
      replace ha := ha.mono hle3
      replace hb := hb.mono hle3
      replace hw1 := hw1.mono hle3
      replace hw2 := hw2.mono hle3
      obtain ⟨gw3, rfl, hw3⟩ := hRw5
      refine wl_op (k := 6) (k' := 7) rfl rfl rfl (wo_ct rfl rfl rfl rfl rfl rfl rfl cf65 S5 (FormW_t hw3 (by omega) S5.lend) ?_)
      intro vw6 w6 M4 hle4 S6 hRw6; clear S5
      replace ha := ha.mono hle4
      replace hb := hb.mono hle4
      replace hw1 := hw1.mono hle4
      replace hw2 := hw2.mono hle4
      replace hw3 := hw3.mono hle4
      obtain ⟨A1, c1, l1, rfl, hr1, hcan1, hbd1, hmk1⟩ := hRw6
      refine wl_op (k := 7) (k' := 8) rfl rfl rfl (wo_run rfl rfl (run_assign rfl rfl) ?_)
      refine wl_op (k := 8) (k' := 9) rfl rfl rfl (wo_run rfl rfl (run_assign rfl rfl) ?_)
      refine wl_end rfl ?_
      refine nm_sub [(6, _), (7, _)] ⟨rfl, rfl, trivial⟩ ?_
      refine nm_thn ?_
      refine ws_ret hC [_, _] rfl rfl ⟨rfl, rfl, trivial⟩ ?_
      refine ⟨_, rfl, _, ((hle1.trans hle2).trans hle3).trans hle4, (S6.pick [] [] (by decide) trivial), ?_⟩
      exact .inr ⟨by simp_all, _, _, _, rfl, hr1, hcan1, hbd1, hmk1⟩

noncomputable def bothT_n0 : Code := Try.f59.body.getD .skip
noncomputable def bothT_n1 : Code := cL bothT_n0
noncomputable def bothT_n2 : Code := cR bothT_n0
noncomputable def bothT_n3 : Code := cL bothT_n2
noncomputable def bothT_n4 : Code := cR bothT_n2
noncomputable def bothT_n5 : Code := cL bothT_n3
noncomputable def bothT_n6 : Code := cR bothT_n3
noncomputable def bothT_n7 : Code := cL bothT_n6
noncomputable def bothT_n8 : Code := cR bothT_n6
noncomputable def bothT_n9 : Code := cL bothT_n7
noncomputable def bothT_n10 : Code := cR bothT_n7
noncomputable def bothT_n11 : Code := cL bothT_n4
noncomputable def bothT_n12 : Code := cR bothT_n4
set_option maxRecDepth 10000 in
theorem bothT_t {w : World} {M : Hp} {X : Fr} (a : List Tm) {aA : Option Addr} {ac : Nat} (b : List Tm) {bA : Option Addr} {bc : Nat} (ha : RdA cdTm M aA ac a) (hb : RdA cdTm M bA bc b) (S : SH w M X []) : Ct Try.prog 59 [.slice aA a.length ac, .slice bA b.length bc, .func (.func 61) #[] #[]] w M X (PTE (mayT a && mayT b) (1000 + 1000) (mk (pr a) * mk (pr b))) := by
  unfold Ct
  have rmha : a.length * 16 ≤ 140737488355328 := ha.room
  have rmhb : b.length * 16 ≤ 140737488355328 := hb.room
  refine calls_in (b := bothT_n0) Try.func59 rfl Try.ntmps59 rfl (fun C hC => ?_)
  refine ws_sub [(0, _), (1, _), (2, _)] ⟨rfl, rfl, rfl, trivial⟩ ?_
  refine ws_seqN bothT_n1 bothT_n2 rfl rfl rfl ?_
  refine ws_region rfl ?_
  refine wl_op (k := 0) (k' := 1) rfl rfl rfl (wo_run rfl rfl (run_assign rfl rfl) ?_)
  refine wl_op (k := 1) (k' := 2) rfl rfl rfl (wo_run rfl rfl (run_assign rfl rfl) ?_)
  refine wl_end rfl ?_
  refine nm_sub [(0, _), (1, _), (2, _)] ⟨rfl, rfl, rfl, trivial⟩ ?_
  refine nm_thn ?_
  refine ws_seqN bothT_n3 bothT_n4 rfl rfl rfl ?_
  refine ws_seqN bothT_n5 bothT_n6 rfl rfl rfl ?_
  refine ws_region rfl ?_
  refine wl_op (k := 0) (k' := 1) rfl rfl rfl (wo_run rfl rfl (run_move rfl rfl) ?_)
  refine wl_op (k := 1) (k' := 2) rfl rfl rfl (wo_cq rfl rfl rfl rfl rfl rfl rfl cf63 S (May_q a (ha.mono (Hp.le_un _ _)) S.lend) ?_)
  rintro _ w1 S1 rfl; clear S
  refine wl_op (k := 2) (k' := 3) rfl rfl rfl (wo_run rfl rfl (run_not rfl rfl) ?_)
  refine wl_op (k := 3) (k' := 4) rfl rfl rfl (wo_run rfl rfl (run_move rfl rfl) ?_)
  refine wl_split (t := 11) rfl (fun hg11 => ?_) (fun hg11 => ?_)
  · simp only [Bool.and_eq_true, Bool.or_eq_true, Bool.and_eq_false_iff, Bool.or_eq_false_iff, decide_eq_true_eq, decide_eq_false_iff_not, Bool.not_eq_true', Bool.not_eq_false'] at hg11
    refine wl_no (k := 4) (k' := 5) (d := 12) rfl rfl ⟨_, _, _, rfl, rfl, rfl, rfl⟩ rfl rfl ?_
    refine wl_no (k := 5) (k' := 6) (d := 13) rfl rfl ⟨_, _, _, rfl, rfl, rfl, rfl⟩ rfl rfl ?_
    refine wl_no (k := 6) (k' := 7) (d := 14) rfl rfl ⟨_, _, _, rfl, rfl, rfl, rfl⟩ rfl rfl ?_
    refine wl_op (k := 7) (k' := 8) rfl rfl rfl (wo_run rfl rfl (run_pickT rfl rfl rfl) ?_)
    refine wl_end rfl ?_
    refine nm_sub [(0, _), (1, _), (2, _), (15, _)] ⟨rfl, rfl, rfl, rfl, trivial⟩ ?_
    refine nm_thn ?_
    refine ws_condTN bothT_n7 rfl rfl rfl ?_
    refine ws_seqN bothT_n9 bothT_n10 rfl rfl rfl ?_
    refine ws_region rfl ?_
    refine wl_op (k := 0) (k' := 1) rfl rfl rfl (wo_run rfl rfl (run_assign rfl rfl) ?_)
    refine wl_op (k := 1) (k' := 2) rfl rfl rfl (wo_run rfl rfl (run_assign rfl rfl) ?_)
    refine wl_end rfl ?_
    refine nm_sub [(6, _), (7, _)] ⟨rfl, rfl, trivial⟩ ?_
    refine nm_thn ?_
    refine ws_ret hC [_, _] rfl rfl ⟨rfl, rfl, trivial⟩ ?_
    refine ⟨_, rfl, _, Hp.le_refl _, (S1.pick [] [] (by decide) trivial), ?_⟩
    exact .inl ⟨by simp_all, rfl⟩
  · simp only [Bool.and_eq_true, Bool.or_eq_true, Bool.and_eq_false_iff, Bool.or_eq_false_iff, decide_eq_true_eq, decide_eq_false_iff_not, Bool.not_eq_true', Bool.not_eq_false'] at hg11
    refine wl_opG (k := 4) (k' := 5) rfl rfl ⟨_, _, _, rfl, rfl, rfl, rfl⟩ rfl (wo_run rfl rfl (run_move rfl rfl) ?_)
    refine wl_opG (k := 5) (k' := 6) rfl rfl ⟨_, _, _, rfl, rfl, rfl, rfl⟩ rfl (wo_cq rfl rfl rfl rfl rfl rfl rfl cf63 S1 (May_q b (hb.mono (Hp.le_un _ _)) S1.lend) ?_)
    rintro _ w2 S2 rfl; clear S1
    refine wl_opG (k := 6) (k' := 7) rfl rfl ⟨_, _, _, rfl, rfl, rfl, rfl⟩ rfl (wo_run rfl rfl (run_not rfl rfl) ?_)
    refine wl_op (k := 7) (k' := 8) rfl rfl rfl (wo_run rfl rfl (run_pickF rfl rfl rfl) ?_)
    refine wl_end rfl ?_
    refine nm_sub [(0, _), (1, _), (2, _), (15, _)] ⟨rfl, rfl, rfl, rfl, trivial⟩ ?_
    refine nm_thn ?_
    refine ws_condN bothT_n7 bothT_n8 rfl rfl rfl rfl (fun hb15 => ?_) (fun hb15 => ?_)
    · simp only [Bool.and_eq_true, Bool.or_eq_true, Bool.and_eq_false_iff, Bool.or_eq_false_iff, decide_eq_true_eq, decide_eq_false_iff_not, Bool.not_eq_true', Bool.not_eq_false'] at hb15
      refine ws_seqN bothT_n9 bothT_n10 rfl rfl rfl ?_
      refine ws_region rfl ?_
      refine wl_op (k := 0) (k' := 1) rfl rfl rfl (wo_run rfl rfl (run_assign rfl rfl) ?_)
      refine wl_op (k := 1) (k' := 2) rfl rfl rfl (wo_run rfl rfl (run_assign rfl rfl) ?_)
      refine wl_end rfl ?_
      refine nm_sub [(6, _), (7, _)] ⟨rfl, rfl, trivial⟩ ?_
      refine nm_thn ?_
      refine ws_ret hC [_, _] rfl rfl ⟨rfl, rfl, trivial⟩ ?_
      refine ⟨_, rfl, _, Hp.le_refl _, (S2.pick [] [] (by decide) trivial), ?_⟩
      exact .inl ⟨by simp_all, rfl⟩
    · simp only [Bool.and_eq_true, Bool.or_eq_true, Bool.and_eq_false_iff, Bool.or_eq_false_iff, decide_eq_true_eq, decide_eq_false_iff_not, Bool.not_eq_true', Bool.not_eq_false'] at hb15
      refine ws_skip rfl ?_
      refine nm_sub [(0, _), (1, _), (2, _)] ⟨rfl, rfl, rfl, trivial⟩ ?_
      refine nm_thn ?_
      refine ws_seqN bothT_n11 bothT_n12 rfl rfl rfl ?_
      have hma : mayT a = true := by simp_all
      have hmb : mayT b = true := by simp_all
      obtain ⟨hca, hba⟩ := may_can hma
      obtain ⟨hcb, hbb⟩ := may_can hmb
      refine ws_region rfl ?_
      refine wl_op (k := 0) (k' := 1) rfl rfl rfl (wo_run rfl rfl (run_move rfl rfl) ?_)
      refine wl_op (k := 1) (k' := 2) rfl rfl rfl (wo_run rfl rfl (run_move rfl rfl) ?_)
      refine wl_op (k := 2) (k' := 3) rfl rfl rfl (wo_ct rfl rfl rfl rfl rfl rfl rfl cf75 S2 (Of_t a (ha.mono (Hp.le_un _ _)) 1000 hba S2.lend) ?_)
      intro vw3 w3 M1 hle1 S3 hRw3; clear S2
      replace ha := ha.mono hle1
      replace hb := hb.mono hle1
      obtain ⟨gw1, rfl, hw1⟩ := hRw3
      refine wl_op (k := 3) (k' := 4) rfl rfl rfl (wo_run rfl rfl (run_move rfl rfl) ?_)
      refine wl_op (k := 4) (k' := 5) rfl rfl rfl (wo_ct rfl rfl rfl rfl rfl rfl rfl cf75 S3 (Of_t b (hb.mono (Hp.le_un _ _)) 1000 hbb S3.lend) ?_)
      intro vw4 w4 M2 hle2 S4 hRw4; clear S3
      replace ha := ha.mono hle2
      replace hb := hb.mono hle2
      replace hw1 := hw1.mono hle2
      obtain ⟨gw2, rfl, hw2⟩ := hRw4
      refine wl_op (k := 5) (k' := 6) rfl rfl rfl (wo_ct rfl rfl rfl rfl rfl rfl rfl cf61 S4 (TimesW_t hw1 hw2 (by omega) S4.lend) ?_)
      intro vw5 w5 M3 hle3 S5 hRw5; clear S4
      replace ha := ha.mono hle3
      replace hb := hb.mono hle3
      replace hw1 := hw1.mono hle3
      replace hw2 := hw2.mono hle3
      obtain ⟨gw3, rfl, hw3⟩ := hRw5
      refine wl_op (k := 6) (k' := 7) rfl rfl rfl (wo_ct rfl rfl rfl rfl rfl rfl rfl cf65 S5 (FormW_t hw3 (by omega) S5.lend) ?_)
      intro vw6 w6 M4 hle4 S6 hRw6; clear S5
      replace ha := ha.mono hle4
      replace hb := hb.mono hle4
      replace hw1 := hw1.mono hle4
      replace hw2 := hw2.mono hle4
      replace hw3 := hw3.mono hle4
      obtain ⟨A1, c1, l1, rfl, hr1, hcan1, hbd1, hmk1⟩ := hRw6
      refine wl_op (k := 7) (k' := 8) rfl rfl rfl (wo_run rfl rfl (run_assign rfl rfl) ?_)
      refine wl_op (k := 8) (k' := 9) rfl rfl rfl (wo_run rfl rfl (run_assign rfl rfl) ?_)
      refine wl_end rfl ?_
      refine nm_sub [(6, _), (7, _)] ⟨rfl, rfl, trivial⟩ ?_
      refine nm_thn ?_
      refine ws_ret hC [_, _] rfl rfl ⟨rfl, rfl, trivial⟩ ?_
      refine ⟨_, rfl, _, ((hle1.trans hle2).trans hle3).trans hle4, (S6.pick [] [] (by decide) trivial), ?_⟩
      exact .inr ⟨by simp_all, _, _, _, rfl, hr1, hcan1, hbd1, hmk1⟩

noncomputable def Add_n0 : Code := Try.f13.body.getD .skip
noncomputable def Add_n1 : Code := cL Add_n0
noncomputable def Add_n2 : Code := cR Add_n0
noncomputable def Add_n3 : Code := cL Add_n2
noncomputable def Add_n4 : Code := cR Add_n2
set_option maxRecDepth 10000 in
theorem Add_t {w : World} {M : Hp} {X : Fr} (a : List Tm) {aA : Option Addr} {ac : Nat} (b : List Tm) {bA : Option Addr} {bc : Nat} (ha : RdA cdTm M aA ac a) (hb : RdA cdTm M bA bc b) (S : SH w M X []) : Ct Try.prog 13 [.slice aA a.length ac, .slice bA b.length bc] w M X (PTE (mayT a && mayT b) 1000 (mk (pr a) + mk (pr b))) := by
  unfold Ct
  have rmha : a.length * 16 ≤ 140737488355328 := ha.room
  have rmhb : b.length * 16 ≤ 140737488355328 := hb.room
  refine calls_in (b := Add_n0) Try.func13 rfl Try.ntmps13 rfl (fun C hC => ?_)
  refine ws_sub [(0, _), (1, _)] ⟨rfl, rfl, trivial⟩ ?_
  refine ws_seqN Add_n1 Add_n2 rfl rfl rfl ?_
  refine ws_region rfl ?_
  refine wl_op (k := 0) (k' := 1) rfl rfl rfl (wo_run rfl rfl (run_assign rfl rfl) ?_)
  refine wl_op (k := 1) (k' := 2) rfl rfl rfl (wo_run rfl rfl (run_assign rfl rfl) ?_)
  refine wl_end rfl ?_
  refine nm_sub [(0, _), (1, _)] ⟨rfl, rfl, trivial⟩ ?_
  refine nm_thn ?_
  refine ws_seqN Add_n3 Add_n4 rfl rfl rfl ?_
  refine ws_region rfl ?_
  refine wl_op (k := 0) (k' := 1) rfl rfl rfl (wo_run rfl rfl (run_move rfl rfl) ?_)
  refine wl_op (k := 1) (k' := 2) rfl rfl rfl (wo_run rfl rfl (run_move rfl rfl) ?_)
  refine wl_op (k := 2) (k' := 3) rfl rfl rfl (wo_ct rfl rfl rfl rfl rfl rfl rfl cf59 S (bothP_t a b ha hb S.lend) ?_)
  intro vw1 w1 M1 hle1 S1 hRw1; clear S
  replace ha := ha.mono hle1
  replace hb := hb.mono hle1
  rcases hRw1 with ⟨ok1, rfl⟩ | ⟨ok1, A1, c1, l1, rfl, hr1, hcan1, hbd1, hmk1⟩
  · refine wl_op (k := 3) (k' := 4) rfl rfl rfl (wo_run rfl rfl (run_extract rfl rfl rfl) ?_)
    refine wl_op (k := 4) (k' := 5) rfl rfl rfl (wo_run rfl rfl (run_extract rfl rfl rfl) ?_)
    refine wl_op (k := 5) (k' := 6) rfl rfl rfl (wo_run rfl rfl (run_assign rfl rfl) ?_)
    refine wl_op (k := 6) (k' := 7) rfl rfl rfl (wo_run rfl rfl (run_assign rfl rfl) ?_)
    refine wl_end rfl ?_
    refine nm_sub [(4, _), (5, _)] ⟨rfl, rfl, trivial⟩ ?_
    refine nm_thn ?_
    refine ws_ret hC [_, _] rfl rfl ⟨rfl, rfl, trivial⟩ ?_
    refine ⟨_, rfl, _, hle1, (S1.pick [] [] (by decide) trivial), ?_⟩
    exact .inl ⟨ok1, rfl⟩
  · refine wl_op (k := 3) (k' := 4) rfl rfl rfl (wo_run rfl rfl (run_extract rfl rfl rfl) ?_)
    refine wl_op (k := 4) (k' := 5) rfl rfl rfl (wo_run rfl rfl (run_extract rfl rfl rfl) ?_)
    refine wl_op (k := 5) (k' := 6) rfl rfl rfl (wo_run rfl rfl (run_assign rfl rfl) ?_)
    refine wl_op (k := 6) (k' := 7) rfl rfl rfl (wo_run rfl rfl (run_assign rfl rfl) ?_)
    refine wl_end rfl ?_
    refine nm_sub [(4, _), (5, _)] ⟨rfl, rfl, trivial⟩ ?_
    refine nm_thn ?_
    refine ws_ret hC [_, _] rfl rfl ⟨rfl, rfl, trivial⟩ ?_
    refine ⟨_, rfl, _, hle1, (S1.pick [] [] (by decide) trivial), ?_⟩
    exact .inr ⟨ok1, _, _, _, rfl, hr1, hcan1, hbd1, hmk1⟩

noncomputable def Mul_n0 : Code := Try.f15.body.getD .skip
noncomputable def Mul_n1 : Code := cL Mul_n0
noncomputable def Mul_n2 : Code := cR Mul_n0
noncomputable def Mul_n3 : Code := cL Mul_n2
noncomputable def Mul_n4 : Code := cR Mul_n2
set_option maxRecDepth 10000 in
theorem Mul_t {w : World} {M : Hp} {X : Fr} (a : List Tm) {aA : Option Addr} {ac : Nat} (b : List Tm) {bA : Option Addr} {bc : Nat} (ha : RdA cdTm M aA ac a) (hb : RdA cdTm M bA bc b) (S : SH w M X []) : Ct Try.prog 15 [.slice aA a.length ac, .slice bA b.length bc] w M X (PTE (mayT a && mayT b) (1000 + 1000) (mk (pr a) * mk (pr b))) := by
  unfold Ct
  have rmha : a.length * 16 ≤ 140737488355328 := ha.room
  have rmhb : b.length * 16 ≤ 140737488355328 := hb.room
  refine calls_in (b := Mul_n0) Try.func15 rfl Try.ntmps15 rfl (fun C hC => ?_)
  refine ws_sub [(0, _), (1, _)] ⟨rfl, rfl, trivial⟩ ?_
  refine ws_seqN Mul_n1 Mul_n2 rfl rfl rfl ?_
  refine ws_region rfl ?_
  refine wl_op (k := 0) (k' := 1) rfl rfl rfl (wo_run rfl rfl (run_assign rfl rfl) ?_)
  refine wl_op (k := 1) (k' := 2) rfl rfl rfl (wo_run rfl rfl (run_assign rfl rfl) ?_)
  refine wl_end rfl ?_
  refine nm_sub [(0, _), (1, _)] ⟨rfl, rfl, trivial⟩ ?_
  refine nm_thn ?_
  refine ws_seqN Mul_n3 Mul_n4 rfl rfl rfl ?_
  refine ws_region rfl ?_
  refine wl_op (k := 0) (k' := 1) rfl rfl rfl (wo_run rfl rfl (run_move rfl rfl) ?_)
  refine wl_op (k := 1) (k' := 2) rfl rfl rfl (wo_run rfl rfl (run_move rfl rfl) ?_)
  refine wl_op (k := 2) (k' := 3) rfl rfl rfl (wo_ct rfl rfl rfl rfl rfl rfl rfl cf59 S (bothT_t a b ha hb S.lend) ?_)
  intro vw1 w1 M1 hle1 S1 hRw1; clear S
  replace ha := ha.mono hle1
  replace hb := hb.mono hle1
  rcases hRw1 with ⟨ok1, rfl⟩ | ⟨ok1, A1, c1, l1, rfl, hr1, hcan1, hbd1, hmk1⟩
  · refine wl_op (k := 3) (k' := 4) rfl rfl rfl (wo_run rfl rfl (run_extract rfl rfl rfl) ?_)
    refine wl_op (k := 4) (k' := 5) rfl rfl rfl (wo_run rfl rfl (run_extract rfl rfl rfl) ?_)
    refine wl_op (k := 5) (k' := 6) rfl rfl rfl (wo_run rfl rfl (run_assign rfl rfl) ?_)
    refine wl_op (k := 6) (k' := 7) rfl rfl rfl (wo_run rfl rfl (run_assign rfl rfl) ?_)
    refine wl_end rfl ?_
    refine nm_sub [(4, _), (5, _)] ⟨rfl, rfl, trivial⟩ ?_
    refine nm_thn ?_
    refine ws_ret hC [_, _] rfl rfl ⟨rfl, rfl, trivial⟩ ?_
    refine ⟨_, rfl, _, hle1, (S1.pick [] [] (by decide) trivial), ?_⟩
    exact .inl ⟨ok1, rfl⟩
  · refine wl_op (k := 3) (k' := 4) rfl rfl rfl (wo_run rfl rfl (run_extract rfl rfl rfl) ?_)
    refine wl_op (k := 4) (k' := 5) rfl rfl rfl (wo_run rfl rfl (run_extract rfl rfl rfl) ?_)
    refine wl_op (k := 5) (k' := 6) rfl rfl rfl (wo_run rfl rfl (run_assign rfl rfl) ?_)
    refine wl_op (k := 6) (k' := 7) rfl rfl rfl (wo_run rfl rfl (run_assign rfl rfl) ?_)
    refine wl_end rfl ?_
    refine nm_sub [(4, _), (5, _)] ⟨rfl, rfl, trivial⟩ ?_
    refine nm_thn ?_
    refine ws_ret hC [_, _] rfl rfl ⟨rfl, rfl, trivial⟩ ?_
    refine ⟨_, rfl, _, hle1, (S1.pick [] [] (by decide) trivial), ?_⟩
    exact .inr ⟨ok1, _, _, _, rfl, hr1, hcan1, hbd1, hmk1⟩

noncomputable def PolySums_n0 : Code := Try.f3.body.getD .skip
noncomputable def PolySums_n1 : Code := cL PolySums_n0
noncomputable def PolySums_n2 : Code := cR PolySums_n0
noncomputable def PolySums_n3 : Code := cL PolySums_n2
noncomputable def PolySums_n4 : Code := cR PolySums_n2
noncomputable def PolySums_n5 : Code := cL PolySums_n4
noncomputable def PolySums_n6 : Code := cR PolySums_n4
noncomputable def PolySums_n7 : Code := cL PolySums_n6
noncomputable def PolySums_n8 : Code := cR PolySums_n6
noncomputable def PolySums_n9 : Code := cL PolySums_n7
noncomputable def PolySums_n10 : Code := cR PolySums_n7
noncomputable def PolySums_n11 : Code := cL PolySums_n10
noncomputable def PolySums_n12 : Code := cR PolySums_n10
noncomputable def PolySums_n13 : Code := cL PolySums_n11
noncomputable def PolySums_n14 : Code := cR PolySums_n11
noncomputable def PolySums_n15 : Code := cL PolySums_n8
noncomputable def PolySums_n16 : Code := cR PolySums_n8
set_option maxHeartbeats 1000000 in
set_option maxRecDepth 10000 in
theorem PolySums_t {w : World} {M : Hp} {X : Fr} (a : List Tm) {aA : Option Addr} {ac : Nat} (b : List Tm) {bA : Option Addr} {bc : Nat} (ha : RdA cdTm M aA ac a) (hb : RdA cdTm M bA bc b) (S : SH w M X []) : Ct Try.prog 3 [.slice aA a.length ac, .slice bA b.length bc] w M X (fun u _ => u = .bool true) := by
  unfold Ct
  have rmha : a.length * 16 ≤ 140737488355328 := ha.room
  have rmhb : b.length * 16 ≤ 140737488355328 := hb.room
  refine calls_in (b := PolySums_n0) Try.func3 rfl Try.ntmps3 rfl (fun C hC => ?_)
  refine ws_sub [(0, _), (1, _)] ⟨rfl, rfl, trivial⟩ ?_
  refine ws_seqN PolySums_n1 PolySums_n2 rfl rfl rfl ?_
  refine ws_region rfl ?_
  refine wl_op (k := 0) (k' := 1) rfl rfl rfl (wo_run rfl rfl (run_assign rfl rfl) ?_)
  refine wl_end rfl ?_
  refine nm_sub [(0, _), (1, _)] ⟨rfl, rfl, trivial⟩ ?_
  refine nm_thn ?_
  refine ws_seqN PolySums_n3 PolySums_n4 rfl rfl rfl ?_
  refine ws_region rfl ?_
  refine wl_op (k := 0) (k' := 1) rfl rfl rfl (wo_run rfl rfl (run_move rfl rfl) ?_)
  refine wl_op (k := 1) (k' := 2) rfl rfl rfl (wo_ct rfl rfl rfl rfl rfl rfl rfl cf14 S (terms_t a (ha.mono (Hp.le_un _ _)) S.lend) ?_)
  intro vw1 w1 M1 hle1 S1 hRw1; clear S
  replace ha := ha.mono hle1
  replace hb := hb.mono hle1
  obtain ⟨A1, c1, rfl, hr1⟩ := hRw1
  refine wl_op (k := 2) (k' := 3) rfl rfl rfl (wo_run rfl rfl (run_move rfl rfl) ?_)
  refine wl_op (k := 3) (k' := 4) rfl rfl rfl (wo_ct rfl rfl rfl rfl rfl rfl rfl cf14 S1 (terms_t b (hb.mono (Hp.le_un _ _)) S1.lend) ?_)
  intro vw2 w2 M2 hle2 S2 hRw2; clear S1
  replace ha := ha.mono hle2
  replace hb := hb.mono hle2
  replace hr1 := hr1.mono hle2
  obtain ⟨A2, c2, rfl, hr2⟩ := hRw2
  refine wl_op (k := 4) (k' := 5) rfl rfl rfl (wo_ct rfl rfl rfl rfl rfl rfl rfl cf13 S2 (Add_t a b hr1 hr2 S2.lend) ?_)
  intro vw3 w3 M3 hle3 S3 hRw3; clear S2
  replace ha := ha.mono hle3
  replace hb := hb.mono hle3
  replace hr1 := hr1.mono hle3
  replace hr2 := hr2.mono hle3
  rcases hRw3 with ⟨ok1, rfl⟩ | ⟨ok1, A3, c3, l1, rfl, hr3, hcan1, hbd1, hmk1⟩
  · refine wl_op (k := 5) (k' := 6) rfl rfl rfl (wo_run rfl rfl (run_move rfl rfl) ?_)
    refine wl_op (k := 6) (k' := 7) rfl rfl rfl (wo_run rfl rfl (run_extract rfl rfl rfl) ?_)
    refine wl_op (k := 7) (k' := 8) rfl rfl rfl (wo_run rfl rfl (run_extract rfl rfl rfl) ?_)
    refine wl_op (k := 8) (k' := 9) rfl rfl rfl (wo_run rfl rfl (run_assign rfl rfl) ?_)
    refine wl_op (k := 9) (k' := 10) rfl rfl rfl (wo_run rfl rfl (run_assign rfl rfl) ?_)
    refine wl_end rfl ?_
    refine nm_sub [(0, _), (1, _), (5, _), (6, _)] ⟨rfl, rfl, rfl, rfl, trivial⟩ ?_
    refine nm_thn ?_
    refine ws_seqN PolySums_n5 PolySums_n6 rfl rfl rfl ?_
    refine ws_region rfl ?_
    refine wl_op (k := 0) (k' := 1) rfl rfl rfl (wo_run rfl rfl (run_move rfl rfl) ?_)
    refine wl_op (k := 1) (k' := 2) rfl rfl rfl (wo_ct rfl rfl rfl rfl rfl rfl rfl cf14 S3 (terms_t a (ha.mono (Hp.le_un _ _)) S3.lend) ?_)
    intro vw4 w4 M4 hle4 S4 hRw4; clear S3
    replace ha := ha.mono hle4
    replace hb := hb.mono hle4
    replace hr1 := hr1.mono hle4
    replace hr2 := hr2.mono hle4
    obtain ⟨A4, c4, rfl, hr4⟩ := hRw4
    refine wl_op (k := 2) (k' := 3) rfl rfl rfl (wo_run rfl rfl (run_move rfl rfl) ?_)
    refine wl_op (k := 3) (k' := 4) rfl rfl rfl (wo_ct rfl rfl rfl rfl rfl rfl rfl cf14 S4 (terms_t b (hb.mono (Hp.le_un _ _)) S4.lend) ?_)
    intro vw5 w5 M5 hle5 S5 hRw5; clear S4
    replace ha := ha.mono hle5
    replace hb := hb.mono hle5
    replace hr1 := hr1.mono hle5
    replace hr2 := hr2.mono hle5
    replace hr4 := hr4.mono hle5
    obtain ⟨A5, c5, rfl, hr5⟩ := hRw5
    refine wl_op (k := 4) (k' := 5) rfl rfl rfl (wo_ct rfl rfl rfl rfl rfl rfl rfl cf15 S5 (Mul_t a b hr4 hr5 S5.lend) ?_)
    intro vw6 w6 M6 hle6 S6 hRw6; clear S5
    replace ha := ha.mono hle6
    replace hb := hb.mono hle6
    replace hr1 := hr1.mono hle6
    replace hr2 := hr2.mono hle6
    replace hr4 := hr4.mono hle6
    replace hr5 := hr5.mono hle6
    rcases hRw6 with ⟨ok2, rfl⟩ | ⟨ok2, A6, c6, l2, rfl, hr6, hcan2, hbd2, hmk2⟩
    · refine wl_op (k := 5) (k' := 6) rfl rfl rfl (wo_run rfl rfl (run_move rfl rfl) ?_)
      refine wl_op (k := 6) (k' := 7) rfl rfl rfl (wo_run rfl rfl (run_extract rfl rfl rfl) ?_)
      refine wl_op (k := 7) (k' := 8) rfl rfl rfl (wo_run rfl rfl (run_extract rfl rfl rfl) ?_)
      refine wl_op (k := 8) (k' := 9) rfl rfl rfl (wo_run rfl rfl (run_assign rfl rfl) ?_)
      refine wl_op (k := 9) (k' := 10) rfl rfl rfl (wo_run rfl rfl (run_assign rfl rfl) ?_)
      refine wl_end rfl ?_
      refine nm_sub [(0, _), (1, _), (5, _), (6, _), (7, _), (8, _)] ⟨rfl, rfl, rfl, rfl, rfl, rfl, trivial⟩ ?_
      refine nm_thn ?_
      refine ws_seqN PolySums_n7 PolySums_n8 rfl rfl rfl ?_
      refine ws_seqN PolySums_n9 PolySums_n10 rfl rfl rfl ?_
      refine ws_region rfl ?_
      refine wl_op (k := 0) (k' := 1) rfl rfl rfl (wo_run rfl rfl (run_move rfl rfl) ?_)
      refine wl_op (k := 1) (k' := 2) rfl rfl rfl (wo_cq rfl rfl rfl rfl rfl rfl rfl cf16 S6 (PolyMay_q a (ha.mono (Hp.le_un _ _)) S6.lend) ?_)
      rintro _ w7 S7 rfl; clear S6
      refine wl_op (k := 2) (k' := 3) rfl rfl rfl (wo_run rfl rfl (run_not rfl rfl) ?_)
      refine wl_op (k := 3) (k' := 4) rfl rfl rfl (wo_run rfl rfl (run_move rfl rfl) ?_)
      refine wl_split (t := 28) rfl (fun hg28 => ?_) (fun hg28 => ?_)
      · simp only [Bool.and_eq_true, Bool.or_eq_true, Bool.and_eq_false_iff, Bool.or_eq_false_iff, decide_eq_true_eq, decide_eq_false_iff_not, Bool.not_eq_true', Bool.not_eq_false'] at hg28
        refine wl_no (k := 4) (k' := 5) (d := 29) rfl rfl ⟨_, _, _, rfl, rfl, rfl, rfl⟩ rfl rfl ?_
        refine wl_no (k := 5) (k' := 6) (d := 30) rfl rfl ⟨_, _, _, rfl, rfl, rfl, rfl⟩ rfl rfl ?_
        refine wl_no (k := 6) (k' := 7) (d := 31) rfl rfl ⟨_, _, _, rfl, rfl, rfl, rfl⟩ rfl rfl ?_
        refine wl_op (k := 7) (k' := 8) rfl rfl rfl (wo_run rfl rfl (run_pickT rfl rfl rfl) ?_)
        refine wl_end rfl ?_
        refine nm_sub [(0, _), (1, _), (5, _), (6, _), (7, _), (8, _), (32, _)] ⟨rfl, rfl, rfl, rfl, rfl, rfl, rfl, trivial⟩ ?_
        refine nm_thn ?_
        refine ws_condTN PolySums_n11 rfl rfl rfl ?_
        refine ws_seqN PolySums_n13 PolySums_n14 rfl rfl rfl ?_
        refine ws_region rfl ?_
        refine wl_op (k := 0) (k' := 1) rfl rfl rfl (wo_run rfl rfl (run_move rfl rfl) ?_)
        refine wl_op (k := 1) (k' := 2) rfl rfl rfl (wo_run rfl rfl (run_eql rfl rfl rfl) ?_)
        refine wl_op (k := 2) (k' := 3) rfl rfl rfl (wo_run rfl rfl (run_move rfl rfl) ?_)
        refine wl_split (t := 35) rfl (fun hg35 => ?_) (fun hg35 => ?_)
        · have hg35 := of_decide_eq_true hg35
          refine wl_opG (k := 3) (k' := 4) rfl rfl ⟨_, _, _, rfl, rfl, rfl, rfl⟩ rfl (wo_run rfl rfl (run_move rfl rfl) ?_)
          refine wl_opG (k := 4) (k' := 5) rfl rfl ⟨_, _, _, rfl, rfl, rfl, rfl⟩ rfl (wo_run rfl rfl (run_eql rfl rfl rfl) ?_)
          refine wl_op (k := 5) (k' := 6) rfl rfl rfl (wo_run rfl rfl (run_pickT rfl rfl rfl) ?_)
          refine wl_op (k := 6) (k' := 7) rfl rfl rfl (wo_run rfl rfl (run_move rfl rfl) ?_)
          refine wl_split (t := 39) rfl (fun hg39 => ?_) (fun hg39 => ?_)
          · have hg39 := of_decide_eq_true hg39
            refine wl_opG (k := 7) (k' := 8) rfl rfl ⟨_, _, _, rfl, rfl, rfl, rfl⟩ rfl (wo_run rfl rfl (run_move rfl rfl) ?_)
            refine wl_opG (k := 8) (k' := 9) rfl rfl ⟨_, _, _, rfl, rfl, rfl, rfl⟩ rfl (wo_run rfl rfl (run_len rfl rfl rfl rfl rfl rfl Try.underlying22) ?_)
            refine wl_opG (k := 9) (k' := 10) rfl rfl ⟨_, _, _, rfl, rfl, rfl, rfl⟩ rfl (wo_run rfl rfl (run_eql rfl rfl rfl) ?_)
            refine wl_op (k := 10) (k' := 11) rfl rfl rfl (wo_run rfl rfl (run_pickT rfl rfl rfl) ?_)
            refine wl_op (k := 11) (k' := 12) rfl rfl rfl (wo_run rfl rfl (run_move rfl rfl) ?_)
            refine wl_split (t := 44) rfl (fun hg44 => ?_) (fun hg44 => ?_)
            · have hg44 := of_decide_eq_true hg44
              refine wl_opG (k := 12) (k' := 13) rfl rfl ⟨_, _, _, rfl, rfl, rfl, rfl⟩ rfl (wo_run rfl rfl (run_move rfl rfl) ?_)
              refine wl_opG (k := 13) (k' := 14) rfl rfl ⟨_, _, _, rfl, rfl, rfl, rfl⟩ rfl (wo_run rfl rfl (run_len rfl rfl rfl rfl rfl rfl Try.underlying22) ?_)
              refine wl_opG (k := 14) (k' := 15) rfl rfl ⟨_, _, _, rfl, rfl, rfl, rfl⟩ rfl (wo_run rfl rfl (run_eql rfl rfl rfl) ?_)
              refine wl_op (k := 15) (k' := 16) rfl rfl rfl (wo_run rfl rfl (run_pickT rfl rfl rfl) ?_)
              refine wl_op (k := 16) (k' := 17) rfl rfl rfl (wo_run rfl rfl (run_assign rfl rfl) ?_)
              refine wl_end rfl ?_
              refine nm_sub [(4, _)] ⟨rfl, trivial⟩ ?_
              refine nm_thn ?_
              refine ws_ret hC [_] rfl rfl ⟨rfl, trivial⟩ ?_
              refine ⟨_, rfl, _, ((((hle1.trans hle2).trans hle3).trans hle4).trans hle5).trans hle6, (S7.pick [] [] (by decide) trivial), ?_⟩
              show Value.bool _ = _
              refine congrArg Value.bool ?_
              first | rfl | (rw [decide_eq_true_iff]; omega) | (simp_all; done)
            · have hg44 := of_decide_eq_false hg44
              exfalso; first | omega | (simp_all; done) | contradiction
          · have hg39 := of_decide_eq_false hg39
            exfalso; first | omega | (simp_all; done) | contradiction
        · have hg35 := of_decide_eq_false hg35
          exfalso; first | omega | (simp_all; done) | contradiction
      · simp only [Bool.and_eq_true, Bool.or_eq_true, Bool.and_eq_false_iff, Bool.or_eq_false_iff, decide_eq_true_eq, decide_eq_false_iff_not, Bool.not_eq_true', Bool.not_eq_false'] at hg28
        refine wl_opG (k := 4) (k' := 5) rfl rfl ⟨_, _, _, rfl, rfl, rfl, rfl⟩ rfl (wo_run rfl rfl (run_move rfl rfl) ?_)
        refine wl_opG (k := 5) (k' := 6) rfl rfl ⟨_, _, _, rfl, rfl, rfl, rfl⟩ rfl (wo_cq rfl rfl rfl rfl rfl rfl rfl cf16 S7 (PolyMay_q b (hb.mono (Hp.le_un _ _)) S7.lend) ?_)
        rintro _ w8 S8 rfl; clear S7
        refine wl_opG (k := 6) (k' := 7) rfl rfl ⟨_, _, _, rfl, rfl, rfl, rfl⟩ rfl (wo_run rfl rfl (run_not rfl rfl) ?_)
        refine wl_op (k := 7) (k' := 8) rfl rfl rfl (wo_run rfl rfl (run_pickF rfl rfl rfl) ?_)
        refine wl_end rfl ?_
        refine nm_sub [(0, _), (1, _), (5, _), (6, _), (7, _), (8, _), (32, _)] ⟨rfl, rfl, rfl, rfl, rfl, rfl, rfl, trivial⟩ ?_
        refine nm_thn ?_
        refine ws_condN PolySums_n11 PolySums_n12 rfl rfl rfl rfl (fun hb32 => ?_) (fun hb32 => ?_)
        · simp only [Bool.and_eq_true, Bool.or_eq_true, Bool.and_eq_false_iff, Bool.or_eq_false_iff, decide_eq_true_eq, decide_eq_false_iff_not, Bool.not_eq_true', Bool.not_eq_false'] at hb32
          refine ws_seqN PolySums_n13 PolySums_n14 rfl rfl rfl ?_
          refine ws_region rfl ?_
          refine wl_op (k := 0) (k' := 1) rfl rfl rfl (wo_run rfl rfl (run_move rfl rfl) ?_)
          refine wl_op (k := 1) (k' := 2) rfl rfl rfl (wo_run rfl rfl (run_eql rfl rfl rfl) ?_)
          refine wl_op (k := 2) (k' := 3) rfl rfl rfl (wo_run rfl rfl (run_move rfl rfl) ?_)
          refine wl_split (t := 35) rfl (fun hg35 => ?_) (fun hg35 => ?_)
          · have hg35 := of_decide_eq_true hg35
            refine wl_opG (k := 3) (k' := 4) rfl rfl ⟨_, _, _, rfl, rfl, rfl, rfl⟩ rfl (wo_run rfl rfl (run_move rfl rfl) ?_)
            refine wl_opG (k := 4) (k' := 5) rfl rfl ⟨_, _, _, rfl, rfl, rfl, rfl⟩ rfl (wo_run rfl rfl (run_eql rfl rfl rfl) ?_)
            refine wl_op (k := 5) (k' := 6) rfl rfl rfl (wo_run rfl rfl (run_pickT rfl rfl rfl) ?_)
            refine wl_op (k := 6) (k' := 7) rfl rfl rfl (wo_run rfl rfl (run_move rfl rfl) ?_)
            refine wl_split (t := 39) rfl (fun hg39 => ?_) (fun hg39 => ?_)
            · have hg39 := of_decide_eq_true hg39
              refine wl_opG (k := 7) (k' := 8) rfl rfl ⟨_, _, _, rfl, rfl, rfl, rfl⟩ rfl (wo_run rfl rfl (run_move rfl rfl) ?_)
              refine wl_opG (k := 8) (k' := 9) rfl rfl ⟨_, _, _, rfl, rfl, rfl, rfl⟩ rfl (wo_run rfl rfl (run_len rfl rfl rfl rfl rfl rfl Try.underlying22) ?_)
              refine wl_opG (k := 9) (k' := 10) rfl rfl ⟨_, _, _, rfl, rfl, rfl, rfl⟩ rfl (wo_run rfl rfl (run_eql rfl rfl rfl) ?_)
              refine wl_op (k := 10) (k' := 11) rfl rfl rfl (wo_run rfl rfl (run_pickT rfl rfl rfl) ?_)
              refine wl_op (k := 11) (k' := 12) rfl rfl rfl (wo_run rfl rfl (run_move rfl rfl) ?_)
              refine wl_split (t := 44) rfl (fun hg44 => ?_) (fun hg44 => ?_)
              · have hg44 := of_decide_eq_true hg44
                refine wl_opG (k := 12) (k' := 13) rfl rfl ⟨_, _, _, rfl, rfl, rfl, rfl⟩ rfl (wo_run rfl rfl (run_move rfl rfl) ?_)
                refine wl_opG (k := 13) (k' := 14) rfl rfl ⟨_, _, _, rfl, rfl, rfl, rfl⟩ rfl (wo_run rfl rfl (run_len rfl rfl rfl rfl rfl rfl Try.underlying22) ?_)
                refine wl_opG (k := 14) (k' := 15) rfl rfl ⟨_, _, _, rfl, rfl, rfl, rfl⟩ rfl (wo_run rfl rfl (run_eql rfl rfl rfl) ?_)
                refine wl_op (k := 15) (k' := 16) rfl rfl rfl (wo_run rfl rfl (run_pickT rfl rfl rfl) ?_)
                refine wl_op (k := 16) (k' := 17) rfl rfl rfl (wo_run rfl rfl (run_assign rfl rfl) ?_)
                refine wl_end rfl ?_
                refine nm_sub [(4, _)] ⟨rfl, trivial⟩ ?_
                refine nm_thn ?_
                refine ws_ret hC [_] rfl rfl ⟨rfl, trivial⟩ ?_
                refine ⟨_, rfl, _, ((((hle1.trans hle2).trans hle3).trans hle4).trans hle5).trans hle6, (S8.pick [] [] (by decide) trivial), ?_⟩
                show Value.bool _ = _
                refine congrArg Value.bool ?_
                first | rfl | (rw [decide_eq_true_iff]; omega) | (simp_all; done)
              · have hg44 := of_decide_eq_false hg44
                exfalso; first | omega | (simp_all; done) | contradiction
            · have hg39 := of_decide_eq_false hg39
              exfalso; first | omega | (simp_all; done) | contradiction
          · have hg35 := of_decide_eq_false hg35
            exfalso; first | omega | (simp_all; done) | contradiction
        · simp only [Bool.and_eq_true, Bool.or_eq_true, Bool.and_eq_false_iff, Bool.or_eq_false_iff, decide_eq_true_eq, decide_eq_false_iff_not, Bool.not_eq_true', Bool.not_eq_false'] at hb32
          exfalso; first | omega | (simp_all; done) | contradiction
    · rw [ok1] at ok2; cases ok2
  · have hma : mayT a = true := by simp_all
    have hmb : mayT b = true := by simp_all
    obtain ⟨hca, hba⟩ := may_can hma
    obtain ⟨hcb, hbb⟩ := may_can hmb
    refine wl_op (k := 5) (k' := 6) rfl rfl rfl (wo_run rfl rfl (run_move rfl rfl) ?_)
    refine wl_op (k := 6) (k' := 7) rfl rfl rfl (wo_run rfl rfl (run_extract rfl rfl rfl) ?_)
    refine wl_op (k := 7) (k' := 8) rfl rfl rfl (wo_run rfl rfl (run_extract rfl rfl rfl) ?_)
    refine wl_op (k := 8) (k' := 9) rfl rfl rfl (wo_run rfl rfl (run_assign rfl rfl) ?_)
    refine wl_op (k := 9) (k' := 10) rfl rfl rfl (wo_run rfl rfl (run_assign rfl rfl) ?_)
    refine wl_end rfl ?_
    refine nm_sub [(0, _), (1, _), (5, _), (6, _)] ⟨rfl, rfl, rfl, rfl, trivial⟩ ?_
    refine nm_thn ?_
    refine ws_seqN PolySums_n5 PolySums_n6 rfl rfl rfl ?_
    refine ws_region rfl ?_
    refine wl_op (k := 0) (k' := 1) rfl rfl rfl (wo_run rfl rfl (run_move rfl rfl) ?_)
    refine wl_op (k := 1) (k' := 2) rfl rfl rfl (wo_ct rfl rfl rfl rfl rfl rfl rfl cf14 S3 (terms_t a (ha.mono (Hp.le_un _ _)) S3.lend) ?_)
    intro vw9 w9 M7 hle7 S9 hRw9; clear S3
    replace ha := ha.mono hle7
    replace hb := hb.mono hle7
    replace hr1 := hr1.mono hle7
    replace hr2 := hr2.mono hle7
    replace hr3 := hr3.mono hle7
    obtain ⟨A7, c7, rfl, hr7⟩ := hRw9
    refine wl_op (k := 2) (k' := 3) rfl rfl rfl (wo_run rfl rfl (run_move rfl rfl) ?_)
    refine wl_op (k := 3) (k' := 4) rfl rfl rfl (wo_ct rfl rfl rfl rfl rfl rfl rfl cf14 S9 (terms_t b (hb.mono (Hp.le_un _ _)) S9.lend) ?_)
    intro vw10 w10 M8 hle8 S10 hRw10; clear S9
    replace ha := ha.mono hle8
    replace hb := hb.mono hle8
    replace hr1 := hr1.mono hle8
    replace hr2 := hr2.mono hle8
    replace hr3 := hr3.mono hle8
    replace hr7 := hr7.mono hle8
    obtain ⟨A8, c8, rfl, hr8⟩ := hRw10
    refine wl_op (k := 4) (k' := 5) rfl rfl rfl (wo_ct rfl rfl rfl rfl rfl rfl rfl cf15 S10 (Mul_t a b hr7 hr8 S10.lend) ?_)
    intro vw11 w11 M9 hle9 S11 hRw11; clear S10
    replace ha := ha.mono hle9
    replace hb := hb.mono hle9
    replace hr1 := hr1.mono hle9
    replace hr2 := hr2.mono hle9
    replace hr3 := hr3.mono hle9
    replace hr7 := hr7.mono hle9
    replace hr8 := hr8.mono hle9
    rcases hRw11 with ⟨ok3, rfl⟩ | ⟨ok3, A9, c9, l3, rfl, hr9, hcan3, hbd3, hmk3⟩
    · rw [ok1] at ok3; cases ok3
    · refine wl_op (k := 5) (k' := 6) rfl rfl rfl (wo_run rfl rfl (run_move rfl rfl) ?_)
      refine wl_op (k := 6) (k' := 7) rfl rfl rfl (wo_run rfl rfl (run_extract rfl rfl rfl) ?_)
      refine wl_op (k := 7) (k' := 8) rfl rfl rfl (wo_run rfl rfl (run_extract rfl rfl rfl) ?_)
      refine wl_op (k := 8) (k' := 9) rfl rfl rfl (wo_run rfl rfl (run_assign rfl rfl) ?_)
      refine wl_op (k := 9) (k' := 10) rfl rfl rfl (wo_run rfl rfl (run_assign rfl rfl) ?_)
      refine wl_end rfl ?_
      refine nm_sub [(0, _), (1, _), (5, _), (6, _), (7, _), (8, _)] ⟨rfl, rfl, rfl, rfl, rfl, rfl, trivial⟩ ?_
      refine nm_thn ?_
      refine ws_seqN PolySums_n7 PolySums_n8 rfl rfl rfl ?_
      refine ws_seqN PolySums_n9 PolySums_n10 rfl rfl rfl ?_
      refine ws_region rfl ?_
      refine wl_op (k := 0) (k' := 1) rfl rfl rfl (wo_run rfl rfl (run_move rfl rfl) ?_)
      refine wl_op (k := 1) (k' := 2) rfl rfl rfl (wo_cq rfl rfl rfl rfl rfl rfl rfl cf16 S11 (PolyMay_q a (ha.mono (Hp.le_un _ _)) S11.lend) ?_)
      rintro _ w12 S12 rfl; clear S11
      refine wl_op (k := 2) (k' := 3) rfl rfl rfl (wo_run rfl rfl (run_not rfl rfl) ?_)
      refine wl_op (k := 3) (k' := 4) rfl rfl rfl (wo_run rfl rfl (run_move rfl rfl) ?_)
      refine wl_split (t := 28) rfl (fun hg28 => ?_) (fun hg28 => ?_)
      · simp only [Bool.and_eq_true, Bool.or_eq_true, Bool.and_eq_false_iff, Bool.or_eq_false_iff, decide_eq_true_eq, decide_eq_false_iff_not, Bool.not_eq_true', Bool.not_eq_false'] at hg28
        refine wl_no (k := 4) (k' := 5) (d := 29) rfl rfl ⟨_, _, _, rfl, rfl, rfl, rfl⟩ rfl rfl ?_
        refine wl_no (k := 5) (k' := 6) (d := 30) rfl rfl ⟨_, _, _, rfl, rfl, rfl, rfl⟩ rfl rfl ?_
        refine wl_no (k := 6) (k' := 7) (d := 31) rfl rfl ⟨_, _, _, rfl, rfl, rfl, rfl⟩ rfl rfl ?_
        refine wl_op (k := 7) (k' := 8) rfl rfl rfl (wo_run rfl rfl (run_pickT rfl rfl rfl) ?_)
        refine wl_end rfl ?_
        refine nm_sub [(0, _), (1, _), (5, _), (6, _), (7, _), (8, _), (32, _)] ⟨rfl, rfl, rfl, rfl, rfl, rfl, rfl, trivial⟩ ?_
        refine nm_thn ?_
        refine ws_condTN PolySums_n11 rfl rfl rfl ?_
        refine ws_seqN PolySums_n13 PolySums_n14 rfl rfl rfl ?_
        refine ws_region rfl ?_
        refine wl_op (k := 0) (k' := 1) rfl rfl rfl (wo_run rfl rfl (run_move rfl rfl) ?_)
        refine wl_op (k := 1) (k' := 2) rfl rfl rfl (wo_run rfl rfl (run_eql rfl rfl rfl) ?_)
        refine wl_op (k := 2) (k' := 3) rfl rfl rfl (wo_run rfl rfl (run_move rfl rfl) ?_)
        refine wl_split (t := 35) rfl (fun hg35 => ?_) (fun hg35 => ?_)
        · have hg35 := of_decide_eq_true hg35
          refine wl_opG (k := 3) (k' := 4) rfl rfl ⟨_, _, _, rfl, rfl, rfl, rfl⟩ rfl (wo_run rfl rfl (run_move rfl rfl) ?_)
          refine wl_opG (k := 4) (k' := 5) rfl rfl ⟨_, _, _, rfl, rfl, rfl, rfl⟩ rfl (wo_run rfl rfl (run_eql rfl rfl rfl) ?_)
          refine wl_op (k := 5) (k' := 6) rfl rfl rfl (wo_run rfl rfl (run_pickT rfl rfl rfl) ?_)
          refine wl_op (k := 6) (k' := 7) rfl rfl rfl (wo_run rfl rfl (run_move rfl rfl) ?_)
          refine wl_split (t := 39) rfl (fun hg39 => ?_) (fun hg39 => ?_)
          · have hg39 := of_decide_eq_true hg39
            refine wl_opG (k := 7) (k' := 8) rfl rfl ⟨_, _, _, rfl, rfl, rfl, rfl⟩ rfl (wo_run rfl rfl (run_move rfl rfl) ?_)
            refine wl_opG (k := 8) (k' := 9) rfl rfl ⟨_, _, _, rfl, rfl, rfl, rfl⟩ rfl (wo_run rfl rfl (run_len rfl rfl rfl rfl rfl rfl Try.underlying22) ?_)
            refine wl_opG (k := 9) (k' := 10) rfl rfl ⟨_, _, _, rfl, rfl, rfl, rfl⟩ rfl (wo_run rfl rfl (run_eql rfl rfl rfl) ?_)
            refine wl_op (k := 10) (k' := 11) rfl rfl rfl (wo_run rfl rfl (run_pickT rfl rfl rfl) ?_)
            refine wl_op (k := 11) (k' := 12) rfl rfl rfl (wo_run rfl rfl (run_move rfl rfl) ?_)
            refine wl_split (t := 44) rfl (fun hg44 => ?_) (fun hg44 => ?_)
            · have hg44 := of_decide_eq_true hg44
              refine wl_opG (k := 12) (k' := 13) rfl rfl ⟨_, _, _, rfl, rfl, rfl, rfl⟩ rfl (wo_run rfl rfl (run_move rfl rfl) ?_)
              refine wl_opG (k := 13) (k' := 14) rfl rfl ⟨_, _, _, rfl, rfl, rfl, rfl⟩ rfl (wo_run rfl rfl (run_len rfl rfl rfl rfl rfl rfl Try.underlying22) ?_)
              refine wl_opG (k := 14) (k' := 15) rfl rfl ⟨_, _, _, rfl, rfl, rfl, rfl⟩ rfl (wo_run rfl rfl (run_eql rfl rfl rfl) ?_)
              refine wl_op (k := 15) (k' := 16) rfl rfl rfl (wo_run rfl rfl (run_pickT rfl rfl rfl) ?_)
              refine wl_op (k := 16) (k' := 17) rfl rfl rfl (wo_run rfl rfl (run_assign rfl rfl) ?_)
              refine wl_end rfl ?_
              refine nm_sub [(4, _)] ⟨rfl, trivial⟩ ?_
              refine nm_thn ?_
              refine ws_ret hC [_] rfl rfl ⟨rfl, trivial⟩ ?_
              refine ⟨_, rfl, _, ((((hle1.trans hle2).trans hle3).trans hle7).trans hle8).trans hle9, (S12.pick [] [] (by decide) trivial), ?_⟩
              show Value.bool _ = _
              refine congrArg Value.bool ?_
              first | rfl | (rw [decide_eq_true_iff]; omega) | (simp_all; done)
            · have hg44 := of_decide_eq_false hg44
              exfalso; first | omega | (simp_all; done) | contradiction
          · have hg39 := of_decide_eq_false hg39
            exfalso; first | omega | (simp_all; done) | contradiction
        · have hg35 := of_decide_eq_false hg35
          exfalso; first | omega | (simp_all; done) | contradiction
      · simp only [Bool.and_eq_true, Bool.or_eq_true, Bool.and_eq_false_iff, Bool.or_eq_false_iff, decide_eq_true_eq, decide_eq_false_iff_not, Bool.not_eq_true', Bool.not_eq_false'] at hg28
        refine wl_opG (k := 4) (k' := 5) rfl rfl ⟨_, _, _, rfl, rfl, rfl, rfl⟩ rfl (wo_run rfl rfl (run_move rfl rfl) ?_)
        refine wl_opG (k := 5) (k' := 6) rfl rfl ⟨_, _, _, rfl, rfl, rfl, rfl⟩ rfl (wo_cq rfl rfl rfl rfl rfl rfl rfl cf16 S12 (PolyMay_q b (hb.mono (Hp.le_un _ _)) S12.lend) ?_)
        rintro _ w13 S13 rfl; clear S12
        refine wl_opG (k := 6) (k' := 7) rfl rfl ⟨_, _, _, rfl, rfl, rfl, rfl⟩ rfl (wo_run rfl rfl (run_not rfl rfl) ?_)
        refine wl_op (k := 7) (k' := 8) rfl rfl rfl (wo_run rfl rfl (run_pickF rfl rfl rfl) ?_)
        refine wl_end rfl ?_
        refine nm_sub [(0, _), (1, _), (5, _), (6, _), (7, _), (8, _), (32, _)] ⟨rfl, rfl, rfl, rfl, rfl, rfl, rfl, trivial⟩ ?_
        refine nm_thn ?_
        refine ws_condN PolySums_n11 PolySums_n12 rfl rfl rfl rfl (fun hb32 => ?_) (fun hb32 => ?_)
        · simp only [Bool.and_eq_true, Bool.or_eq_true, Bool.and_eq_false_iff, Bool.or_eq_false_iff, decide_eq_true_eq, decide_eq_false_iff_not, Bool.not_eq_true', Bool.not_eq_false'] at hb32
          exfalso; first | omega | (simp_all; done) | contradiction
        · simp only [Bool.and_eq_true, Bool.or_eq_true, Bool.and_eq_false_iff, Bool.or_eq_false_iff, decide_eq_true_eq, decide_eq_false_iff_not, Bool.not_eq_true', Bool.not_eq_false'] at hb32
          refine ws_skip rfl ?_
          refine nm_sub [(0, _), (1, _), (5, _), (6, _), (7, _), (8, _)] ⟨rfl, rfl, rfl, rfl, rfl, rfl, trivial⟩ ?_
          refine nm_thn ?_
          refine ws_seqN PolySums_n15 PolySums_n16 rfl rfl rfl ?_
          refine ws_region rfl ?_
          refine wl_op (k := 0) (k' := 1) rfl rfl rfl (wo_run rfl rfl (run_move rfl rfl) ?_)
          refine wl_op (k := 1) (k' := 2) rfl rfl rfl (wo_run rfl rfl (run_eql rfl rfl rfl) ?_)
          refine wl_op (k := 2) (k' := 3) rfl rfl rfl (wo_run rfl rfl (run_move rfl rfl) ?_)
          refine wl_split (t := 51) rfl (fun hg51 => ?_) (fun hg51 => ?_)
          · have hg51 := of_decide_eq_true hg51
            refine wl_opG (k := 3) (k' := 4) rfl rfl ⟨_, _, _, rfl, rfl, rfl, rfl⟩ rfl (wo_run rfl rfl (run_move rfl rfl) ?_)
            refine wl_opG (k := 4) (k' := 5) rfl rfl ⟨_, _, _, rfl, rfl, rfl, rfl⟩ rfl (wo_run rfl rfl (run_eql rfl rfl rfl) ?_)
            refine wl_op (k := 5) (k' := 6) rfl rfl rfl (wo_run rfl rfl (run_pickT rfl rfl rfl) ?_)
            refine wl_op (k := 6) (k' := 7) rfl rfl rfl (wo_run rfl rfl (run_move rfl rfl) ?_)
            refine wl_split (t := 55) rfl (fun hg55 => ?_) (fun hg55 => ?_)
            · have hg55 := of_decide_eq_true hg55
              refine wl_opG (k := 7) (k' := 8) rfl rfl ⟨_, _, _, rfl, rfl, rfl, rfl⟩ rfl (wo_run rfl rfl (run_move rfl rfl) ?_)
              refine wl_opG (k := 8) (k' := 9) rfl rfl ⟨_, _, _, rfl, rfl, rfl, rfl⟩ rfl (wo_run rfl rfl (run_move rfl rfl) ?_)
              refine wl_opG (k := 9) (k' := 10) rfl rfl ⟨_, _, _, rfl, rfl, rfl, rfl⟩ rfl (wo_run rfl rfl (run_move rfl rfl) ?_)
              refine wl_opG (k := 10) (k' := 11) rfl rfl ⟨_, _, _, rfl, rfl, rfl, rfl⟩ rfl (wo_ct rfl rfl rfl rfl rfl rfl rfl cf18 S13 (Sum_t a b 1 ha hb (1000) (hca) (hba) (hbb) ((by omega)) S13.lend) ?_)
              intro vw14 w14 M10 hle10 S14 hRw14; clear S13
              replace ha := ha.mono hle10
              replace hb := hb.mono hle10
              replace hr1 := hr1.mono hle10
              replace hr2 := hr2.mono hle10
              replace hr3 := hr3.mono hle10
              replace hr7 := hr7.mono hle10
              replace hr8 := hr8.mono hle10
              replace hr9 := hr9.mono hle10
              obtain ⟨A10, c10, l4, rfl, hr10, hcan4, hbd4, hmk4⟩ := hRw14
              refine wl_opG (k := 11) (k' := 12) rfl rfl ⟨_, _, _, rfl, rfl, rfl, rfl⟩ rfl (wo_cq rfl rfl rfl rfl rfl rfl rfl cf17 S14 (sameTerms_q l1 l4 (hr3.mono (Hp.le_un _ _)) (hr10.mono (Hp.le_un _ _)) ((can_ext hcan1 hcan4 (by first | (rw [hmk1, hmk4]; done) | (rw [hmk1, hmk4]; exact congrArg _ (Pol.mul_one _).symm)))) S14.lend) ?_)
              rintro _ w15 S15 rfl; clear S14
              refine wl_op (k := 12) (k' := 13) rfl rfl rfl (wo_run rfl rfl (run_pickT rfl rfl rfl) ?_)
              refine wl_op (k := 13) (k' := 14) rfl rfl rfl (wo_run rfl rfl (run_move rfl rfl) ?_)
              refine wl_opG (k := 14) (k' := 15) rfl rfl ⟨_, _, _, rfl, rfl, rfl, rfl⟩ rfl (wo_run rfl rfl (run_move rfl rfl) ?_)
              refine wl_opG (k := 15) (k' := 16) rfl rfl ⟨_, _, _, rfl, rfl, rfl, rfl⟩ rfl (wo_run rfl rfl (run_move rfl rfl) ?_)
              refine wl_opG (k := 16) (k' := 17) rfl rfl ⟨_, _, _, rfl, rfl, rfl, rfl⟩ rfl (wo_run rfl rfl (run_move rfl rfl) ?_)
              refine wl_opG (k := 17) (k' := 18) rfl rfl ⟨_, _, _, rfl, rfl, rfl, rfl⟩ rfl (wo_ct rfl rfl rfl rfl rfl rfl rfl cf19 S15 (Product_t a b ha hb (1000) (1000) (hba) (hbb) ((by omega)) S15.lend) ?_)
              intro vw16 w16 M11 hle11 S16 hRw16; clear S15
              replace ha := ha.mono hle11
              replace hb := hb.mono hle11
              replace hr1 := hr1.mono hle11
              replace hr2 := hr2.mono hle11
              replace hr3 := hr3.mono hle11
              replace hr7 := hr7.mono hle11
              replace hr8 := hr8.mono hle11
              replace hr9 := hr9.mono hle11
              replace hr10 := hr10.mono hle11
              obtain ⟨A11, c11, l5, rfl, hr11, hcan5, hbd5, hmk5⟩ := hRw16
              refine wl_opG (k := 18) (k' := 19) rfl rfl ⟨_, _, _, rfl, rfl, rfl, rfl⟩ rfl (wo_cq rfl rfl rfl rfl rfl rfl rfl cf17 S16 (sameTerms_q l3 l5 (hr9.mono (Hp.le_un _ _)) (hr11.mono (Hp.le_un _ _)) ((can_ext hcan3 hcan5 (by first | (rw [hmk3, hmk5]; done) | (rw [hmk3, hmk5]; exact congrArg _ (Pol.mul_one _).symm)))) S16.lend) ?_)
              rintro _ w17 S17 rfl; clear S16
              refine wl_op (k := 19) (k' := 20) rfl rfl rfl (wo_run rfl rfl (run_pickT rfl rfl rfl) ?_)
              refine wl_op (k := 20) (k' := 21) rfl rfl rfl (wo_run rfl rfl (run_assign rfl rfl) ?_)
              refine wl_end rfl ?_
              refine nm_sub [(4, _)] ⟨rfl, trivial⟩ ?_
              refine nm_thn ?_
              refine ws_ret hC [_] rfl rfl ⟨rfl, trivial⟩ ?_
              refine ⟨_, rfl, _, ((((((hle1.trans hle2).trans hle3).trans hle7).trans hle8).trans hle9).trans hle10).trans hle11, (S17.pick [] [] (by decide) trivial), ?_⟩
              show Value.bool _ = _
              refine congrArg Value.bool ?_
              first | rfl | (rw [decide_eq_true_iff]; omega) | (simp_all; done)
            · have hg55 := of_decide_eq_false hg55
              exfalso; first | omega | (simp_all; done) | contradiction
          · have hg51 := of_decide_eq_false hg51
            exfalso; first | omega | (simp_all; done) | contradiction

noncomputable def PolyTurns_n0 : Code := Try.f4.body.getD .skip
noncomputable def PolyTurns_n1 : Code := cL PolyTurns_n0
noncomputable def PolyTurns_n2 : Code := cR PolyTurns_n0
noncomputable def PolyTurns_n3 : Code := cL PolyTurns_n2
noncomputable def PolyTurns_n4 : Code := cR PolyTurns_n2
noncomputable def PolyTurns_n5 : Code := cL PolyTurns_n4
noncomputable def PolyTurns_n6 : Code := cR PolyTurns_n4
noncomputable def PolyTurns_n7 : Code := cL PolyTurns_n6
noncomputable def PolyTurns_n8 : Code := cR PolyTurns_n6
noncomputable def PolyTurns_n9 : Code := cL PolyTurns_n8
noncomputable def PolyTurns_n10 : Code := cR PolyTurns_n8
noncomputable def PolyTurns_n11 : Code := cL PolyTurns_n9
noncomputable def PolyTurns_n12 : Code := cR PolyTurns_n9
noncomputable def PolyTurns_n13 : Code := cL PolyTurns_n12
noncomputable def PolyTurns_n14 : Code := cR PolyTurns_n12
noncomputable def PolyTurns_n15 : Code := cL PolyTurns_n13
noncomputable def PolyTurns_n16 : Code := cR PolyTurns_n13
noncomputable def PolyTurns_n17 : Code := cL PolyTurns_n10
noncomputable def PolyTurns_n18 : Code := cR PolyTurns_n10
noncomputable def PolyTurns_n19 : Code := cL PolyTurns_n17
noncomputable def PolyTurns_n20 : Code := cR PolyTurns_n17
noncomputable def PolyTurns_n21 : Code := cL PolyTurns_n20
noncomputable def PolyTurns_n22 : Code := cR PolyTurns_n20
noncomputable def PolyTurns_n23 : Code := cL PolyTurns_n18
noncomputable def PolyTurns_n24 : Code := cR PolyTurns_n18
noncomputable def PolyTurns_n25 : Code := cL PolyTurns_n23
noncomputable def PolyTurns_n26 : Code := cR PolyTurns_n23
noncomputable def PolyTurns_n27 : Code := cL PolyTurns_n26
noncomputable def PolyTurns_n28 : Code := cR PolyTurns_n26
noncomputable def PolyTurns_n29 : Code := cL PolyTurns_n27
noncomputable def PolyTurns_n30 : Code := cR PolyTurns_n27
noncomputable def PolyTurns_n31 : Code := cL PolyTurns_n24
noncomputable def PolyTurns_n32 : Code := cR PolyTurns_n24
set_option maxHeartbeats 1000000 in
set_option maxRecDepth 10000 in
theorem PolyTurns_t {w : World} {M : Hp} {X : Fr} (a : List Tm) {aA : Option Addr} {ac : Nat} (t : Int) (ha : RdA cdTm M aA ac a) (S : SH w M X []) : Ct Try.prog 4 [.slice aA a.length ac, .int .i64 t] w M X (fun u _ => u = .bool true) := by
  unfold Ct
  have rmha : a.length * 16 ≤ 140737488355328 := ha.room
  refine calls_in (b := PolyTurns_n0) Try.func4 rfl Try.ntmps4 rfl (fun C hC => ?_)
  refine ws_sub [(0, _), (1, _)] ⟨rfl, rfl, trivial⟩ ?_
  refine ws_seqN PolyTurns_n1 PolyTurns_n2 rfl rfl rfl ?_
  refine ws_region rfl ?_
  refine wl_op (k := 0) (k' := 1) rfl rfl rfl (wo_run rfl rfl (run_assign rfl rfl) ?_)
  refine wl_end rfl ?_
  refine nm_sub [(0, _), (1, _)] ⟨rfl, rfl, trivial⟩ ?_
  refine nm_thn ?_
  refine ws_seqN PolyTurns_n3 PolyTurns_n4 rfl rfl rfl ?_
  refine ws_region rfl ?_
  refine wl_op (k := 0) (k' := 1) rfl rfl rfl (wo_run rfl rfl (run_move rfl rfl) ?_)
  refine wl_op (k := 1) (k' := 2) rfl rfl rfl (wo_ct rfl rfl rfl rfl rfl rfl rfl cf14 S (terms_t a (ha.mono (Hp.le_un _ _)) S.lend) ?_)
  intro vw1 w1 M1 hle1 S1 hRw1; clear S
  replace ha := ha.mono hle1
  obtain ⟨A1, c1, rfl, hr1⟩ := hRw1
  refine wl_op (k := 2) (k' := 3) rfl rfl rfl (wo_ct rfl rfl rfl rfl rfl rfl rfl cf20 S1 (Unit_t a hr1 S1.lend) ?_)
  intro vw2 w2 M2 hle2 S2 hRw2; clear S1
  replace ha := ha.mono hle2
  replace hr1 := hr1.mono hle2
  rcases hRw2 with ⟨ok1, rfl⟩ | ⟨ok1, A2, c2, l1, rfl, hr2, hcan1, hbd1, hmk1⟩
  · refine wl_op (k := 3) (k' := 4) rfl rfl rfl (wo_run rfl rfl (run_move rfl rfl) ?_)
    refine wl_op (k := 4) (k' := 5) rfl rfl rfl (wo_run rfl rfl (run_extract rfl rfl rfl) ?_)
    refine wl_op (k := 5) (k' := 6) rfl rfl rfl (wo_run rfl rfl (run_extract rfl rfl rfl) ?_)
    refine wl_op (k := 6) (k' := 7) rfl rfl rfl (wo_run rfl rfl (run_assign rfl rfl) ?_)
    refine wl_op (k := 7) (k' := 8) rfl rfl rfl (wo_run rfl rfl (run_assign rfl rfl) ?_)
    refine wl_end rfl ?_
    refine nm_sub [(0, _), (1, _), (5, _), (6, _)] ⟨rfl, rfl, rfl, rfl, trivial⟩ ?_
    refine nm_thn ?_
    refine ws_seqN PolyTurns_n5 PolyTurns_n6 rfl rfl rfl ?_
    refine ws_region rfl ?_
    refine wl_op (k := 0) (k' := 1) rfl rfl rfl (wo_run rfl rfl (run_move rfl rfl) ?_)
    refine wl_op (k := 1) (k' := 2) rfl rfl rfl (wo_ct rfl rfl rfl rfl rfl rfl rfl cf14 S2 (terms_t a (ha.mono (Hp.le_un _ _)) S2.lend) ?_)
    intro vw3 w3 M3 hle3 S3 hRw3; clear S2
    replace ha := ha.mono hle3
    replace hr1 := hr1.mono hle3
    obtain ⟨A3, c3, rfl, hr3⟩ := hRw3
    refine wl_op (k := 2) (k' := 3) rfl rfl rfl (wo_ct rfl rfl rfl rfl rfl rfl rfl cf21 S3 (Flip_t a hr3 S3.lend) ?_)
    intro vw4 w4 M4 hle4 S4 hRw4; clear S3
    replace ha := ha.mono hle4
    replace hr1 := hr1.mono hle4
    replace hr3 := hr3.mono hle4
    rcases hRw4 with ⟨ok2, rfl⟩ | ⟨ok2, A4, c4, l2, rfl, hr4, hcan2, hbd2, hmk2⟩
    · refine wl_op (k := 3) (k' := 4) rfl rfl rfl (wo_run rfl rfl (run_move rfl rfl) ?_)
      refine wl_op (k := 4) (k' := 5) rfl rfl rfl (wo_run rfl rfl (run_extract rfl rfl rfl) ?_)
      refine wl_op (k := 5) (k' := 6) rfl rfl rfl (wo_run rfl rfl (run_extract rfl rfl rfl) ?_)
      refine wl_op (k := 6) (k' := 7) rfl rfl rfl (wo_run rfl rfl (run_assign rfl rfl) ?_)
      refine wl_op (k := 7) (k' := 8) rfl rfl rfl (wo_run rfl rfl (run_assign rfl rfl) ?_)
      refine wl_end rfl ?_
      refine nm_sub [(0, _), (1, _), (5, _), (6, _), (7, _), (8, _)] ⟨rfl, rfl, rfl, rfl, rfl, rfl, trivial⟩ ?_
      refine nm_thn ?_
      refine ws_seqN PolyTurns_n7 PolyTurns_n8 rfl rfl rfl ?_
      refine ws_region rfl ?_
      refine wl_op (k := 0) (k' := 1) rfl rfl rfl (wo_run rfl rfl (run_move rfl rfl) ?_)
      refine wl_op (k := 1) (k' := 2) rfl rfl rfl (wo_ct rfl rfl rfl rfl rfl rfl rfl cf14 S4 (terms_t a (ha.mono (Hp.le_un _ _)) S4.lend) ?_)
      intro vw5 w5 M5 hle5 S5 hRw5; clear S4
      replace ha := ha.mono hle5
      replace hr1 := hr1.mono hle5
      replace hr3 := hr3.mono hle5
      obtain ⟨A5, c5, rfl, hr5⟩ := hRw5
      refine wl_op (k := 2) (k' := 3) rfl rfl rfl (wo_run rfl rfl (run_move rfl rfl) ?_)
      refine wl_op (k := 3) (k' := 4) rfl rfl rfl (wo_cq rfl rfl rfl rfl rfl rfl rfl cf22 S5 (At_q a t (hr5.mono (Hp.le_un _ _)) S5.lend) ?_)
      rintro _ w6 S6 rfl; clear S5
      have hat : atR a t = (0, 1) := by unfold atR; rw [if_neg (by simp_all)]
      refine wl_op (k := 4) (k' := 5) rfl rfl rfl (wo_run rfl rfl (run_move rfl rfl) ?_)
      refine wl_op (k := 5) (k' := 6) rfl rfl rfl (wo_run rfl rfl (run_extract rfl rfl rfl) ?_)
      refine wl_op (k := 6) (k' := 7) rfl rfl rfl (wo_run rfl rfl (run_extract rfl rfl rfl) ?_)
      refine wl_op (k := 7) (k' := 8) rfl rfl rfl (wo_run rfl rfl (run_assign rfl rfl) ?_)
      refine wl_op (k := 8) (k' := 9) rfl rfl rfl (wo_run rfl rfl (run_assign rfl rfl) ?_)
      refine wl_end rfl ?_
      refine nm_sub [(0, _), (1, _), (5, _), (6, _), (7, _), (8, _), (9, _), (10, _)] ⟨rfl, rfl, rfl, rfl, rfl, rfl, rfl, rfl, trivial⟩ ?_
      refine nm_thn ?_
      refine ws_seqN PolyTurns_n9 PolyTurns_n10 rfl rfl rfl ?_
      refine ws_seqN PolyTurns_n11 PolyTurns_n12 rfl rfl rfl ?_
      refine ws_region rfl ?_
      refine wl_op (k := 0) (k' := 1) rfl rfl rfl (wo_run rfl rfl (run_move rfl rfl) ?_)
      refine wl_op (k := 1) (k' := 2) rfl rfl rfl (wo_cq rfl rfl rfl rfl rfl rfl rfl cf16 S6 (PolyMay_q a (ha.mono (Hp.le_un _ _)) S6.lend) ?_)
      rintro _ w7 S7 rfl; clear S6
      refine wl_op (k := 2) (k' := 3) rfl rfl rfl (wo_run rfl rfl (run_not rfl rfl) ?_)
      refine wl_end rfl ?_
      refine nm_sub [(0, _), (1, _), (5, _), (6, _), (7, _), (8, _), (9, _), (10, _), (32, _)] ⟨rfl, rfl, rfl, rfl, rfl, rfl, rfl, rfl, rfl, trivial⟩ ?_
      refine nm_thn ?_
      refine ws_condN PolyTurns_n13 PolyTurns_n14 rfl rfl rfl rfl (fun hb32 => ?_) (fun hb32 => ?_)
      · simp only [Bool.and_eq_true, Bool.or_eq_true, Bool.and_eq_false_iff, Bool.or_eq_false_iff, decide_eq_true_eq, decide_eq_false_iff_not, Bool.not_eq_true', Bool.not_eq_false'] at hb32
        refine ws_seqN PolyTurns_n15 PolyTurns_n16 rfl rfl rfl ?_
        refine ws_region rfl ?_
        refine wl_op (k := 0) (k' := 1) rfl rfl rfl (wo_run rfl rfl (run_move rfl rfl) ?_)
        refine wl_op (k := 1) (k' := 2) rfl rfl rfl (wo_run rfl rfl (run_eql rfl rfl rfl) ?_)
        refine wl_op (k := 2) (k' := 3) rfl rfl rfl (wo_run rfl rfl (run_move rfl rfl) ?_)
        refine wl_split (t := 35) rfl (fun hg35 => ?_) (fun hg35 => ?_)
        · have hg35 := of_decide_eq_true hg35
          refine wl_opG (k := 3) (k' := 4) rfl rfl ⟨_, _, _, rfl, rfl, rfl, rfl⟩ rfl (wo_run rfl rfl (run_move rfl rfl) ?_)
          refine wl_opG (k := 4) (k' := 5) rfl rfl ⟨_, _, _, rfl, rfl, rfl, rfl⟩ rfl (wo_run rfl rfl (run_eql rfl rfl rfl) ?_)
          refine wl_op (k := 5) (k' := 6) rfl rfl rfl (wo_run rfl rfl (run_pickT rfl rfl rfl) ?_)
          refine wl_op (k := 6) (k' := 7) rfl rfl rfl (wo_run rfl rfl (run_move rfl rfl) ?_)
          refine wl_split (t := 39) rfl (fun hg39 => ?_) (fun hg39 => ?_)
          · have hg39 := of_decide_eq_true hg39
            refine wl_opG (k := 7) (k' := 8) rfl rfl ⟨_, _, _, rfl, rfl, rfl, rfl⟩ rfl (wo_run rfl rfl (run_move rfl rfl) ?_)
            refine wl_opG (k := 8) (k' := 9) rfl rfl ⟨_, _, _, rfl, rfl, rfl, rfl⟩ rfl (wo_run rfl rfl (run_eql rfl rfl rfl) ?_)
            refine wl_op (k := 9) (k' := 10) rfl rfl rfl (wo_run rfl rfl (run_pickT rfl rfl rfl) ?_)
            refine wl_op (k := 10) (k' := 11) rfl rfl rfl (wo_run rfl rfl (run_move rfl rfl) ?_)
            refine wl_split (t := 43) rfl (fun hg43 => ?_) (fun hg43 => ?_)
            · have hg43 := of_decide_eq_true hg43
              refine wl_opG (k := 11) (k' := 12) rfl rfl ⟨_, _, _, rfl, rfl, rfl, rfl⟩ rfl (wo_run rfl rfl (run_move rfl rfl) ?_)
              refine wl_opG (k := 12) (k' := 13) rfl rfl ⟨_, _, _, rfl, rfl, rfl, rfl⟩ rfl (wo_run rfl rfl (run_len rfl rfl rfl rfl rfl rfl Try.underlying22) ?_)
              refine wl_opG (k := 13) (k' := 14) rfl rfl ⟨_, _, _, rfl, rfl, rfl, rfl⟩ rfl (wo_run rfl rfl (run_eql rfl rfl rfl) ?_)
              refine wl_op (k := 14) (k' := 15) rfl rfl rfl (wo_run rfl rfl (run_pickT rfl rfl rfl) ?_)
              refine wl_op (k := 15) (k' := 16) rfl rfl rfl (wo_run rfl rfl (run_move rfl rfl) ?_)
              refine wl_split (t := 48) rfl (fun hg48 => ?_) (fun hg48 => ?_)
              · have hg48 := of_decide_eq_true hg48
                refine wl_opG (k := 16) (k' := 17) rfl rfl ⟨_, _, _, rfl, rfl, rfl, rfl⟩ rfl (wo_run rfl rfl (run_move rfl rfl) ?_)
                refine wl_opG (k := 17) (k' := 18) rfl rfl ⟨_, _, _, rfl, rfl, rfl, rfl⟩ rfl (wo_run rfl rfl (run_len rfl rfl rfl rfl rfl rfl Try.underlying22) ?_)
                refine wl_opG (k := 18) (k' := 19) rfl rfl ⟨_, _, _, rfl, rfl, rfl, rfl⟩ rfl (wo_run rfl rfl (run_eql rfl rfl rfl) ?_)
                refine wl_op (k := 19) (k' := 20) rfl rfl rfl (wo_run rfl rfl (run_pickT rfl rfl rfl) ?_)
                refine wl_op (k := 20) (k' := 21) rfl rfl rfl (wo_run rfl rfl (run_move rfl rfl) ?_)
                refine wl_split (t := 53) rfl (fun hg53 => ?_) (fun hg53 => ?_)
                · have hg53 := of_decide_eq_true hg53
                  refine wl_opG (k := 21) (k' := 22) rfl rfl ⟨_, _, _, rfl, rfl, rfl, rfl⟩ rfl (wo_run rfl rfl (run_move rfl rfl) ?_)
                  refine wl_opG (k := 22) (k' := 23) rfl rfl ⟨_, _, _, rfl, rfl, rfl, rfl⟩ rfl (wo_run rfl rfl (run_eql rfl rfl rfl) ?_)
                  refine wl_op (k := 23) (k' := 24) rfl rfl rfl (wo_run rfl rfl (run_pickT rfl rfl rfl) ?_)
                  refine wl_op (k := 24) (k' := 25) rfl rfl rfl (wo_run rfl rfl (run_assign rfl rfl) ?_)
                  refine wl_end rfl ?_
                  refine nm_sub [(4, _)] ⟨rfl, trivial⟩ ?_
                  refine nm_thn ?_
                  refine ws_ret hC [_] rfl rfl ⟨rfl, trivial⟩ ?_
                  refine ⟨_, rfl, _, (((hle1.trans hle2).trans hle3).trans hle4).trans hle5, (S7.pick [] [] (by decide) trivial), ?_⟩
                  show Value.bool _ = _
                  refine congrArg Value.bool ?_
                  first | rfl | (rw [decide_eq_true_iff]; omega) | (rw [hat]; decide) | (rw [decide_eq_true_iff]; first | (have e9 := hat (by omega); rw [e9]; done) | (have e9 := hat2 (by omega); rw [e9]; done) | (rw [hat]; done)) | (simp_all; done)
                · have hg53 := of_decide_eq_false hg53
                  exfalso; first | omega | (simp_all; done) | contradiction | (have e9 := hat (by omega); simp only [e9] at *; first | omega | (simp_all; done)) | (have e9 := hat2 (by omega); simp only [e9] at *; first | omega | (simp_all; done)) | (simp only [hat] at *; first | omega | (simp_all; done))
              · have hg48 := of_decide_eq_false hg48
                exfalso; first | omega | (simp_all; done) | contradiction | (have e9 := hat (by omega); simp only [e9] at *; first | omega | (simp_all; done)) | (have e9 := hat2 (by omega); simp only [e9] at *; first | omega | (simp_all; done)) | (simp only [hat] at *; first | omega | (simp_all; done))
            · have hg43 := of_decide_eq_false hg43
              exfalso; first | omega | (simp_all; done) | contradiction | (have e9 := hat (by omega); simp only [e9] at *; first | omega | (simp_all; done)) | (have e9 := hat2 (by omega); simp only [e9] at *; first | omega | (simp_all; done)) | (simp only [hat] at *; first | omega | (simp_all; done))
          · have hg39 := of_decide_eq_false hg39
            exfalso; first | omega | (simp_all; done) | contradiction | (have e9 := hat (by omega); simp only [e9] at *; first | omega | (simp_all; done)) | (have e9 := hat2 (by omega); simp only [e9] at *; first | omega | (simp_all; done)) | (simp only [hat] at *; first | omega | (simp_all; done))
        · have hg35 := of_decide_eq_false hg35
          exfalso; first | omega | (simp_all; done) | contradiction | (have e9 := hat (by omega); simp only [e9] at *; first | omega | (simp_all; done)) | (have e9 := hat2 (by omega); simp only [e9] at *; first | omega | (simp_all; done)) | (simp only [hat] at *; first | omega | (simp_all; done))
      · simp only [Bool.and_eq_true, Bool.or_eq_true, Bool.and_eq_false_iff, Bool.or_eq_false_iff, decide_eq_true_eq, decide_eq_false_iff_not, Bool.not_eq_true', Bool.not_eq_false'] at hb32
        exfalso; first | omega | (simp_all; done) | contradiction
    · rw [ok1] at ok2; cases ok2
  · have hma : mayT a = true := by simp_all
    obtain ⟨hca, hba⟩ := may_can hma
    refine wl_op (k := 3) (k' := 4) rfl rfl rfl (wo_run rfl rfl (run_move rfl rfl) ?_)
    refine wl_op (k := 4) (k' := 5) rfl rfl rfl (wo_run rfl rfl (run_extract rfl rfl rfl) ?_)
    refine wl_op (k := 5) (k' := 6) rfl rfl rfl (wo_run rfl rfl (run_extract rfl rfl rfl) ?_)
    refine wl_op (k := 6) (k' := 7) rfl rfl rfl (wo_run rfl rfl (run_assign rfl rfl) ?_)
    refine wl_op (k := 7) (k' := 8) rfl rfl rfl (wo_run rfl rfl (run_assign rfl rfl) ?_)
    refine wl_end rfl ?_
    refine nm_sub [(0, _), (1, _), (5, _), (6, _)] ⟨rfl, rfl, rfl, rfl, trivial⟩ ?_
    refine nm_thn ?_
    refine ws_seqN PolyTurns_n5 PolyTurns_n6 rfl rfl rfl ?_
    refine ws_region rfl ?_
    refine wl_op (k := 0) (k' := 1) rfl rfl rfl (wo_run rfl rfl (run_move rfl rfl) ?_)
    refine wl_op (k := 1) (k' := 2) rfl rfl rfl (wo_ct rfl rfl rfl rfl rfl rfl rfl cf14 S2 (terms_t a (ha.mono (Hp.le_un _ _)) S2.lend) ?_)
    intro vw8 w8 M6 hle6 S8 hRw8; clear S2
    replace ha := ha.mono hle6
    replace hr1 := hr1.mono hle6
    replace hr2 := hr2.mono hle6
    obtain ⟨A6, c6, rfl, hr6⟩ := hRw8
    refine wl_op (k := 2) (k' := 3) rfl rfl rfl (wo_ct rfl rfl rfl rfl rfl rfl rfl cf21 S8 (Flip_t a hr6 S8.lend) ?_)
    intro vw9 w9 M7 hle7 S9 hRw9; clear S8
    replace ha := ha.mono hle7
    replace hr1 := hr1.mono hle7
    replace hr2 := hr2.mono hle7
    replace hr6 := hr6.mono hle7
    rcases hRw9 with ⟨ok3, rfl⟩ | ⟨ok3, A7, c7, l3, rfl, hr7, hcan3, hbd3, hmk3⟩
    · rw [ok1] at ok3; cases ok3
    · refine wl_op (k := 3) (k' := 4) rfl rfl rfl (wo_run rfl rfl (run_move rfl rfl) ?_)
      refine wl_op (k := 4) (k' := 5) rfl rfl rfl (wo_run rfl rfl (run_extract rfl rfl rfl) ?_)
      refine wl_op (k := 5) (k' := 6) rfl rfl rfl (wo_run rfl rfl (run_extract rfl rfl rfl) ?_)
      refine wl_op (k := 6) (k' := 7) rfl rfl rfl (wo_run rfl rfl (run_assign rfl rfl) ?_)
      refine wl_op (k := 7) (k' := 8) rfl rfl rfl (wo_run rfl rfl (run_assign rfl rfl) ?_)
      refine wl_end rfl ?_
      refine nm_sub [(0, _), (1, _), (5, _), (6, _), (7, _), (8, _)] ⟨rfl, rfl, rfl, rfl, rfl, rfl, trivial⟩ ?_
      refine nm_thn ?_
      refine ws_seqN PolyTurns_n7 PolyTurns_n8 rfl rfl rfl ?_
      refine ws_region rfl ?_
      refine wl_op (k := 0) (k' := 1) rfl rfl rfl (wo_run rfl rfl (run_move rfl rfl) ?_)
      refine wl_op (k := 1) (k' := 2) rfl rfl rfl (wo_ct rfl rfl rfl rfl rfl rfl rfl cf14 S9 (terms_t a (ha.mono (Hp.le_un _ _)) S9.lend) ?_)
      intro vw10 w10 M8 hle8 S10 hRw10; clear S9
      replace ha := ha.mono hle8
      replace hr1 := hr1.mono hle8
      replace hr2 := hr2.mono hle8
      replace hr6 := hr6.mono hle8
      replace hr7 := hr7.mono hle8
      obtain ⟨A8, c8, rfl, hr8⟩ := hRw10
      refine wl_op (k := 2) (k' := 3) rfl rfl rfl (wo_run rfl rfl (run_move rfl rfl) ?_)
      refine wl_op (k := 3) (k' := 4) rfl rfl rfl (wo_cq rfl rfl rfl rfl rfl rfl rfl cf22 S10 (At_q a t (hr8.mono (Hp.le_un _ _)) S10.lend) ?_)
      rintro _ w11 S11 rfl; clear S10
      have hat : (t = 1 ∨ t = -1) → atR a t = (atN a t a.length, 0) := fun h => by unfold atR; rw [if_pos hma, if_pos h]
      have hat2 : ¬ (t = 1 ∨ t = -1) → atR a t = (0, 3) := fun h => by unfold atR; rw [if_pos hma, if_neg h]
      refine wl_op (k := 4) (k' := 5) rfl rfl rfl (wo_run rfl rfl (run_move rfl rfl) ?_)
      refine wl_op (k := 5) (k' := 6) rfl rfl rfl (wo_run rfl rfl (run_extract rfl rfl rfl) ?_)
      refine wl_op (k := 6) (k' := 7) rfl rfl rfl (wo_run rfl rfl (run_extract rfl rfl rfl) ?_)
      refine wl_op (k := 7) (k' := 8) rfl rfl rfl (wo_run rfl rfl (run_assign rfl rfl) ?_)
      refine wl_op (k := 8) (k' := 9) rfl rfl rfl (wo_run rfl rfl (run_assign rfl rfl) ?_)
      refine wl_end rfl ?_
      refine nm_sub [(0, _), (1, _), (5, _), (6, _), (7, _), (8, _), (9, _), (10, _)] ⟨rfl, rfl, rfl, rfl, rfl, rfl, rfl, rfl, trivial⟩ ?_
      refine nm_thn ?_
      refine ws_seqN PolyTurns_n9 PolyTurns_n10 rfl rfl rfl ?_
      refine ws_seqN PolyTurns_n11 PolyTurns_n12 rfl rfl rfl ?_
      refine ws_region rfl ?_
      refine wl_op (k := 0) (k' := 1) rfl rfl rfl (wo_run rfl rfl (run_move rfl rfl) ?_)
      refine wl_op (k := 1) (k' := 2) rfl rfl rfl (wo_cq rfl rfl rfl rfl rfl rfl rfl cf16 S11 (PolyMay_q a (ha.mono (Hp.le_un _ _)) S11.lend) ?_)
      rintro _ w12 S12 rfl; clear S11
      refine wl_op (k := 2) (k' := 3) rfl rfl rfl (wo_run rfl rfl (run_not rfl rfl) ?_)
      refine wl_end rfl ?_
      refine nm_sub [(0, _), (1, _), (5, _), (6, _), (7, _), (8, _), (9, _), (10, _), (32, _)] ⟨rfl, rfl, rfl, rfl, rfl, rfl, rfl, rfl, rfl, trivial⟩ ?_
      refine nm_thn ?_
      refine ws_condN PolyTurns_n13 PolyTurns_n14 rfl rfl rfl rfl (fun hb32 => ?_) (fun hb32 => ?_)
      · simp only [Bool.and_eq_true, Bool.or_eq_true, Bool.and_eq_false_iff, Bool.or_eq_false_iff, decide_eq_true_eq, decide_eq_false_iff_not, Bool.not_eq_true', Bool.not_eq_false'] at hb32
        exfalso; first | omega | (simp_all; done) | contradiction
      · simp only [Bool.and_eq_true, Bool.or_eq_true, Bool.and_eq_false_iff, Bool.or_eq_false_iff, decide_eq_true_eq, decide_eq_false_iff_not, Bool.not_eq_true', Bool.not_eq_false'] at hb32
        refine ws_skip rfl ?_
        refine nm_sub [(0, _), (1, _), (5, _), (6, _), (7, _), (8, _), (9, _), (10, _)] ⟨rfl, rfl, rfl, rfl, rfl, rfl, rfl, rfl, trivial⟩ ?_
        refine nm_thn ?_
        refine ws_seqN PolyTurns_n17 PolyTurns_n18 rfl rfl rfl ?_
        refine ws_seqN PolyTurns_n19 PolyTurns_n20 rfl rfl rfl ?_
        refine ws_region rfl ?_
        refine wl_op (k := 0) (k' := 1) rfl rfl rfl (wo_run rfl rfl (run_move rfl rfl) ?_)
        refine wl_op (k := 1) (k' := 2) rfl rfl rfl (wo_run rfl rfl (run_neq rfl rfl rfl) ?_)
        refine wl_op (k := 2) (k' := 3) rfl rfl rfl (wo_run rfl rfl (run_move rfl rfl) ?_)
        refine wl_split (t := 59) rfl (fun hg59 => ?_) (fun hg59 => ?_)
        · have hg59 := of_decide_eq_true hg59
          exfalso; first | omega | (simp_all; done) | contradiction | (have e9 := hat (by omega); simp only [e9] at *; first | omega | (simp_all; done)) | (have e9 := hat2 (by omega); simp only [e9] at *; first | omega | (simp_all; done)) | (simp only [hat] at *; first | omega | (simp_all; done))
        · have hg59 := of_decide_eq_false hg59
          refine wl_opG (k := 3) (k' := 4) rfl rfl ⟨_, _, _, rfl, rfl, rfl, rfl⟩ rfl (wo_run rfl rfl (run_move rfl rfl) ?_)
          refine wl_opG (k := 4) (k' := 5) rfl rfl ⟨_, _, _, rfl, rfl, rfl, rfl⟩ rfl (wo_run rfl rfl (run_neq rfl rfl rfl) ?_)
          refine wl_op (k := 5) (k' := 6) rfl rfl rfl (wo_run rfl rfl (run_pickF rfl rfl rfl) ?_)
          refine wl_op (k := 6) (k' := 7) rfl rfl rfl (wo_run rfl rfl (run_move rfl rfl) ?_)
          refine wl_split (t := 63) rfl (fun hg63 => ?_) (fun hg63 => ?_)
          · have hg63 := of_decide_eq_true hg63
            exfalso; first | omega | (simp_all; done) | contradiction | (have e9 := hat (by omega); simp only [e9] at *; first | omega | (simp_all; done)) | (have e9 := hat2 (by omega); simp only [e9] at *; first | omega | (simp_all; done)) | (simp only [hat] at *; first | omega | (simp_all; done))
          · have hg63 := of_decide_eq_false hg63
            refine wl_opG (k := 7) (k' := 8) rfl rfl ⟨_, _, _, rfl, rfl, rfl, rfl⟩ rfl (wo_run rfl rfl (run_move rfl rfl) ?_)
            refine wl_opG (k := 8) (k' := 9) rfl rfl ⟨_, _, _, rfl, rfl, rfl, rfl⟩ rfl (wo_run rfl rfl (run_move rfl rfl) ?_)
            refine wl_opG (k := 9) (k' := 10) rfl rfl ⟨_, _, _, rfl, rfl, rfl, rfl⟩ rfl (wo_ct rfl rfl rfl rfl rfl rfl rfl cf23 S12 (UnitOf_t a ha (1000) (hca) (hba) ((by omega)) S12.lend) ?_)
            intro vw13 w13 M9 hle9 S13 hRw13; clear S12
            replace ha := ha.mono hle9
            replace hr1 := hr1.mono hle9
            replace hr2 := hr2.mono hle9
            replace hr6 := hr6.mono hle9
            replace hr7 := hr7.mono hle9
            replace hr8 := hr8.mono hle9
            obtain ⟨A9, c9, rfl, hr9⟩ := hRw13
            refine wl_opG (k := 10) (k' := 11) rfl rfl ⟨_, _, _, rfl, rfl, rfl, rfl⟩ rfl (wo_cq rfl rfl rfl rfl rfl rfl rfl cf17 S13 (sameTerms_q l1 (List.map (unT a) a) (hr2.mono (Hp.le_un _ _)) (hr9.mono (Hp.le_un _ _)) ((can_ext hcan1 (unT_can hca hba (by omega)).1 (hmk1.trans (mk_unT a a).symm))) S13.lend) ?_)
            rintro _ w14 S14 rfl; clear S13
            refine wl_opG (k := 11) (k' := 12) rfl rfl ⟨_, _, _, rfl, rfl, rfl, rfl⟩ rfl (wo_run rfl rfl (run_not rfl rfl) ?_)
            refine wl_op (k := 12) (k' := 13) rfl rfl rfl (wo_run rfl rfl (run_pickF rfl rfl rfl) ?_)
            refine wl_op (k := 13) (k' := 14) rfl rfl rfl (wo_run rfl rfl (run_move rfl rfl) ?_)
            refine wl_opG (k := 14) (k' := 15) rfl rfl ⟨_, _, _, rfl, rfl, rfl, rfl⟩ rfl (wo_run rfl rfl (run_move rfl rfl) ?_)
            refine wl_opG (k := 15) (k' := 16) rfl rfl ⟨_, _, _, rfl, rfl, rfl, rfl⟩ rfl (wo_run rfl rfl (run_move rfl rfl) ?_)
            refine wl_opG (k := 16) (k' := 17) rfl rfl ⟨_, _, _, rfl, rfl, rfl, rfl⟩ rfl (wo_ct rfl rfl rfl rfl rfl rfl rfl cf24 S14 (FlipOf_t a ha (1000) (hca) (hba) ((by omega)) S14.lend) ?_)
            intro vw15 w15 M10 hle10 S15 hRw15; clear S14
            replace ha := ha.mono hle10
            replace hr1 := hr1.mono hle10
            replace hr2 := hr2.mono hle10
            replace hr6 := hr6.mono hle10
            replace hr7 := hr7.mono hle10
            replace hr8 := hr8.mono hle10
            replace hr9 := hr9.mono hle10
            obtain ⟨A10, c10, rfl, hr10⟩ := hRw15
            refine wl_opG (k := 17) (k' := 18) rfl rfl ⟨_, _, _, rfl, rfl, rfl, rfl⟩ rfl (wo_cq rfl rfl rfl rfl rfl rfl rfl cf17 S15 (sameTerms_q l3 (a.reverse.map flT) (hr7.mono (Hp.le_un _ _)) (hr10.mono (Hp.le_un _ _)) ((can_ext hcan3 (flT_can hca hba (by omega)).1 (hmk3.trans (mk_flT a).symm))) S15.lend) ?_)
            rintro _ w16 S16 rfl; clear S15
            refine wl_opG (k := 18) (k' := 19) rfl rfl ⟨_, _, _, rfl, rfl, rfl, rfl⟩ rfl (wo_run rfl rfl (run_not rfl rfl) ?_)
            refine wl_op (k := 19) (k' := 20) rfl rfl rfl (wo_run rfl rfl (run_pickF rfl rfl rfl) ?_)
            refine wl_end rfl ?_
            refine nm_sub [(0, _), (1, _), (9, _), (10, _), (76, _)] ⟨rfl, rfl, rfl, rfl, rfl, trivial⟩ ?_
            refine nm_thn ?_
            refine ws_condFN PolyTurns_n22 rfl rfl rfl ?_
            refine ws_skip rfl ?_
            refine nm_sub [(0, _), (1, _), (9, _), (10, _)] ⟨rfl, rfl, rfl, rfl, trivial⟩ ?_
            refine nm_thn ?_
            refine ws_seqN PolyTurns_n23 PolyTurns_n24 rfl rfl rfl ?_
            refine ws_seqN PolyTurns_n25 PolyTurns_n26 rfl rfl rfl ?_
            refine ws_region rfl ?_
            refine wl_op (k := 0) (k' := 1) rfl rfl rfl (wo_run rfl rfl (run_move rfl rfl) ?_)
            refine wl_op (k := 1) (k' := 2) rfl rfl rfl (wo_run rfl rfl (run_neq rfl rfl rfl) ?_)
            refine wl_op (k := 2) (k' := 3) rfl rfl rfl (wo_run rfl rfl (run_move rfl rfl) ?_)
            refine wl_split (t := 79) rfl (fun hg79 => ?_) (fun hg79 => ?_)
            · have hg79 := of_decide_eq_true hg79
              refine wl_opG (k := 3) (k' := 4) rfl rfl ⟨_, _, _, rfl, rfl, rfl, rfl⟩ rfl (wo_run rfl rfl (run_move rfl rfl) ?_)
              refine wl_opG (k := 4) (k' := 5) rfl rfl ⟨_, _, _, rfl, rfl, rfl, rfl⟩ rfl (wo_run rfl rfl (run_neq rfl rfl rfl) ?_)
              refine wl_op (k := 5) (k' := 6) rfl rfl rfl (wo_run rfl rfl (run_pickT rfl rfl rfl) ?_)
              refine wl_end rfl ?_
              refine nm_sub [(0, _), (1, _), (9, _), (10, _), (82, _)] ⟨rfl, rfl, rfl, rfl, rfl, trivial⟩ ?_
              refine nm_thn ?_
              refine ws_condN PolyTurns_n27 PolyTurns_n28 rfl rfl rfl rfl (fun hb82 => ?_) (fun hb82 => ?_)
              · have hb82 := of_decide_eq_true hb82
                refine ws_seqN PolyTurns_n29 PolyTurns_n30 rfl rfl rfl ?_
                refine ws_region rfl ?_
                refine wl_op (k := 0) (k' := 1) rfl rfl rfl (wo_run rfl rfl (run_move rfl rfl) ?_)
                refine wl_op (k := 1) (k' := 2) rfl rfl rfl (wo_run rfl rfl (run_eql rfl rfl rfl) ?_)
                refine wl_op (k := 2) (k' := 3) rfl rfl rfl (wo_run rfl rfl (run_move rfl rfl) ?_)
                refine wl_split (t := 85) rfl (fun hg85 => ?_) (fun hg85 => ?_)
                · have hg85 := of_decide_eq_true hg85
                  refine wl_opG (k := 3) (k' := 4) rfl rfl ⟨_, _, _, rfl, rfl, rfl, rfl⟩ rfl (wo_run rfl rfl (run_move rfl rfl) ?_)
                  refine wl_opG (k := 4) (k' := 5) rfl rfl ⟨_, _, _, rfl, rfl, rfl, rfl⟩ rfl (wo_run rfl rfl (run_eql rfl rfl rfl) ?_)
                  refine wl_op (k := 5) (k' := 6) rfl rfl rfl (wo_run rfl rfl (run_pickT rfl rfl rfl) ?_)
                  refine wl_op (k := 6) (k' := 7) rfl rfl rfl (wo_run rfl rfl (run_assign rfl rfl) ?_)
                  refine wl_end rfl ?_
                  refine nm_sub [(4, _)] ⟨rfl, trivial⟩ ?_
                  refine nm_thn ?_
                  refine ws_ret hC [_] rfl rfl ⟨rfl, trivial⟩ ?_
                  refine ⟨_, rfl, _, (((((hle1.trans hle2).trans hle6).trans hle7).trans hle8).trans hle9).trans hle10, (S16.pick [] [] (by decide) trivial), ?_⟩
                  show Value.bool _ = _
                  refine congrArg Value.bool ?_
                  first | rfl | (rw [decide_eq_true_iff]; omega) | (rw [hat]; decide) | (rw [decide_eq_true_iff]; first | (have e9 := hat (by omega); rw [e9]; done) | (have e9 := hat2 (by omega); rw [e9]; done) | (rw [hat]; done)) | (simp_all; done)
                · have hg85 := of_decide_eq_false hg85
                  exfalso; first | omega | (simp_all; done) | contradiction | (have e9 := hat (by omega); simp only [e9] at *; first | omega | (simp_all; done)) | (have e9 := hat2 (by omega); simp only [e9] at *; first | omega | (simp_all; done)) | (simp only [hat] at *; first | omega | (simp_all; done))
              · have hb82 := of_decide_eq_false hb82
                refine ws_skip rfl ?_
                refine nm_sub [(0, _), (1, _), (9, _), (10, _)] ⟨rfl, rfl, rfl, rfl, trivial⟩ ?_
                refine nm_thn ?_
                refine ws_seqN PolyTurns_n31 PolyTurns_n32 rfl rfl rfl ?_
                refine ws_region rfl ?_
                refine wl_op (k := 0) (k' := 1) rfl rfl rfl (wo_run rfl rfl (run_move rfl rfl) ?_)
                refine wl_op (k := 1) (k' := 2) rfl rfl rfl (wo_run rfl rfl (run_eql rfl rfl rfl) ?_)
                refine wl_op (k := 2) (k' := 3) rfl rfl rfl (wo_run rfl rfl (run_move rfl rfl) ?_)
                refine wl_split (t := 91) rfl (fun hg91 => ?_) (fun hg91 => ?_)
                · have hg91 := of_decide_eq_true hg91
                  refine wl_opG (k := 3) (k' := 4) rfl rfl ⟨_, _, _, rfl, rfl, rfl, rfl⟩ rfl (wo_run rfl rfl (run_move rfl rfl) ?_)
                  refine wl_opG (k := 4) (k' := 5) rfl rfl ⟨_, _, _, rfl, rfl, rfl, rfl⟩ rfl (wo_run rfl rfl (run_move rfl rfl) ?_)
                  refine wl_opG (k := 5) (k' := 6) rfl rfl ⟨_, _, _, rfl, rfl, rfl, rfl⟩ rfl (wo_run rfl rfl (run_move rfl rfl) ?_)
                  refine wl_opG (k := 6) (k' := 7) rfl rfl ⟨_, _, _, rfl, rfl, rfl, rfl⟩ rfl (wo_cq rfl rfl rfl rfl rfl rfl rfl cf25 S16 (AtOf_q a t (ha.mono (Hp.le_un _ _)) S16.lend) ?_)
                  rintro _ w17 S17 rfl; clear S16
                  refine wl_opG (k := 7) (k' := 8) rfl rfl ⟨_, _, _, rfl, rfl, rfl, rfl⟩ rfl (wo_run rfl rfl (run_eql rfl rfl rfl) ?_)
                  refine wl_op (k := 8) (k' := 9) rfl rfl rfl (wo_run rfl rfl (run_pickT rfl rfl rfl) ?_)
                  refine wl_op (k := 9) (k' := 10) rfl rfl rfl (wo_run rfl rfl (run_assign rfl rfl) ?_)
                  refine wl_end rfl ?_
                  refine nm_sub [(4, _)] ⟨rfl, trivial⟩ ?_
                  refine nm_thn ?_
                  refine ws_ret hC [_] rfl rfl ⟨rfl, trivial⟩ ?_
                  refine ⟨_, rfl, _, (((((hle1.trans hle2).trans hle6).trans hle7).trans hle8).trans hle9).trans hle10, (S17.pick [] [] (by decide) trivial), ?_⟩
                  show Value.bool _ = _
                  refine congrArg Value.bool ?_
                  first | rfl | (rw [decide_eq_true_iff]; omega) | (rw [hat]; decide) | (rw [decide_eq_true_iff]; first | (have e9 := hat (by omega); rw [e9]; done) | (have e9 := hat2 (by omega); rw [e9]; done) | (rw [hat]; done)) | (simp_all; done)
                · have hg91 := of_decide_eq_false hg91
                  exfalso; first | omega | (simp_all; done) | contradiction | (have e9 := hat (by omega); simp only [e9] at *; first | omega | (simp_all; done)) | (have e9 := hat2 (by omega); simp only [e9] at *; first | omega | (simp_all; done)) | (simp only [hat] at *; first | omega | (simp_all; done))
            · have hg79 := of_decide_eq_false hg79
              refine wl_no (k := 3) (k' := 4) (d := 80) rfl rfl ⟨_, _, _, rfl, rfl, rfl, rfl⟩ rfl rfl ?_
              refine wl_no (k := 4) (k' := 5) (d := 81) rfl rfl ⟨_, _, _, rfl, rfl, rfl, rfl⟩ rfl rfl ?_
              refine wl_op (k := 5) (k' := 6) rfl rfl rfl (wo_run rfl rfl (run_pickF rfl rfl rfl) ?_)
              refine wl_end rfl ?_
              refine nm_sub [(0, _), (1, _), (9, _), (10, _), (82, _)] ⟨rfl, rfl, rfl, rfl, rfl, trivial⟩ ?_
              refine nm_thn ?_
              refine ws_condFN PolyTurns_n28 rfl rfl rfl ?_
              refine ws_skip rfl ?_
              refine nm_sub [(0, _), (1, _), (9, _), (10, _)] ⟨rfl, rfl, rfl, rfl, trivial⟩ ?_
              refine nm_thn ?_
              refine ws_seqN PolyTurns_n31 PolyTurns_n32 rfl rfl rfl ?_
              refine ws_region rfl ?_
              refine wl_op (k := 0) (k' := 1) rfl rfl rfl (wo_run rfl rfl (run_move rfl rfl) ?_)
              refine wl_op (k := 1) (k' := 2) rfl rfl rfl (wo_run rfl rfl (run_eql rfl rfl rfl) ?_)
              refine wl_op (k := 2) (k' := 3) rfl rfl rfl (wo_run rfl rfl (run_move rfl rfl) ?_)
              refine wl_split (t := 91) rfl (fun hg91 => ?_) (fun hg91 => ?_)
              · have hg91 := of_decide_eq_true hg91
                refine wl_opG (k := 3) (k' := 4) rfl rfl ⟨_, _, _, rfl, rfl, rfl, rfl⟩ rfl (wo_run rfl rfl (run_move rfl rfl) ?_)
                refine wl_opG (k := 4) (k' := 5) rfl rfl ⟨_, _, _, rfl, rfl, rfl, rfl⟩ rfl (wo_run rfl rfl (run_move rfl rfl) ?_)
                refine wl_opG (k := 5) (k' := 6) rfl rfl ⟨_, _, _, rfl, rfl, rfl, rfl⟩ rfl (wo_run rfl rfl (run_move rfl rfl) ?_)
                refine wl_opG (k := 6) (k' := 7) rfl rfl ⟨_, _, _, rfl, rfl, rfl, rfl⟩ rfl (wo_cq rfl rfl rfl rfl rfl rfl rfl cf25 S16 (AtOf_q a t (ha.mono (Hp.le_un _ _)) S16.lend) ?_)
                rintro _ w18 S18 rfl; clear S16
                refine wl_opG (k := 7) (k' := 8) rfl rfl ⟨_, _, _, rfl, rfl, rfl, rfl⟩ rfl (wo_run rfl rfl (run_eql rfl rfl rfl) ?_)
                refine wl_op (k := 8) (k' := 9) rfl rfl rfl (wo_run rfl rfl (run_pickT rfl rfl rfl) ?_)
                refine wl_op (k := 9) (k' := 10) rfl rfl rfl (wo_run rfl rfl (run_assign rfl rfl) ?_)
                refine wl_end rfl ?_
                refine nm_sub [(4, _)] ⟨rfl, trivial⟩ ?_
                refine nm_thn ?_
                refine ws_ret hC [_] rfl rfl ⟨rfl, trivial⟩ ?_
                refine ⟨_, rfl, _, (((((hle1.trans hle2).trans hle6).trans hle7).trans hle8).trans hle9).trans hle10, (S18.pick [] [] (by decide) trivial), ?_⟩
                show Value.bool _ = _
                refine congrArg Value.bool ?_
                first | rfl | (rw [decide_eq_true_iff]; omega) | (rw [hat]; decide) | (rw [decide_eq_true_iff]; first | (have e9 := hat (by omega); rw [e9]; done) | (have e9 := hat2 (by omega); rw [e9]; done) | (rw [hat]; done)) | (simp_all; done)
              · have hg91 := of_decide_eq_false hg91
                exfalso; first | omega | (simp_all; done) | contradiction | (have e9 := hat (by omega); simp only [e9] at *; first | omega | (simp_all; done)) | (have e9 := hat2 (by omega); simp only [e9] at *; first | omega | (simp_all; done)) | (simp only [hat] at *; first | omega | (simp_all; done))

end Go.Proofs.Ytkcighnochjlgaa
