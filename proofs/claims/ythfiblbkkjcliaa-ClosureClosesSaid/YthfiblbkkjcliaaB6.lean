/- Walks printed by eng.py. -/
import Derived.Test.YthfiblbkkjcliaaB5
set_option linter.unusedSimpArgs false
set_option linter.unusedVariables false
namespace Go.Proofs.Ythfiblbkkjcliaa
open Go.ChangeShapes Go.WideShapes Go.ChangeAt Go.RowKit
def mayI (n : Int) (u v : List Int) : Int := if n < 2 ∨ 6 < n then 3 else if (u ++ v).any (wrongB n) then 3 else if 20 < u.length ∨ 20 < v.length then 2 else 0
theorem mayI_check (n : Int) (u : List Int) : mayI n u [] = checkI n [u] := by
  unfold mayI checkI
  simp

noncomputable def WordsMay_n0 : Code := Try.f10.body.getD .skip
noncomputable def WordsMay_n1 : Code := cL WordsMay_n0
noncomputable def WordsMay_n2 : Code := cR WordsMay_n0
noncomputable def WordsMay_n3 : Code := cL WordsMay_n2
noncomputable def WordsMay_n4 : Code := cR WordsMay_n2
noncomputable def WordsMay_n5 : Code := cL WordsMay_n3
noncomputable def WordsMay_n6 : Code := cR WordsMay_n3
noncomputable def WordsMay_n7 : Code := cL WordsMay_n6
noncomputable def WordsMay_n8 : Code := cR WordsMay_n6
noncomputable def WordsMay_n9 : Code := cL WordsMay_n7
noncomputable def WordsMay_n10 : Code := cR WordsMay_n7
noncomputable def WordsMay_n11 : Code := cL WordsMay_n4
noncomputable def WordsMay_n12 : Code := cR WordsMay_n4
noncomputable def WordsMay_n13 : Code := cL WordsMay_n12
noncomputable def WordsMay_n14 : Code := cR WordsMay_n12
noncomputable def WordsMay_n15 : Code := cL WordsMay_n13
noncomputable def WordsMay_n16 : Code := cR WordsMay_n13
noncomputable def WordsMay_n17 : Code := cL WordsMay_n16
noncomputable def WordsMay_n18 : Code := cL WordsMay_n17
noncomputable def WordsMay_n19 : Code := cL WordsMay_n18
noncomputable def WordsMay_n20 : Code := cR WordsMay_n18
noncomputable def WordsMay_n21 : Code := cL WordsMay_n19
noncomputable def WordsMay_n22 : Code := cR WordsMay_n19
noncomputable def WordsMay_n23 : Code := cL WordsMay_n22
noncomputable def WordsMay_n24 : Code := cR WordsMay_n22
noncomputable def WordsMay_n25 : Code := cL WordsMay_n20
noncomputable def WordsMay_n26 : Code := cR WordsMay_n20
noncomputable def WordsMay_n27 : Code := cL WordsMay_n25
noncomputable def WordsMay_n28 : Code := cL WordsMay_n27
noncomputable def WordsMay_n29 : Code := cR WordsMay_n27
noncomputable def WordsMay_n30 : Code := cL WordsMay_n29
noncomputable def WordsMay_n31 : Code := cR WordsMay_n29
noncomputable def WordsMay_n32 : Code := cL WordsMay_n30
noncomputable def WordsMay_n33 : Code := cR WordsMay_n30
noncomputable def WordsMay_n34 : Code := cL WordsMay_n14
noncomputable def WordsMay_n35 : Code := cR WordsMay_n14
noncomputable def WordsMay_n36 : Code := cL WordsMay_n34
noncomputable def WordsMay_n37 : Code := cR WordsMay_n34
noncomputable def WordsMay_n38 : Code := cL WordsMay_n37
noncomputable def WordsMay_n39 : Code := cR WordsMay_n37
noncomputable def WordsMay_n40 : Code := cL WordsMay_n38
noncomputable def WordsMay_n41 : Code := cR WordsMay_n38
noncomputable def WordsMay_n42 : Code := cL WordsMay_n35
noncomputable def WordsMay_n43 : Code := cR WordsMay_n35
set_option maxRecDepth 10000 in
theorem WordsMay_q {w : World} {M : Hp} {X : Fr} (n : Int) (p : List Int) {pA : Option Addr} {pc : Nat} (q : List Int) {qA : Option Addr} {qc : Nat} (hp : RdA cdInt (M.un X.h) pA pc p) (hq : RdA cdInt (M.un X.h) qA qc q) (hro : (p.length + q.length) * 8 ≤ 140737488355328) (S : SH w M X []) : Cq Try.prog 10 [.int .i64 n, .slice pA p.length pc, .slice qA q.length qc] w M X (fun u => u = .int .i64 (mayI n p q)) := by
  unfold Cq
  have rmhp : p.length * 8 ≤ 140737488355328 := hp.room
  have rmhq : q.length * 8 ≤ 140737488355328 := hq.room
  have huv : (p ++ q).length = p.length + q.length := List.length_append
  refine calls_in (b := WordsMay_n0) Try.func10 rfl Try.ntmps10 rfl (fun C hC => ?_)
  refine ws_sub [(0, _), (1, _), (2, _)] ⟨rfl, rfl, rfl, trivial⟩ ?_
  refine ws_seqN WordsMay_n1 WordsMay_n2 rfl rfl rfl ?_
  refine ws_region rfl ?_
  refine wl_op (k := 0) (k' := 1) rfl rfl rfl (wo_run rfl rfl (run_assign rfl rfl) ?_)
  refine wl_end rfl ?_
  refine nm_sub [(0, _), (1, _), (2, _)] ⟨rfl, rfl, rfl, trivial⟩ ?_
  refine nm_thn ?_
  refine ws_seqN WordsMay_n3 WordsMay_n4 rfl rfl rfl ?_
  refine ws_seqN WordsMay_n5 WordsMay_n6 rfl rfl rfl ?_
  refine ws_region rfl ?_
  refine wl_op (k := 0) (k' := 1) rfl rfl rfl (wo_run rfl rfl (run_move rfl rfl) ?_)
  refine wl_op (k := 1) (k' := 2) rfl rfl rfl (wo_run rfl rfl (run_lss rfl rfl rfl) ?_)
  refine wl_op (k := 2) (k' := 3) rfl rfl rfl (wo_run rfl rfl (run_move rfl rfl) ?_)
  refine wl_split (t := 11) rfl (fun hg11 => ?_) (fun hg11 => ?_)
  · have hg11 := of_decide_eq_true hg11
    refine wl_no (k := 3) (k' := 4) (d := 12) rfl rfl ⟨_, _, _, rfl, rfl, rfl, rfl⟩ rfl rfl ?_
    refine wl_no (k := 4) (k' := 5) (d := 13) rfl rfl ⟨_, _, _, rfl, rfl, rfl, rfl⟩ rfl rfl ?_
    refine wl_op (k := 5) (k' := 6) rfl rfl rfl (wo_run rfl rfl (run_pickT rfl rfl rfl) ?_)
    refine wl_end rfl ?_
    refine nm_sub [(0, _), (1, _), (2, _), (14, _)] ⟨rfl, rfl, rfl, rfl, trivial⟩ ?_
    refine nm_thn ?_
    refine ws_condTN WordsMay_n7 rfl rfl rfl ?_
    refine ws_seqN WordsMay_n9 WordsMay_n10 rfl rfl rfl ?_
    refine ws_region rfl ?_
    refine wl_op (k := 0) (k' := 1) rfl rfl rfl (wo_run rfl rfl (run_assign rfl rfl) ?_)
    refine wl_end rfl ?_
    refine nm_sub [(6, _)] ⟨rfl, trivial⟩ ?_
    refine nm_thn ?_
    refine ws_ret hC [_] rfl rfl ⟨rfl, trivial⟩ ?_
    exact ⟨_, rfl, (S.pick [] [] (by decide) trivial), (by show Value.int _ _ = _; unfold mayI; first | rw [if_pos (by omega)] | rw [if_neg (by omega), if_pos (by rw [List.any_eq_true]; exact ⟨ga (p ++ q) k, ga_mem (xs := p ++ q) (i := k) (by omega), by unfold wrongB; rw [decide_eq_true_iff]; omega⟩)])⟩
  · have hg11 := of_decide_eq_false hg11
    refine wl_opG (k := 3) (k' := 4) rfl rfl ⟨_, _, _, rfl, rfl, rfl, rfl⟩ rfl (wo_run rfl rfl (run_move rfl rfl) ?_)
    refine wl_opG (k := 4) (k' := 5) rfl rfl ⟨_, _, _, rfl, rfl, rfl, rfl⟩ rfl (wo_run rfl rfl (run_gtr rfl rfl rfl) ?_)
    refine wl_op (k := 5) (k' := 6) rfl rfl rfl (wo_run rfl rfl (run_pickF rfl rfl rfl) ?_)
    refine wl_end rfl ?_
    refine nm_sub [(0, _), (1, _), (2, _), (14, _)] ⟨rfl, rfl, rfl, rfl, trivial⟩ ?_
    refine nm_thn ?_
    refine ws_condN WordsMay_n7 WordsMay_n8 rfl rfl rfl rfl (fun hb14 => ?_) (fun hb14 => ?_)
    · have hb14 := of_decide_eq_true hb14
      refine ws_seqN WordsMay_n9 WordsMay_n10 rfl rfl rfl ?_
      refine ws_region rfl ?_
      refine wl_op (k := 0) (k' := 1) rfl rfl rfl (wo_run rfl rfl (run_assign rfl rfl) ?_)
      refine wl_end rfl ?_
      refine nm_sub [(6, _)] ⟨rfl, trivial⟩ ?_
      refine nm_thn ?_
      refine ws_ret hC [_] rfl rfl ⟨rfl, trivial⟩ ?_
      exact ⟨_, rfl, (S.pick [] [] (by decide) trivial), (by show Value.int _ _ = _; unfold mayI; first | rw [if_pos (by omega)] | rw [if_neg (by omega), if_pos (by rw [List.any_eq_true]; exact ⟨ga (p ++ q) k, ga_mem (xs := p ++ q) (i := k) (by omega), by unfold wrongB; rw [decide_eq_true_iff]; omega⟩)])⟩
    · have hb14 := of_decide_eq_false hb14
      refine ws_skip rfl ?_
      refine nm_sub [(0, _), (1, _), (2, _)] ⟨rfl, rfl, rfl, trivial⟩ ?_
      refine nm_thn ?_
      refine ws_seqN WordsMay_n11 WordsMay_n12 rfl rfl rfl ?_
      refine ws_region rfl ?_
      refine wl_op (k := 0) (k' := 1) rfl rfl rfl (wo_run rfl rfl (run_move rfl rfl) ?_)
      have S1 := S.nilrow cdInt; clear S
      refine wl_op (k := 1) (k' := 2) rfl rfl rfl (wo_appendM (C := cdInt) (i := 0) rfl rfl rfl rfl rfl rfl rfl rfl sl22 S1 rfl hp S1.um (by have h : _ * 8 ≤ _ := hp.room; show (0 + _) * 8 ≤ _; first | omega | (simp only [List.length_set, List.length_append, List.length_replicate, List.length_singleton, List.length_cons, List.length_nil]; omega)) ?_)
      intro vr2 w1 S2; clear S1
      change SH _ _ _ [Rs.row cdInt vr2 p] at S2
      refine wl_op (k := 2) (k' := 3) rfl rfl rfl (wo_run rfl rfl (run_move rfl rfl) ?_)
      refine wl_op (k := 3) (k' := 4) rfl rfl rfl (wo_appendM (C := cdInt) (i := 0) rfl rfl rfl rfl rfl rfl rfl rfl sl22 S2 rfl hq S2.um (by show (_ + _) * 8 ≤ _; first | omega | (simp only [List.length_set, List.length_append, List.length_replicate, List.length_singleton, List.length_cons, List.length_nil]; omega)) ?_)
      intro vr3 w2 S3; clear S2
      change SH _ _ _ [Rs.row cdInt vr3 (p ++ q)] at S3
      refine wl_op (k := 4) (k' := 5) rfl rfl rfl (wo_run rfl rfl (run_assign rfl rfl) ?_)
      refine wl_end rfl ?_
      refine nm_sub [(0, _), (1, _), (2, _), (7, _)] ⟨rfl, rfl, rfl, rfl, trivial⟩ ?_
      refine nm_thn ?_
      refine ws_seqN WordsMay_n13 WordsMay_n14 rfl rfl rfl ?_
      refine ws_seqN WordsMay_n15 WordsMay_n16 rfl rfl rfl ?_
      refine ws_region rfl ?_
      refine wl_op (k := 0) (k' := 1) rfl rfl rfl (wo_run rfl rfl (run_assign rfl rfl) ?_)
      refine wl_end rfl ?_
      refine nm_thn ?_
      refine ws_blockN WordsMay_n17 0 rfl rfl rfl ?_
      refine ws_loopE (fun mx_ ax_ wx_ => ∃ (k : Nat) (acc : List Int) (vro : Value), mx_ = acc.length - k ∧ Env 55 [(0, .int .i64 n), (1, .slice pA p.length pc), (2, .slice qA q.length qc), (7, vro), (8, .int .i64 (k : Int))] ax_ ∧ SH wx_ M X [Rs.row cdInt vro acc] ∧ k ≤ acc.length ∧ acc = p ++ q ∧ (∀ j, j < k → wrongB n (ga (p ++ q) j) = false)) rfl ?_ ?_
      · intro ax_ hax_
        refine ⟨_, ⟨0, _, _, rfl, hax_.sub ⟨rfl, rfl, rfl, rfl, rfl, trivial⟩, S3.pick [0] [_] (by decide) ⟨rfl, trivial⟩, ?hq1f0, ?hq1f1, ?hq1f2⟩⟩
        case hq1f0 => omega
        case hq1f1 => rfl
        case hq1f2 => (intro j hj; omega)
      · rintro m1 a1 w3 ⟨k, acc, vro, rfl, he1, S4, hk, hacc, hno⟩
        clear S3
        refine ws_in he1 (c := WordsMay_n18) rfl ?_
        clear he1 a1
        subst hacc
        refine ws_seqN WordsMay_n19 WordsMay_n20 rfl rfl rfl ?_
        refine ws_seqN WordsMay_n21 WordsMay_n22 rfl rfl rfl ?_
        refine ws_region rfl ?_
        refine wl_op (k := 0) (k' := 1) rfl rfl rfl (wo_run rfl rfl (run_move rfl rfl) ?_)
        refine wl_op (k := 1) (k' := 2) rfl rfl rfl (wo_run rfl rfl (run_move rfl rfl) ?_)
        refine wl_op (k := 2) (k' := 3) rfl rfl rfl (wo_run rfl rfl (run_lenR (C := cdInt) (i := 0) rfl rfl rfl rfl rfl rfl sl22 S4 rfl) ?_)
        refine wl_op (k := 3) (k' := 4) rfl rfl rfl (wo_run rfl rfl (run_lss rfl rfl rfl) ?_)
        refine wl_end rfl ?_
        refine nm_sub [(0, _), (1, _), (2, _), (7, _), (8, _), (22, _)] ⟨rfl, rfl, rfl, rfl, rfl, rfl, trivial⟩ ?_
        refine nm_thn ?_
        refine ws_condN WordsMay_n23 WordsMay_n24 rfl rfl rfl rfl (fun hb22 => ?_) (fun hb22 => ?_)
        · have hb22 := of_decide_eq_true hb22
          refine ws_skip rfl ?_
          refine nm_sub [(0, _), (1, _), (2, _), (7, _), (8, _)] ⟨rfl, rfl, rfl, rfl, rfl, trivial⟩ ?_
          refine nm_thn ?_
          refine ws_seqN WordsMay_n25 WordsMay_n26 rfl rfl rfl ?_
          refine ws_blockN WordsMay_n27 1 rfl rfl rfl ?_
          refine ws_seqN WordsMay_n28 WordsMay_n29 rfl rfl rfl ?_
          refine ws_region rfl ?_
          refine wl_op (k := 0) (k' := 1) rfl rfl rfl (wo_run rfl rfl (run_move rfl rfl) ?_)
          refine wl_op (k := 1) (k' := 2) rfl rfl rfl (wo_run rfl rfl (run_move rfl rfl) ?_)
          refine wl_op (k := 2) (k' := 3) rfl rfl rfl (wo_run rfl rfl (run_indexR (C := cdInt) (i := 0) k rfl rfl rfl sl22 S4 rfl (by first | rfl | omega) (by first | omega | (simp only [List.length_set, List.length_append, List.length_replicate, List.length_singleton, List.length_cons, List.length_nil]; omega))) ?_)
          refine wl_op (k := 3) (k' := 4) rfl rfl rfl (wo_run rfl rfl (run_load1 rfl rfl Try.underlying3 rfl (S4.rowc (i := 0) (e := k) (j := 0) rfl (by first | omega | (simp only [List.length_set, List.length_append, List.length_replicate, List.length_singleton, List.length_cons, List.length_nil]; omega)) rfl rfl)) ?_)
          refine wl_op (k := 4) (k' := 5) rfl rfl rfl (wo_run rfl rfl (run_eql rfl rfl rfl) ?_)
          refine wl_op (k := 5) (k' := 6) rfl rfl rfl (wo_run rfl rfl (run_move rfl rfl) ?_)
          refine wl_split (t := 30) rfl (fun hg30 => ?_) (fun hg30 => ?_)
          · have hg30 := of_decide_eq_true hg30
            refine wl_no (k := 6) (k' := 7) (d := 31) rfl rfl ⟨_, _, _, rfl, rfl, rfl, rfl⟩ rfl rfl ?_
            refine wl_no (k := 7) (k' := 8) (d := 32) rfl rfl ⟨_, _, _, rfl, rfl, rfl, rfl⟩ rfl rfl ?_
            refine wl_no (k := 8) (k' := 9) (d := 33) rfl rfl ⟨_, _, _, rfl, rfl, rfl, rfl⟩ rfl rfl ?_
            refine wl_no (k := 9) (k' := 10) (d := 34) rfl rfl ⟨_, _, _, rfl, rfl, rfl, rfl⟩ rfl rfl ?_
            refine wl_no (k := 10) (k' := 11) (d := 35) rfl rfl ⟨_, _, _, rfl, rfl, rfl, rfl⟩ rfl rfl ?_
            refine wl_no (k := 11) (k' := 12) (d := 36) rfl rfl ⟨_, _, _, rfl, rfl, rfl, rfl⟩ rfl rfl ?_
            refine wl_no (k := 12) (k' := 13) (d := 37) rfl rfl ⟨_, _, _, rfl, rfl, rfl, rfl⟩ rfl rfl ?_
            refine wl_op (k := 13) (k' := 14) rfl rfl rfl (wo_run rfl rfl (run_pickT rfl rfl rfl) ?_)
            refine wl_op (k := 14) (k' := 15) rfl rfl rfl (wo_run rfl rfl (run_move rfl rfl) ?_)
            refine wl_no (k := 15) (k' := 16) (d := 40) rfl rfl ⟨_, _, _, rfl, rfl, rfl, rfl⟩ rfl rfl ?_
            refine wl_no (k := 16) (k' := 17) (d := 41) rfl rfl ⟨_, _, _, rfl, rfl, rfl, rfl⟩ rfl rfl ?_
            refine wl_no (k := 17) (k' := 18) (d := 42) rfl rfl ⟨_, _, _, rfl, rfl, rfl, rfl⟩ rfl rfl ?_
            refine wl_no (k := 18) (k' := 19) (d := 43) rfl rfl ⟨_, _, _, rfl, rfl, rfl, rfl⟩ rfl rfl ?_
            refine wl_no (k := 19) (k' := 20) (d := 44) rfl rfl ⟨_, _, _, rfl, rfl, rfl, rfl⟩ rfl rfl ?_
            refine wl_no (k := 20) (k' := 21) (d := 45) rfl rfl ⟨_, _, _, rfl, rfl, rfl, rfl⟩ rfl rfl ?_
            refine wl_op (k := 21) (k' := 22) rfl rfl rfl (wo_run rfl rfl (run_pickT rfl rfl rfl) ?_)
            refine wl_end rfl ?_
            refine nm_sub [(0, _), (1, _), (2, _), (7, _), (8, _), (46, _)] ⟨rfl, rfl, rfl, rfl, rfl, rfl, trivial⟩ ?_
            refine nm_thn ?_
            refine ws_condTN WordsMay_n30 rfl rfl rfl ?_
            refine ws_seqN WordsMay_n32 WordsMay_n33 rfl rfl rfl ?_
            refine ws_region rfl ?_
            refine wl_op (k := 0) (k' := 1) rfl rfl rfl (wo_run rfl rfl (run_assign rfl rfl) ?_)
            refine wl_end rfl ?_
            refine nm_sub [(6, _)] ⟨rfl, trivial⟩ ?_
            refine nm_thn ?_
            refine ws_ret hC [_] rfl rfl ⟨rfl, trivial⟩ ?_
            exact ⟨_, rfl, (S4.pick [] [] (by decide) trivial), (by show Value.int _ _ = _; unfold mayI; first | rw [if_pos (by omega)] | rw [if_neg (by omega), if_pos (by rw [List.any_eq_true]; exact ⟨ga (p ++ q) k, ga_mem (xs := p ++ q) (i := k) (by omega), by unfold wrongB; rw [decide_eq_true_iff]; omega⟩)])⟩
          · have hg30 := of_decide_eq_false hg30
            refine wl_opG (k := 6) (k' := 7) rfl rfl ⟨_, _, _, rfl, rfl, rfl, rfl⟩ rfl (wo_run rfl rfl (run_move rfl rfl) ?_)
            refine wl_opG (k := 7) (k' := 8) rfl rfl ⟨_, _, _, rfl, rfl, rfl, rfl⟩ rfl (wo_run rfl rfl (run_move rfl rfl) ?_)
            refine wl_opG (k := 8) (k' := 9) rfl rfl ⟨_, _, _, rfl, rfl, rfl, rfl⟩ rfl (wo_run rfl rfl (run_indexR (C := cdInt) (i := 0) k rfl rfl rfl sl22 S4 rfl (by first | rfl | omega) (by first | omega | (simp only [List.length_set, List.length_append, List.length_replicate, List.length_singleton, List.length_cons, List.length_nil]; omega))) ?_)
            refine wl_opG (k := 9) (k' := 10) rfl rfl ⟨_, _, _, rfl, rfl, rfl, rfl⟩ rfl (wo_run rfl rfl (run_load1 rfl rfl Try.underlying3 rfl (S4.rowc (i := 0) (e := k) (j := 0) rfl (by first | omega | (simp only [List.length_set, List.length_append, List.length_replicate, List.length_singleton, List.length_cons, List.length_nil]; omega)) rfl rfl)) ?_)
            refine wl_opG (k := 10) (k' := 11) rfl rfl ⟨_, _, _, rfl, rfl, rfl, rfl⟩ rfl (wo_run rfl rfl (run_move rfl rfl) ?_)
            refine wl_opG (k := 11) (k' := 12) rfl rfl ⟨_, _, _, rfl, rfl, rfl, rfl⟩ rfl (wo_run rfl rfl (run_neg rfl rfl (by first | omega | (simp only [List.length_set, List.length_append, List.length_replicate, List.length_singleton, List.length_cons, List.length_nil]; omega))) ?_)
            refine wl_opG (k := 12) (k' := 13) rfl rfl ⟨_, _, _, rfl, rfl, rfl, rfl⟩ rfl (wo_run rfl rfl (run_leq rfl rfl rfl) ?_)
            refine wl_op (k := 13) (k' := 14) rfl rfl rfl (wo_run rfl rfl (run_pickF rfl rfl rfl) ?_)
            refine wl_op (k := 14) (k' := 15) rfl rfl rfl (wo_run rfl rfl (run_move rfl rfl) ?_)
            refine wl_split (t := 39) rfl (fun hg39 => ?_) (fun hg39 => ?_)
            · have hg39 := of_decide_eq_true hg39
              refine wl_no (k := 15) (k' := 16) (d := 40) rfl rfl ⟨_, _, _, rfl, rfl, rfl, rfl⟩ rfl rfl ?_
              refine wl_no (k := 16) (k' := 17) (d := 41) rfl rfl ⟨_, _, _, rfl, rfl, rfl, rfl⟩ rfl rfl ?_
              refine wl_no (k := 17) (k' := 18) (d := 42) rfl rfl ⟨_, _, _, rfl, rfl, rfl, rfl⟩ rfl rfl ?_
              refine wl_no (k := 18) (k' := 19) (d := 43) rfl rfl ⟨_, _, _, rfl, rfl, rfl, rfl⟩ rfl rfl ?_
              refine wl_no (k := 19) (k' := 20) (d := 44) rfl rfl ⟨_, _, _, rfl, rfl, rfl, rfl⟩ rfl rfl ?_
              refine wl_no (k := 20) (k' := 21) (d := 45) rfl rfl ⟨_, _, _, rfl, rfl, rfl, rfl⟩ rfl rfl ?_
              refine wl_op (k := 21) (k' := 22) rfl rfl rfl (wo_run rfl rfl (run_pickT rfl rfl rfl) ?_)
              refine wl_end rfl ?_
              refine nm_sub [(0, _), (1, _), (2, _), (7, _), (8, _), (46, _)] ⟨rfl, rfl, rfl, rfl, rfl, rfl, trivial⟩ ?_
              refine nm_thn ?_
              refine ws_condTN WordsMay_n30 rfl rfl rfl ?_
              refine ws_seqN WordsMay_n32 WordsMay_n33 rfl rfl rfl ?_
              refine ws_region rfl ?_
              refine wl_op (k := 0) (k' := 1) rfl rfl rfl (wo_run rfl rfl (run_assign rfl rfl) ?_)
              refine wl_end rfl ?_
              refine nm_sub [(6, _)] ⟨rfl, trivial⟩ ?_
              refine nm_thn ?_
              refine ws_ret hC [_] rfl rfl ⟨rfl, trivial⟩ ?_
              exact ⟨_, rfl, (S4.pick [] [] (by decide) trivial), (by show Value.int _ _ = _; unfold mayI; first | rw [if_pos (by omega)] | rw [if_neg (by omega), if_pos (by rw [List.any_eq_true]; exact ⟨ga (p ++ q) k, ga_mem (xs := p ++ q) (i := k) (by omega), by unfold wrongB; rw [decide_eq_true_iff]; omega⟩)])⟩
            · have hg39 := of_decide_eq_false hg39
              refine wl_opG (k := 15) (k' := 16) rfl rfl ⟨_, _, _, rfl, rfl, rfl, rfl⟩ rfl (wo_run rfl rfl (run_move rfl rfl) ?_)
              refine wl_opG (k := 16) (k' := 17) rfl rfl ⟨_, _, _, rfl, rfl, rfl, rfl⟩ rfl (wo_run rfl rfl (run_move rfl rfl) ?_)
              refine wl_opG (k := 17) (k' := 18) rfl rfl ⟨_, _, _, rfl, rfl, rfl, rfl⟩ rfl (wo_run rfl rfl (run_indexR (C := cdInt) (i := 0) k rfl rfl rfl sl22 S4 rfl (by first | rfl | omega) (by first | omega | (simp only [List.length_set, List.length_append, List.length_replicate, List.length_singleton, List.length_cons, List.length_nil]; omega))) ?_)
              refine wl_opG (k := 18) (k' := 19) rfl rfl ⟨_, _, _, rfl, rfl, rfl, rfl⟩ rfl (wo_run rfl rfl (run_load1 rfl rfl Try.underlying3 rfl (S4.rowc (i := 0) (e := k) (j := 0) rfl (by first | omega | (simp only [List.length_set, List.length_append, List.length_replicate, List.length_singleton, List.length_cons, List.length_nil]; omega)) rfl rfl)) ?_)
              refine wl_opG (k := 19) (k' := 20) rfl rfl ⟨_, _, _, rfl, rfl, rfl, rfl⟩ rfl (wo_run rfl rfl (run_move rfl rfl) ?_)
              refine wl_opG (k := 20) (k' := 21) rfl rfl ⟨_, _, _, rfl, rfl, rfl, rfl⟩ rfl (wo_run rfl rfl (run_geq rfl rfl rfl) ?_)
              refine wl_op (k := 21) (k' := 22) rfl rfl rfl (wo_run rfl rfl (run_pickF rfl rfl rfl) ?_)
              refine wl_end rfl ?_
              refine nm_sub [(0, _), (1, _), (2, _), (7, _), (8, _), (46, _)] ⟨rfl, rfl, rfl, rfl, rfl, rfl, trivial⟩ ?_
              refine nm_thn ?_
              refine ws_condN WordsMay_n30 WordsMay_n31 rfl rfl rfl rfl (fun hb46 => ?_) (fun hb46 => ?_)
              · have hb46 := of_decide_eq_true hb46
                refine ws_seqN WordsMay_n32 WordsMay_n33 rfl rfl rfl ?_
                refine ws_region rfl ?_
                refine wl_op (k := 0) (k' := 1) rfl rfl rfl (wo_run rfl rfl (run_assign rfl rfl) ?_)
                refine wl_end rfl ?_
                refine nm_sub [(6, _)] ⟨rfl, trivial⟩ ?_
                refine nm_thn ?_
                refine ws_ret hC [_] rfl rfl ⟨rfl, trivial⟩ ?_
                exact ⟨_, rfl, (S4.pick [] [] (by decide) trivial), (by show Value.int _ _ = _; unfold mayI; first | rw [if_pos (by omega)] | rw [if_neg (by omega), if_pos (by rw [List.any_eq_true]; exact ⟨ga (p ++ q) k, ga_mem (xs := p ++ q) (i := k) (by omega), by unfold wrongB; rw [decide_eq_true_iff]; omega⟩)])⟩
              · have hb46 := of_decide_eq_false hb46
                refine ws_skip rfl ?_
                refine nm_blk ?_
                refine nm_sub [(0, _), (1, _), (2, _), (7, _), (8, _)] ⟨rfl, rfl, rfl, rfl, rfl, trivial⟩ ?_
                refine nm_thn ?_
                refine ws_region rfl ?_
                refine wl_op (k := 0) (k' := 1) rfl rfl rfl (wo_run rfl rfl (run_move rfl rfl) ?_)
                refine wl_op (k := 1) (k' := 2) rfl rfl rfl (wo_run rfl rfl (run_add rfl rfl rfl (by first | omega | (simp only [List.length_set, List.length_append, List.length_replicate, List.length_singleton, List.length_cons, List.length_nil]; omega))) ?_)
                refine wl_op (k := 2) (k' := 3) rfl rfl rfl (wo_run rfl rfl (run_assign rfl rfl) ?_)
                refine wl_end rfl ?_
                refine nm_lp ?_
                intro ax_ hax_
                refine ⟨_, ?hq2m, ⟨k + 1, _, _, rfl, hax_.sub ⟨rfl, rfl, rfl, rfl, rfl, trivial⟩, S4.pick [0] [_] (by decide) ⟨rfl, trivial⟩, ?hq2f0, ?hq2f1, ?hq2f2⟩⟩
                case hq2f0 => omega
                case hq2f1 => rfl
                case hq2f2 => (intro j hj; by_cases h : j = k; (subst h; unfold wrongB; rw [decide_eq_false_iff_not]; omega); exact hno j (by omega))
                case hq2m => omega
        · have hb22 := of_decide_eq_false hb22
          refine ws_exit rfl rfl ?_
          refine nm_sub [(1, _), (2, _)] ⟨rfl, rfl, trivial⟩ ?_
          refine nm_thn ?_
          refine ws_seqN WordsMay_n34 WordsMay_n35 rfl rfl rfl ?_
          refine ws_seqN WordsMay_n36 WordsMay_n37 rfl rfl rfl ?_
          refine ws_region rfl ?_
          refine wl_op (k := 0) (k' := 1) rfl rfl rfl (wo_run rfl rfl (run_move rfl rfl) ?_)
          refine wl_op (k := 1) (k' := 2) rfl rfl rfl (wo_run rfl rfl (run_len rfl rfl rfl rfl rfl rfl Try.underlying22) ?_)
          refine wl_op (k := 2) (k' := 3) rfl rfl rfl (wo_run rfl rfl (run_gtr rfl rfl rfl) ?_)
          refine wl_op (k := 3) (k' := 4) rfl rfl rfl (wo_run rfl rfl (run_move rfl rfl) ?_)
          refine wl_split (t := 50) rfl (fun hg50 => ?_) (fun hg50 => ?_)
          · have hg50 := of_decide_eq_true hg50
            refine wl_no (k := 4) (k' := 5) (d := 51) rfl rfl ⟨_, _, _, rfl, rfl, rfl, rfl⟩ rfl rfl ?_
            refine wl_no (k := 5) (k' := 6) (d := 52) rfl rfl ⟨_, _, _, rfl, rfl, rfl, rfl⟩ rfl rfl ?_
            refine wl_no (k := 6) (k' := 7) (d := 53) rfl rfl ⟨_, _, _, rfl, rfl, rfl, rfl⟩ rfl rfl ?_
            refine wl_op (k := 7) (k' := 8) rfl rfl rfl (wo_run rfl rfl (run_pickT rfl rfl rfl) ?_)
            refine wl_end rfl ?_
            refine nm_sub [(54, _)] ⟨rfl, trivial⟩ ?_
            refine nm_thn ?_
            refine ws_condTN WordsMay_n38 rfl rfl rfl ?_
            refine ws_seqN WordsMay_n40 WordsMay_n41 rfl rfl rfl ?_
            refine ws_region rfl ?_
            refine wl_op (k := 0) (k' := 1) rfl rfl rfl (wo_run rfl rfl (run_assign rfl rfl) ?_)
            refine wl_end rfl ?_
            refine nm_sub [(6, _)] ⟨rfl, trivial⟩ ?_
            refine nm_thn ?_
            refine ws_ret hC [_] rfl rfl ⟨rfl, trivial⟩ ?_
            exact ⟨_, rfl, (S4.pick [] [] (by decide) trivial), (by show Value.int _ _ = _; unfold mayI; rw [if_neg (by omega), if_neg (by rw [anyF (fun j hj => hno j (by omega))]; exact Bool.false_ne_true), if_pos (by omega)])⟩
          · have hg50 := of_decide_eq_false hg50
            refine wl_opG (k := 4) (k' := 5) rfl rfl ⟨_, _, _, rfl, rfl, rfl, rfl⟩ rfl (wo_run rfl rfl (run_move rfl rfl) ?_)
            refine wl_opG (k := 5) (k' := 6) rfl rfl ⟨_, _, _, rfl, rfl, rfl, rfl⟩ rfl (wo_run rfl rfl (run_len rfl rfl rfl rfl rfl rfl Try.underlying22) ?_)
            refine wl_opG (k := 6) (k' := 7) rfl rfl ⟨_, _, _, rfl, rfl, rfl, rfl⟩ rfl (wo_run rfl rfl (run_gtr rfl rfl rfl) ?_)
            refine wl_op (k := 7) (k' := 8) rfl rfl rfl (wo_run rfl rfl (run_pickF rfl rfl rfl) ?_)
            refine wl_end rfl ?_
            refine nm_sub [(54, _)] ⟨rfl, trivial⟩ ?_
            refine nm_thn ?_
            refine ws_condN WordsMay_n38 WordsMay_n39 rfl rfl rfl rfl (fun hb54 => ?_) (fun hb54 => ?_)
            · have hb54 := of_decide_eq_true hb54
              refine ws_seqN WordsMay_n40 WordsMay_n41 rfl rfl rfl ?_
              refine ws_region rfl ?_
              refine wl_op (k := 0) (k' := 1) rfl rfl rfl (wo_run rfl rfl (run_assign rfl rfl) ?_)
              refine wl_end rfl ?_
              refine nm_sub [(6, _)] ⟨rfl, trivial⟩ ?_
              refine nm_thn ?_
              refine ws_ret hC [_] rfl rfl ⟨rfl, trivial⟩ ?_
              exact ⟨_, rfl, (S4.pick [] [] (by decide) trivial), (by show Value.int _ _ = _; unfold mayI; rw [if_neg (by omega), if_neg (by rw [anyF (fun j hj => hno j (by omega))]; exact Bool.false_ne_true), if_pos (by omega)])⟩
            · have hb54 := of_decide_eq_false hb54
              refine ws_skip rfl ?_
              refine nm_sub [] trivial ?_
              refine nm_thn ?_
              refine ws_seqN WordsMay_n42 WordsMay_n43 rfl rfl rfl ?_
              refine ws_region rfl ?_
              refine wl_op (k := 0) (k' := 1) rfl rfl rfl (wo_run rfl rfl (run_assign rfl rfl) ?_)
              refine wl_end rfl ?_
              refine nm_thn ?_
              refine ws_ret hC [_] rfl rfl ⟨rfl, trivial⟩ ?_
              exact ⟨_, rfl, (S4.pick [] [] (by decide) trivial), (by show Value.int _ _ = _; unfold mayI; rw [if_neg (by omega), if_neg (by rw [anyF (fun j hj => hno j (by omega))]; exact Bool.false_ne_true), if_neg (by omega)])⟩

noncomputable def ints_n0 : Code := Try.f8.body.getD .skip
noncomputable def ints_n1 : Code := cL ints_n0
noncomputable def ints_n2 : Code := cR ints_n0
noncomputable def ints_n3 : Code := cL ints_n2
noncomputable def ints_n4 : Code := cR ints_n2
set_option maxRecDepth 10000 in
theorem ints_t {w : World} {M : Hp} {X : Fr} (p : List Int) {pA : Option Addr} {pc : Nat} (hp : RdA cdInt (M.un X.h) pA pc p) (S : SH w M X []) : Ct Try.prog 8 [.slice pA p.length pc] w M X (IsE p) := by
  unfold Ct
  have rmhp : p.length * 8 ≤ 140737488355328 := hp.room
  refine calls_in (b := ints_n0) Try.func8 rfl Try.ntmps8 rfl (fun C hC => ?_)
  refine ws_sub [(0, _)] ⟨rfl, trivial⟩ ?_
  refine ws_seqN ints_n1 ints_n2 rfl rfl rfl ?_
  refine ws_region rfl ?_
  refine wl_op (k := 0) (k' := 1) rfl rfl rfl (wo_run rfl rfl (run_assign rfl rfl) ?_)
  refine wl_end rfl ?_
  refine nm_sub [(0, _)] ⟨rfl, trivial⟩ ?_
  refine nm_thn ?_
  refine ws_seqN ints_n3 ints_n4 rfl rfl rfl ?_
  refine ws_region rfl ?_
  refine wl_op (k := 0) (k' := 1) rfl rfl rfl (wo_run rfl rfl (run_move rfl rfl) ?_)
  have S1 := S.nilrow cdInt; clear S
  refine wl_op (k := 1) (k' := 2) rfl rfl rfl (wo_appendM (C := cdInt) (i := 0) rfl rfl rfl rfl rfl rfl rfl rfl sl22 S1 rfl hp S1.um (by have h : _ * 8 ≤ _ := hp.room; show (0 + _) * 8 ≤ _; first | omega | (simp only [List.length_set, List.length_append, List.length_replicate, List.length_singleton, List.length_cons, List.length_nil]; omega)) ?_)
  intro vr2 w1 S2; clear S1
  change SH _ _ _ [Rs.row cdInt vr2 p] at S2
  refine wl_op (k := 2) (k' := 3) rfl rfl rfl (wo_run rfl rfl (run_assign rfl rfl) ?_)
  refine wl_end rfl ?_
  refine nm_sub [(2, _)] ⟨rfl, trivial⟩ ?_
  refine nm_thn ?_
  obtain ⟨M1, hle1, S3, ⟨A1, c1, e1, hr1⟩⟩ := S2.pubrow (i := 0) (H' := [_]) rfl rfl (by show _ * 8 ≤ _; first | omega | (simp only [List.length_set, List.length_append, List.length_replicate, List.length_singleton, List.length_cons, List.length_nil]; omega))
  clear S2; subst e1
  replace hp := hp.mono (Hp.un_mono hle1 S3.mx)
  refine ws_ret hC [_] rfl rfl ⟨rfl, trivial⟩ ?_
  refine ⟨_, rfl, _, hle1, (S3.pick [] [] (by decide) trivial), ?_⟩
  exact ⟨_, _, rfl, hr1⟩

noncomputable def sameInts_n0 : Code := Try.f11.body.getD .skip
noncomputable def sameInts_n1 : Code := cL sameInts_n0
noncomputable def sameInts_n2 : Code := cR sameInts_n0
noncomputable def sameInts_n3 : Code := cL sameInts_n2
noncomputable def sameInts_n4 : Code := cR sameInts_n2
noncomputable def sameInts_n5 : Code := cL sameInts_n3
noncomputable def sameInts_n6 : Code := cR sameInts_n3
noncomputable def sameInts_n7 : Code := cL sameInts_n6
noncomputable def sameInts_n8 : Code := cR sameInts_n6
noncomputable def sameInts_n9 : Code := cL sameInts_n4
noncomputable def sameInts_n10 : Code := cR sameInts_n4
noncomputable def sameInts_n11 : Code := cL sameInts_n9
noncomputable def sameInts_n12 : Code := cR sameInts_n9
noncomputable def sameInts_n13 : Code := cL sameInts_n12
noncomputable def sameInts_n14 : Code := cL sameInts_n13
noncomputable def sameInts_n15 : Code := cL sameInts_n14
noncomputable def sameInts_n16 : Code := cR sameInts_n14
noncomputable def sameInts_n17 : Code := cL sameInts_n15
noncomputable def sameInts_n18 : Code := cR sameInts_n15
noncomputable def sameInts_n19 : Code := cL sameInts_n18
noncomputable def sameInts_n20 : Code := cR sameInts_n18
noncomputable def sameInts_n21 : Code := cL sameInts_n16
noncomputable def sameInts_n22 : Code := cR sameInts_n16
noncomputable def sameInts_n23 : Code := cL sameInts_n21
noncomputable def sameInts_n24 : Code := cL sameInts_n23
noncomputable def sameInts_n25 : Code := cR sameInts_n23
noncomputable def sameInts_n26 : Code := cL sameInts_n25
noncomputable def sameInts_n27 : Code := cR sameInts_n25
noncomputable def sameInts_n28 : Code := cL sameInts_n10
noncomputable def sameInts_n29 : Code := cR sameInts_n10
set_option maxRecDepth 10000 in
theorem sameInts_q {w : World} {M : Hp} {X : Fr} (p : List Int) {pA : Option Addr} {pc : Nat} (q : List Int) {qA : Option Addr} {qc : Nat} (hp : RdA cdInt (M.un X.h) pA pc p) (hq : RdA cdInt (M.un X.h) qA qc q) (he : p = q) (S : SH w M X []) : Cq Try.prog 11 [.slice pA p.length pc, .slice qA q.length qc] w M X (fun u => u = .bool true) := by
  unfold Cq
  have rmhp : p.length * 8 ≤ 140737488355328 := hp.room
  have rmhq : q.length * 8 ≤ 140737488355328 := hq.room
  have hle : p.length = q.length := by rw [he]
  refine calls_in (b := sameInts_n0) Try.func11 rfl Try.ntmps11 rfl (fun C hC => ?_)
  refine ws_sub [(0, _), (1, _)] ⟨rfl, rfl, trivial⟩ ?_
  refine ws_seqN sameInts_n1 sameInts_n2 rfl rfl rfl ?_
  refine ws_region rfl ?_
  refine wl_op (k := 0) (k' := 1) rfl rfl rfl (wo_run rfl rfl (run_assign rfl rfl) ?_)
  refine wl_end rfl ?_
  refine nm_sub [(0, _), (1, _)] ⟨rfl, rfl, trivial⟩ ?_
  refine nm_thn ?_
  refine ws_seqN sameInts_n3 sameInts_n4 rfl rfl rfl ?_
  refine ws_seqN sameInts_n5 sameInts_n6 rfl rfl rfl ?_
  refine ws_region rfl ?_
  refine wl_op (k := 0) (k' := 1) rfl rfl rfl (wo_run rfl rfl (run_move rfl rfl) ?_)
  refine wl_op (k := 1) (k' := 2) rfl rfl rfl (wo_run rfl rfl (run_len rfl rfl rfl rfl rfl rfl Try.underlying22) ?_)
  refine wl_op (k := 2) (k' := 3) rfl rfl rfl (wo_run rfl rfl (run_move rfl rfl) ?_)
  refine wl_op (k := 3) (k' := 4) rfl rfl rfl (wo_run rfl rfl (run_len rfl rfl rfl rfl rfl rfl Try.underlying22) ?_)
  refine wl_op (k := 4) (k' := 5) rfl rfl rfl (wo_run rfl rfl (run_neq rfl rfl rfl) ?_)
  refine wl_end rfl ?_
  refine nm_sub [(0, _), (1, _), (10, _)] ⟨rfl, rfl, rfl, trivial⟩ ?_
  refine nm_thn ?_
  refine ws_condN sameInts_n7 sameInts_n8 rfl rfl rfl rfl (fun hb10 => ?_) (fun hb10 => ?_)
  · have hb10 := of_decide_eq_true hb10
    exfalso; omega
  · have hb10 := of_decide_eq_false hb10
    refine ws_skip rfl ?_
    refine nm_sub [(0, _), (1, _)] ⟨rfl, rfl, trivial⟩ ?_
    refine nm_thn ?_
    refine ws_seqN sameInts_n9 sameInts_n10 rfl rfl rfl ?_
    refine ws_seqN sameInts_n11 sameInts_n12 rfl rfl rfl ?_
    refine ws_region rfl ?_
    refine wl_op (k := 0) (k' := 1) rfl rfl rfl (wo_run rfl rfl (run_assign rfl rfl) ?_)
    refine wl_end rfl ?_
    refine nm_thn ?_
    refine ws_blockN sameInts_n13 0 rfl rfl rfl ?_
    refine ws_loopE (fun mx_ ax_ wx_ => ∃ (k : Nat), mx_ = p.length - k ∧ Env 26 [(0, .slice pA p.length pc), (1, .slice qA q.length qc), (5, .int .i64 (k : Int))] ax_ ∧ SH wx_ M X [] ∧ k ≤ p.length) rfl ?_ ?_
    · intro ax_ hax_
      refine ⟨_, ⟨0, rfl, hax_.sub ⟨rfl, rfl, rfl, trivial⟩, S.pick [] [] (by decide) trivial, ?hq1f0⟩⟩
      case hq1f0 => omega
    · rintro m1 a1 w1 ⟨k, rfl, he1, S1, hk⟩
      clear S
      refine ws_in he1 (c := sameInts_n14) rfl ?_
      clear he1 a1
      refine ws_seqN sameInts_n15 sameInts_n16 rfl rfl rfl ?_
      refine ws_seqN sameInts_n17 sameInts_n18 rfl rfl rfl ?_
      refine ws_region rfl ?_
      refine wl_op (k := 0) (k' := 1) rfl rfl rfl (wo_run rfl rfl (run_move rfl rfl) ?_)
      refine wl_op (k := 1) (k' := 2) rfl rfl rfl (wo_run rfl rfl (run_move rfl rfl) ?_)
      refine wl_op (k := 2) (k' := 3) rfl rfl rfl (wo_run rfl rfl (run_len rfl rfl rfl rfl rfl rfl Try.underlying22) ?_)
      refine wl_op (k := 3) (k' := 4) rfl rfl rfl (wo_run rfl rfl (run_lss rfl rfl rfl) ?_)
      refine wl_end rfl ?_
      refine nm_sub [(0, _), (1, _), (5, _), (14, _)] ⟨rfl, rfl, rfl, rfl, trivial⟩ ?_
      refine nm_thn ?_
      refine ws_condN sameInts_n19 sameInts_n20 rfl rfl rfl rfl (fun hb14 => ?_) (fun hb14 => ?_)
      · have hb14 := of_decide_eq_true hb14
        refine ws_skip rfl ?_
        refine nm_sub [(0, _), (1, _), (5, _)] ⟨rfl, rfl, rfl, trivial⟩ ?_
        refine nm_thn ?_
        refine ws_seqN sameInts_n21 sameInts_n22 rfl rfl rfl ?_
        refine ws_blockN sameInts_n23 1 rfl rfl rfl ?_
        refine ws_seqN sameInts_n24 sameInts_n25 rfl rfl rfl ?_
        refine ws_draw rfl (by kernel_rfl) S1 9 rfl ?_
        clear S1
        refine wa_takeP (i := 0) (d := 17) 8 rfl (by kernel_rfl) (by kernel_rfl) (by kernel_rfl) rfl rfl rfl (fun w2 => run_move rfl rfl) ?_
        refine wa_takeP (i := 1) (d := 18) 7 rfl (by kernel_rfl) (by kernel_rfl) (by kernel_rfl) rfl rfl rfl (fun w3 => run_move rfl rfl) ?_
        refine wa_take (i := 2) (d := 19) 6 rfl (by kernel_rfl) (by kernel_rfl) (by kernel_rfl) rfl rfl rfl (fun M3 N3 w4 hle4 S4 => .inl (run_indexM (C := cdInt) k rfl rfl rfl sl22 (by first | rfl | omega) (hp.mono (Hp.un_mono hle4 S4.mx)) (by first | omega | (simp only [List.length_set, List.length_append, List.length_replicate, List.length_singleton, List.length_cons, List.length_nil]; omega)))) ?_
        refine wa_take (i := 3) (d := 20) 5 rfl (by kernel_rfl) (by kernel_rfl) (by kernel_rfl) rfl rfl rfl (fun M4 N4 w5 hle5 S5 => .inl (run_load1 rfl rfl Try.underlying3 rfl ((hp.mono (Hp.un_mono hle5 S5.mx)).cell S5.um (i := k) (by first | omega | (simp only [List.length_set, List.length_append, List.length_replicate, List.length_singleton, List.length_cons, List.length_nil]; omega)) 0 rfl rfl))) ?_
        refine wa_takeP (i := 4) (d := 21) 4 rfl (by kernel_rfl) (by kernel_rfl) (by kernel_rfl) rfl rfl rfl (fun w6 => run_move rfl rfl) ?_
        refine wa_takeP (i := 5) (d := 22) 3 rfl (by kernel_rfl) (by kernel_rfl) (by kernel_rfl) rfl rfl rfl (fun w7 => run_move rfl rfl) ?_
        refine wa_take (i := 6) (d := 23) 2 rfl (by kernel_rfl) (by kernel_rfl) (by kernel_rfl) rfl rfl rfl (fun M7 N7 w8 hle8 S8 => .inl (run_indexM (C := cdInt) k rfl rfl rfl sl22 (by first | rfl | omega) (hq.mono (Hp.un_mono hle8 S8.mx)) (by first | omega | (simp only [List.length_set, List.length_append, List.length_replicate, List.length_singleton, List.length_cons, List.length_nil]; omega)))) ?_
        refine wa_take (i := 7) (d := 24) 1 rfl (by kernel_rfl) (by kernel_rfl) (by kernel_rfl) rfl rfl rfl (fun M8 N8 w9 hle9 S9 => .inl (run_load1 rfl rfl Try.underlying3 rfl ((hq.mono (Hp.un_mono hle9 S9.mx)).cell S9.um (i := k) (by first | omega | (simp only [List.length_set, List.length_append, List.length_replicate, List.length_singleton, List.length_cons, List.length_nil]; omega)) 0 rfl rfl))) ?_
        refine wa_takeP (i := 8) (d := 25) 0 rfl (by kernel_rfl) (by kernel_rfl) (by kernel_rfl) rfl rfl rfl (fun w10 => run_neq rfl rfl rfl) ?_
        refine wa_end (by kernel_rfl) (fun w11 S11 => ?_)
        refine nm_sub [(0, _), (1, _), (5, _), (25, _)] ⟨rfl, rfl, rfl, rfl, trivial⟩ ?_
        refine nm_thn ?_
        refine ws_condN sameInts_n26 sameInts_n27 rfl rfl rfl rfl (fun hb25 => ?_) (fun hb25 => ?_)
        · have hb25 := of_decide_eq_true hb25
          exfalso; exact hb25 (by rw [he])
        · have hb25 := of_decide_eq_false hb25
          refine ws_skip rfl ?_
          refine nm_blk ?_
          refine nm_sub [(0, _), (1, _), (5, _)] ⟨rfl, rfl, rfl, trivial⟩ ?_
          refine nm_thn ?_
          refine ws_region rfl ?_
          refine wl_op (k := 0) (k' := 1) rfl rfl rfl (wo_run rfl rfl (run_move rfl rfl) ?_)
          refine wl_op (k := 1) (k' := 2) rfl rfl rfl (wo_run rfl rfl (run_add rfl rfl rfl (by first | omega | (simp only [List.length_set, List.length_append, List.length_replicate, List.length_singleton, List.length_cons, List.length_nil]; omega))) ?_)
          refine wl_op (k := 2) (k' := 3) rfl rfl rfl (wo_run rfl rfl (run_assign rfl rfl) ?_)
          refine wl_end rfl ?_
          refine nm_lp ?_
          intro ax_ hax_
          refine ⟨_, ?hq2m, ⟨k + 1, rfl, hax_.sub ⟨rfl, rfl, rfl, trivial⟩, S11.pick [] [] (by decide) trivial, ?hq2f0⟩⟩
          case hq2f0 => omega
          case hq2m => omega
      · have hb14 := of_decide_eq_false hb14
        refine ws_exit rfl rfl ?_
        refine nm_sub [] trivial ?_
        refine nm_thn ?_
        refine ws_seqN sameInts_n28 sameInts_n29 rfl rfl rfl ?_
        refine ws_region rfl ?_
        refine wl_op (k := 0) (k' := 1) rfl rfl rfl (wo_run rfl rfl (run_assign rfl rfl) ?_)
        refine wl_end rfl ?_
        refine nm_thn ?_
        refine ws_ret hC [_] rfl rfl ⟨rfl, trivial⟩ ?_
        exact ⟨_, rfl, (S1.pick [] [] (by decide) trivial), rfl⟩

noncomputable def sameTables_n0 : Code := Try.f13.body.getD .skip
noncomputable def sameTables_n1 : Code := cL sameTables_n0
noncomputable def sameTables_n2 : Code := cR sameTables_n0
noncomputable def sameTables_n3 : Code := cL sameTables_n2
noncomputable def sameTables_n4 : Code := cR sameTables_n2
noncomputable def sameTables_n5 : Code := cL sameTables_n3
noncomputable def sameTables_n6 : Code := cR sameTables_n3
noncomputable def sameTables_n7 : Code := cL sameTables_n6
noncomputable def sameTables_n8 : Code := cR sameTables_n6
noncomputable def sameTables_n9 : Code := cL sameTables_n4
noncomputable def sameTables_n10 : Code := cR sameTables_n4
noncomputable def sameTables_n11 : Code := cL sameTables_n9
noncomputable def sameTables_n12 : Code := cR sameTables_n9
noncomputable def sameTables_n13 : Code := cL sameTables_n12
noncomputable def sameTables_n14 : Code := cL sameTables_n13
noncomputable def sameTables_n15 : Code := cL sameTables_n14
noncomputable def sameTables_n16 : Code := cR sameTables_n14
noncomputable def sameTables_n17 : Code := cL sameTables_n15
noncomputable def sameTables_n18 : Code := cR sameTables_n15
noncomputable def sameTables_n19 : Code := cL sameTables_n18
noncomputable def sameTables_n20 : Code := cR sameTables_n18
noncomputable def sameTables_n21 : Code := cL sameTables_n16
noncomputable def sameTables_n22 : Code := cR sameTables_n16
noncomputable def sameTables_n23 : Code := cL sameTables_n21
noncomputable def sameTables_n24 : Code := cL sameTables_n23
noncomputable def sameTables_n25 : Code := cR sameTables_n23
noncomputable def sameTables_n26 : Code := cL sameTables_n25
noncomputable def sameTables_n27 : Code := cR sameTables_n25
noncomputable def sameTables_n28 : Code := cL sameTables_n10
noncomputable def sameTables_n29 : Code := cR sameTables_n10
set_option maxRecDepth 10000 in
theorem sameTables_q {w : World} {M : Hp} {X : Fr} (p : List (List Int)) {pA : Option Addr} {pc : Nat} {pv : List SlV} (q : List (List Int)) {qA : Option Addr} {qc : Nat} {qv : List SlV} (hp : RdA (cdV 22) (M.un X.h) pA pc pv) (hdp : Rd2 cdInt (M.un X.h) pv p) (hq : RdA (cdV 22) (M.un X.h) qA qc qv) (hdq : Rd2 cdInt (M.un X.h) qv q) (he : p = q) (S : SH w M X []) : Cq Try.prog 13 [.slice pA pv.length pc, .slice qA qv.length qc] w M X (fun u => u = .bool true) := by
  unfold Cq
  have rmhp : pv.length * 24 ≤ 140737488355328 := hp.room
  have rmhq : qv.length * 24 ≤ 140737488355328 := hq.room
  have hle : p.length = q.length := by rw [he]
  have hlp := hdp.1
  have hlq := hdq.1
  refine calls_in (b := sameTables_n0) Try.func13 rfl Try.ntmps13 rfl (fun C hC => ?_)
  refine ws_sub [(0, _), (1, _)] ⟨rfl, rfl, trivial⟩ ?_
  refine ws_seqN sameTables_n1 sameTables_n2 rfl rfl rfl ?_
  refine ws_region rfl ?_
  refine wl_op (k := 0) (k' := 1) rfl rfl rfl (wo_run rfl rfl (run_assign rfl rfl) ?_)
  refine wl_end rfl ?_
  refine nm_sub [(0, _), (1, _)] ⟨rfl, rfl, trivial⟩ ?_
  refine nm_thn ?_
  refine ws_seqN sameTables_n3 sameTables_n4 rfl rfl rfl ?_
  refine ws_seqN sameTables_n5 sameTables_n6 rfl rfl rfl ?_
  refine ws_region rfl ?_
  refine wl_op (k := 0) (k' := 1) rfl rfl rfl (wo_run rfl rfl (run_move rfl rfl) ?_)
  refine wl_op (k := 1) (k' := 2) rfl rfl rfl (wo_run rfl rfl (run_len rfl rfl rfl rfl rfl rfl Try.underlying27) ?_)
  refine wl_op (k := 2) (k' := 3) rfl rfl rfl (wo_run rfl rfl (run_move rfl rfl) ?_)
  refine wl_op (k := 3) (k' := 4) rfl rfl rfl (wo_run rfl rfl (run_len rfl rfl rfl rfl rfl rfl Try.underlying27) ?_)
  refine wl_op (k := 4) (k' := 5) rfl rfl rfl (wo_run rfl rfl (run_neq rfl rfl rfl) ?_)
  refine wl_end rfl ?_
  refine nm_sub [(0, _), (1, _), (10, _)] ⟨rfl, rfl, rfl, trivial⟩ ?_
  refine nm_thn ?_
  refine ws_condN sameTables_n7 sameTables_n8 rfl rfl rfl rfl (fun hb10 => ?_) (fun hb10 => ?_)
  · have hb10 := of_decide_eq_true hb10
    exfalso; omega
  · have hb10 := of_decide_eq_false hb10
    refine ws_skip rfl ?_
    refine nm_sub [(0, _), (1, _)] ⟨rfl, rfl, trivial⟩ ?_
    refine nm_thn ?_
    refine ws_seqN sameTables_n9 sameTables_n10 rfl rfl rfl ?_
    refine ws_seqN sameTables_n11 sameTables_n12 rfl rfl rfl ?_
    refine ws_region rfl ?_
    refine wl_op (k := 0) (k' := 1) rfl rfl rfl (wo_run rfl rfl (run_assign rfl rfl) ?_)
    refine wl_end rfl ?_
    refine nm_thn ?_
    refine ws_blockN sameTables_n13 0 rfl rfl rfl ?_
    refine ws_loopE (fun mx_ ax_ wx_ => ∃ (k : Nat), mx_ = pv.length - k ∧ Env 27 [(0, .slice pA pv.length pc), (1, .slice qA qv.length qc), (5, .int .i64 (k : Int))] ax_ ∧ SH wx_ M X [] ∧ k ≤ pv.length) rfl ?_ ?_
    · intro ax_ hax_
      refine ⟨_, ⟨0, rfl, hax_.sub ⟨rfl, rfl, rfl, trivial⟩, S.pick [] [] (by decide) trivial, ?hq1f0⟩⟩
      case hq1f0 => omega
    · rintro m1 a1 w1 ⟨k, rfl, he1, S1, hk⟩
      clear S
      refine ws_in he1 (c := sameTables_n14) rfl ?_
      clear he1 a1
      refine ws_seqN sameTables_n15 sameTables_n16 rfl rfl rfl ?_
      refine ws_seqN sameTables_n17 sameTables_n18 rfl rfl rfl ?_
      refine ws_region rfl ?_
      refine wl_op (k := 0) (k' := 1) rfl rfl rfl (wo_run rfl rfl (run_move rfl rfl) ?_)
      refine wl_op (k := 1) (k' := 2) rfl rfl rfl (wo_run rfl rfl (run_move rfl rfl) ?_)
      refine wl_op (k := 2) (k' := 3) rfl rfl rfl (wo_run rfl rfl (run_len rfl rfl rfl rfl rfl rfl Try.underlying27) ?_)
      refine wl_op (k := 3) (k' := 4) rfl rfl rfl (wo_run rfl rfl (run_lss rfl rfl rfl) ?_)
      refine wl_end rfl ?_
      refine nm_sub [(0, _), (1, _), (5, _), (14, _)] ⟨rfl, rfl, rfl, rfl, trivial⟩ ?_
      refine nm_thn ?_
      refine ws_condN sameTables_n19 sameTables_n20 rfl rfl rfl rfl (fun hb14 => ?_) (fun hb14 => ?_)
      · have hb14 := of_decide_eq_true hb14
        refine ws_skip rfl ?_
        refine nm_sub [(0, _), (1, _), (5, _)] ⟨rfl, rfl, rfl, trivial⟩ ?_
        refine nm_thn ?_
        refine ws_seqN sameTables_n21 sameTables_n22 rfl rfl rfl ?_
        refine ws_blockN sameTables_n23 1 rfl rfl rfl ?_
        refine ws_seqN sameTables_n24 sameTables_n25 rfl rfl rfl ?_
        refine ws_draw rfl (by kernel_rfl) S1 10 rfl ?_
        clear S1
        refine wa_takeP (i := 0) (d := 17) 9 rfl (by kernel_rfl) (by kernel_rfl) (by kernel_rfl) rfl rfl rfl (fun w2 => run_move rfl rfl) ?_
        refine wa_takeP (i := 1) (d := 18) 8 rfl (by kernel_rfl) (by kernel_rfl) (by kernel_rfl) rfl rfl rfl (fun w3 => run_move rfl rfl) ?_
        refine wa_take (i := 2) (d := 19) 7 rfl (by kernel_rfl) (by kernel_rfl) (by kernel_rfl) rfl rfl rfl (fun M3 N3 w4 hle4 S4 => .inl (run_indexM (C := (cdV 22)) k rfl rfl rfl sl27 (by first | rfl | omega) (hp.mono (Hp.un_mono hle4 S4.mx)) (by first | omega | (simp only [List.length_set, List.length_append, List.length_replicate, List.length_singleton, List.length_cons, List.length_nil]; omega)))) ?_
        obtain ⟨hn1, hr1⟩ := hdp.2 k (by first | omega | (simp only [List.length_set, List.length_append, List.length_replicate, List.length_singleton, List.length_cons, List.length_nil]; omega))
        refine wa_take (i := 3) (d := 20) 6 rfl (by kernel_rfl) (by kernel_rfl) (by kernel_rfl) rfl rfl rfl (fun M4 N4 w5 hle5 S5 => .inl (run_load1 rfl rfl Try.underlying22 rfl ((hp.mono (Hp.un_mono hle5 S5.mx)).cell S5.um (i := k) (by first | omega | (simp only [List.length_set, List.length_append, List.length_replicate, List.length_singleton, List.length_cons, List.length_nil]; omega)) 0 rfl (congrArg (fun n => some (Value.slice _ n _)) hn1)))) ?_
        refine wa_takeP (i := 4) (d := 21) 5 rfl (by kernel_rfl) (by kernel_rfl) (by kernel_rfl) rfl rfl rfl (fun w6 => run_move rfl rfl) ?_
        refine wa_takeP (i := 5) (d := 22) 4 rfl (by kernel_rfl) (by kernel_rfl) (by kernel_rfl) rfl rfl rfl (fun w7 => run_move rfl rfl) ?_
        refine wa_take (i := 6) (d := 23) 3 rfl (by kernel_rfl) (by kernel_rfl) (by kernel_rfl) rfl rfl rfl (fun M7 N7 w8 hle8 S8 => .inl (run_indexM (C := (cdV 22)) k rfl rfl rfl sl27 (by first | rfl | omega) (hq.mono (Hp.un_mono hle8 S8.mx)) (by first | omega | (simp only [List.length_set, List.length_append, List.length_replicate, List.length_singleton, List.length_cons, List.length_nil]; omega)))) ?_
        obtain ⟨hn2, hr2⟩ := hdq.2 k (by first | omega | (simp only [List.length_set, List.length_append, List.length_replicate, List.length_singleton, List.length_cons, List.length_nil]; omega))
        refine wa_take (i := 7) (d := 24) 2 rfl (by kernel_rfl) (by kernel_rfl) (by kernel_rfl) rfl rfl rfl (fun M8 N8 w9 hle9 S9 => .inl (run_load1 rfl rfl Try.underlying22 rfl ((hq.mono (Hp.un_mono hle9 S9.mx)).cell S9.um (i := k) (by first | omega | (simp only [List.length_set, List.length_append, List.length_replicate, List.length_singleton, List.length_cons, List.length_nil]; omega)) 0 rfl (congrArg (fun n => some (Value.slice _ n _)) hn2)))) ?_
        refine wa_take (i := 8) (d := 25) 1 rfl (by kernel_rfl) (by kernel_rfl) (by kernel_rfl) rfl rfl rfl (fun M9 N9 w10 hle10 S10 => yield_cq rfl rfl rfl rfl rfl cf11 S10 (sameInts_q (ga p k) (ga q k) ((hr1.mono (Hp.un_mono hle10 S10.mx)).mono S10.un_XH) ((hr2.mono (Hp.un_mono hle10 S10.mx)).mono S10.un_XH) ((by rw [he])) S10.lend)) ?_
        refine wa_takeP (i := 9) (d := 26) 0 rfl (by kernel_rfl) (by kernel_rfl) (by kernel_rfl) rfl rfl rfl (fun w11 => run_not rfl rfl) ?_
        refine wa_end (by kernel_rfl) (fun w12 S12 => ?_)
        refine nm_sub [(0, _), (1, _), (5, _), (26, _)] ⟨rfl, rfl, rfl, rfl, trivial⟩ ?_
        refine nm_thn ?_
        refine ws_condFN sameTables_n27 rfl rfl rfl ?_
        refine ws_skip rfl ?_
        refine nm_blk ?_
        refine nm_sub [(0, _), (1, _), (5, _)] ⟨rfl, rfl, rfl, trivial⟩ ?_
        refine nm_thn ?_
        refine ws_region rfl ?_
        refine wl_op (k := 0) (k' := 1) rfl rfl rfl (wo_run rfl rfl (run_move rfl rfl) ?_)
        refine wl_op (k := 1) (k' := 2) rfl rfl rfl (wo_run rfl rfl (run_add rfl rfl rfl (by first | omega | (simp only [List.length_set, List.length_append, List.length_replicate, List.length_singleton, List.length_cons, List.length_nil]; omega))) ?_)
        refine wl_op (k := 2) (k' := 3) rfl rfl rfl (wo_run rfl rfl (run_assign rfl rfl) ?_)
        refine wl_end rfl ?_
        refine nm_lp ?_
        intro ax_ hax_
        refine ⟨_, ?hq2m, ⟨k + 1, rfl, hax_.sub ⟨rfl, rfl, rfl, trivial⟩, S12.pick [] [] (by decide) trivial, ?hq2f0⟩⟩
        case hq2f0 => omega
        case hq2m => omega
      · have hb14 := of_decide_eq_false hb14
        refine ws_exit rfl rfl ?_
        refine nm_sub [] trivial ?_
        refine nm_thn ?_
        refine ws_seqN sameTables_n28 sameTables_n29 rfl rfl rfl ?_
        refine ws_region rfl ?_
        refine wl_op (k := 0) (k' := 1) rfl rfl rfl (wo_run rfl rfl (run_assign rfl rfl) ?_)
        refine wl_end rfl ?_
        refine nm_thn ?_
        refine ws_ret hC [_] rfl rfl ⟨rfl, trivial⟩ ?_
        exact ⟨_, rfl, (S1.pick [] [] (by decide) trivial), rfl⟩

end Go.Proofs.Ythfiblbkkjcliaa
