/- Part 4 of the proof of the law BraidEquals: the walks through its functions and the plain laws that they need. -/
import Derived.Test.YtomcgmialkdcbaaBeZ3
import Derived.Maps.RangeRun
import Derived.Lib.AppendZeros
import Derived.RangeFuncNested
import Derived.RangeFuncBound
import Derived.RangeFuncCalls
import Derived.RangeFuncLeaves
import Derived.LoopNIn
import Derived.Laws.CopyRow
import Derived.Laws.IdiomCopy
import Derived.Lib.SliceRun
set_option linter.unusedSimpArgs false
set_option linter.unusedVariables false
namespace Go.Proofs.Ytomcgmialkdcbaa
open Go.ChangeShapes Go.WideShapes Go.ChangeAt Go.RowKit
def mayI (n : Int) (u v : List Int) : Int := if n < 2 ∨ 6 < n then 3 else if (u ++ v).any (wrongB n) then 3 else if 20 < u.length ∨ 20 < v.length then 2 else 0
noncomputable def WordsMay_n0 : Code := Try.f7.body.getD .skip
noncomputable def WordsMay_n1 : Code := cL WordsMay_n0
noncomputable def WordsMay_n2 : Code := cR WordsMay_n0
noncomputable def WordsMay_n3 : Code := cL WordsMay_n2
noncomputable def WordsMay_n4 : Code := cR WordsMay_n2
noncomputable def WordsMay_n5 : Code := cL WordsMay_n3
noncomputable def WordsMay_n6 : Code := cR WordsMay_n3
noncomputable def WordsMay_n7 : Code := cL WordsMay_n6
noncomputable def WordsMay_n8 : Code := cR WordsMay_n6
noncomputable def WordsMay_n9 : Code := cL WordsMay_n7
noncomputable def WordsMay_n10 : Code := cR WordsMay_n7
noncomputable def WordsMay_n11 : Code := cL WordsMay_n4
noncomputable def WordsMay_n12 : Code := cR WordsMay_n4
noncomputable def WordsMay_n13 : Code := cL WordsMay_n12
noncomputable def WordsMay_n14 : Code := cR WordsMay_n12
noncomputable def WordsMay_n15 : Code := cL WordsMay_n13
noncomputable def WordsMay_n16 : Code := cR WordsMay_n13
noncomputable def WordsMay_n17 : Code := cL WordsMay_n16
noncomputable def WordsMay_n18 : Code := cL WordsMay_n17
noncomputable def WordsMay_n19 : Code := cL WordsMay_n18
noncomputable def WordsMay_n20 : Code := cR WordsMay_n18
noncomputable def WordsMay_n21 : Code := cL WordsMay_n19
noncomputable def WordsMay_n22 : Code := cR WordsMay_n19
noncomputable def WordsMay_n23 : Code := cL WordsMay_n22
noncomputable def WordsMay_n24 : Code := cR WordsMay_n22
noncomputable def WordsMay_n25 : Code := cL WordsMay_n20
noncomputable def WordsMay_n26 : Code := cR WordsMay_n20
noncomputable def WordsMay_n27 : Code := cL WordsMay_n25
noncomputable def WordsMay_n28 : Code := cL WordsMay_n27
noncomputable def WordsMay_n29 : Code := cR WordsMay_n27
noncomputable def WordsMay_n30 : Code := cL WordsMay_n29
noncomputable def WordsMay_n31 : Code := cR WordsMay_n29
noncomputable def WordsMay_n32 : Code := cL WordsMay_n30
noncomputable def WordsMay_n33 : Code := cR WordsMay_n30
noncomputable def WordsMay_n34 : Code := cL WordsMay_n14
noncomputable def WordsMay_n35 : Code := cR WordsMay_n14
noncomputable def WordsMay_n36 : Code := cL WordsMay_n34
noncomputable def WordsMay_n37 : Code := cR WordsMay_n34
noncomputable def WordsMay_n38 : Code := cL WordsMay_n37
noncomputable def WordsMay_n39 : Code := cR WordsMay_n37
noncomputable def WordsMay_n40 : Code := cL WordsMay_n38
noncomputable def WordsMay_n41 : Code := cR WordsMay_n38
noncomputable def WordsMay_n42 : Code := cL WordsMay_n35
noncomputable def WordsMay_n43 : Code := cR WordsMay_n35
set_option maxRecDepth 10000 in
theorem WordsMay_q {w : World} {M : Hp} {X : Fr} (n : Int) (p : List Int) {pA : Option Addr} {pc : Nat} (q : List Int) {qA : Option Addr} {qc : Nat} (hp : RdA cdInt (M.un X.h) pA pc p) (hq : RdA cdInt (M.un X.h) qA qc q) (hro : (p.length + q.length) * 8 ≤ 140737488355328) (S : SH w M X []) : Cq Try.prog 7 [.int .i64 n, .slice pA p.length pc, .slice qA q.length qc] w M X (fun u => u = .int .i64 (mayI n p q)) := by
 unfold Cq
 have rmhp : p.length * 8 ≤ 140737488355328 := hp.room
 have rmhq : q.length * 8 ≤ 140737488355328 := hq.room
 have huv : (p ++ q).length = p.length + q.length := List.length_append
 refine calls_in (b := WordsMay_n0) Try.func7 rfl Try.ntmps7 rfl (fun C hC => (ws_sub [(0, _), (1, _), (2, _)] ⟨rfl, rfl, rfl, trivial⟩ (ws_seqN WordsMay_n1 WordsMay_n2 rfl rfl rfl (ws_region rfl (wla 0 1 rfl rfl rfl rfl rfl rfl rfl ?_)))))
 refine wl_end rfl (nmk [0, 1, 2] rfl (nm_thn (ws_seqN WordsMay_n3 WordsMay_n4 rfl rfl rfl (ws_seqN WordsMay_n5 WordsMay_n6 rfl rfl rfl ?_))))
 refine ws_region rfl (wlm 0 1 rfl rfl rfl rfl rfl rfl rfl (wlo 1 2 rfl rfl rfl (wo_run rfl rfl (run_lss rfl rfl rfl) (wlm 2 3 rfl rfl rfl rfl rfl rfl rfl ?_))))
 refine wl_split (t := 11) rfl (fun hg11 => ?_) (fun hg11 => ?_)
 ·replace hg11 := of_decide_eq_true hg11
  refine wln 3 4 rfl rfl rfl rfl rfl rfl rfl rfl rfl (wln 4 5 rfl rfl rfl rfl rfl rfl rfl rfl rfl (wlo 5 6 rfl rfl rfl (wo_run rfl rfl (run_pickT rfl rfl rfl) (wl_end rfl (nmk [0, 1, 2, 14] rfl ?_)))))
  refine nm_thn (ws_condTN WordsMay_n7 rfl rfl rfl (ws_seqN WordsMay_n9 WordsMay_n10 rfl rfl rfl (ws_region rfl (wla 0 1 rfl rfl rfl rfl rfl rfl rfl ?_))))
  refine wl_end rfl (nmk [6] rfl (nm_thn (ws_ret hC [_] rfl rfl ⟨rfl, trivial⟩ ?_)))
  exact ⟨_, rfl, (S.pick [] [] (by decide) trivial), (by show Value.int _ _ = _; unfold mayI; first | rw [if_pos (by omega)] | rw [if_neg (by omega), if_pos (by rw [List.any_eq_true]; exact ⟨ga (p ++ q) k, ga_mem (xs := p ++ q) (i := k) (by omega), by unfold wrongB; rw [decide_eq_true_iff]; omega⟩)])⟩
 ·replace hg11 := of_decide_eq_false hg11
  refine wlg 3 4 rfl rfl rfl rfl rfl rfl rfl rfl (wo_run rfl rfl (run_move rfl rfl) (wlg 4 5 rfl rfl rfl rfl rfl rfl rfl rfl (wo_run rfl rfl (run_gtr rfl rfl rfl) (wlo 5 6 rfl rfl rfl (wo_run rfl rfl (run_pickF rfl rfl rfl) (wl_end rfl (nmk [0, 1, 2, 14] rfl ?_)))))))
  refine nm_thn ?_
  refine ws_condN WordsMay_n7 WordsMay_n8 rfl rfl rfl rfl (fun hb14 => ?_) (fun hb14 => ?_)
  ·replace hb14 := of_decide_eq_true hb14
   refine ws_seqN WordsMay_n9 WordsMay_n10 rfl rfl rfl (ws_region rfl (wla 0 1 rfl rfl rfl rfl rfl rfl rfl (wl_end rfl (nmk [6] rfl ?_))))
   refine nm_thn (ws_ret hC [_] rfl rfl ⟨rfl, trivial⟩ ?_)
   exact ⟨_, rfl, (S.pick [] [] (by decide) trivial), (by show Value.int _ _ = _; unfold mayI; first | rw [if_pos (by omega)] | rw [if_neg (by omega), if_pos (by rw [List.any_eq_true]; exact ⟨ga (p ++ q) k, ga_mem (xs := p ++ q) (i := k) (by omega), by unfold wrongB; rw [decide_eq_true_iff]; omega⟩)])⟩
  ·replace hb14 := of_decide_eq_false hb14
   refine ws_skip rfl (nmk [0, 1, 2] rfl (nm_thn (ws_seqN WordsMay_n11 WordsMay_n12 rfl rfl rfl (ws_region rfl ?_))))
   refine wlm 0 1 rfl rfl rfl rfl rfl rfl rfl ?_
   have S1 := S.nilrow cdInt; clear S
   refine wlo 1 2 rfl rfl rfl (wo_appendM (C := cdInt) (i := 0) rfl rfl rfl rfl rfl rfl rfl rfl sl22 S1 rfl hp S1.um (by have h : _ * 8 ≤ _ := hp.room; show (0 + _) * 8 ≤ _; first | omega | (simp only [lens]; omega)) ?_)
   intro vr2 w1 S2; clear S1
   change SH _ _ _ [Rs.row cdInt vr2 p] at S2
   refine wlm 2 3 rfl rfl rfl rfl rfl rfl rfl (wlo 3 4 rfl rfl rfl (wo_appendM (C := cdInt) (i := 0) rfl rfl rfl rfl rfl rfl rfl rfl sl22 S2 rfl hq S2.um (by show (_ + _) * 8 ≤ _; first | omega | (simp only [lens]; omega)) ?_))
   intro vr3 w2 S3; clear S2
   change SH _ _ _ [Rs.row cdInt vr3 (p ++ q)] at S3
   refine wla 4 5 rfl rfl rfl rfl rfl rfl rfl (wl_end rfl (nmk [0, 1, 2, 7] rfl (nm_thn (ws_seqN WordsMay_n13 WordsMay_n14 rfl rfl rfl ?_))))
   refine ws_seqN WordsMay_n15 WordsMay_n16 rfl rfl rfl (ws_region rfl (wla 0 1 rfl rfl rfl rfl rfl rfl rfl (wl_end rfl (nm_thn ?_))))
   refine ws_blockN WordsMay_n17 0 rfl rfl rfl ?_
   refine ws_loopE (fun mx_ ax_ wx_ => ∃ (k : Nat) (acc : List Int) (vro : Value), mx_ = acc.length - k ∧ Env 55 [(0, .int .i64 n), (1, .slice pA p.length pc), (2, .slice qA q.length qc), (7, vro), (8, .int .i64 (k : Int))] ax_ ∧ SH wx_ M X [Rs.row cdInt vro acc] ∧ k ≤ acc.length ∧ acc = p ++ q ∧ (∀ j, j < k → wrongB n (ga (p ++ q) j) = false)) rfl ?_ ?_
   ·intro ax_ hax_
    refine ⟨_, ⟨0, _, _, rfl, hax_.sub ⟨rfl, rfl, rfl, rfl, rfl, trivial⟩, S3.pick [0] [_] (by decide) ⟨rfl, trivial⟩, ?hq1f0, ?hq1f1, ?hq1f2⟩⟩
    case hq1f0 => omega
    case hq1f1 => rfl
    case hq1f2 => (intro j hj; omega)
   ·rintro m1 a1 w3 ⟨k, acc, vro, rfl, he1, S4, hk, hacc, hno⟩
    clear S3
    refine ws_in he1 (c := WordsMay_n18) rfl ?_
    clear he1 a1
    subst hacc
    refine ws_seqN WordsMay_n19 WordsMay_n20 rfl rfl rfl (ws_seqN WordsMay_n21 WordsMay_n22 rfl rfl rfl (ws_region rfl (wlm 0 1 rfl rfl rfl rfl rfl rfl rfl (wlm 1 2 rfl rfl rfl rfl rfl rfl rfl ?_))))
    refine wlo 2 3 rfl rfl rfl (wo_run rfl rfl (run_lenR (C := cdInt) (i := 0) rfl rfl rfl rfl rfl rfl sl22 S4 rfl) (wlo 3 4 rfl rfl rfl (wo_run rfl rfl (run_lss rfl rfl rfl) (wl_end rfl (nmk [0, 1, 2, 7, 8, 22] rfl (nm_thn ?_))))))
    refine ws_condN WordsMay_n23 WordsMay_n24 rfl rfl rfl rfl (fun hb22 => ?_) (fun hb22 => ?_)
    ·replace hb22 := of_decide_eq_true hb22
     refine ws_skip rfl (nmk [0, 1, 2, 7, 8] rfl (nm_thn (ws_seqN WordsMay_n25 WordsMay_n26 rfl rfl rfl (ws_blockN WordsMay_n27 1 rfl rfl rfl ?_))))
     refine ws_seqN WordsMay_n28 WordsMay_n29 rfl rfl rfl (ws_region rfl (wlm 0 1 rfl rfl rfl rfl rfl rfl rfl (wlm 1 2 rfl rfl rfl rfl rfl rfl rfl (wlo 2 3 rfl rfl rfl (wo_run rfl rfl (run_indexR (C := cdInt) (i := 0) k rfl rfl rfl sl22 S4 rfl (by first | rfl | omega) (by first | omega | (simp only [lens]; omega))) ?_)))))
     refine wlo 3 4 rfl rfl rfl (wo_run rfl rfl (run_load1 rfl rfl Try.underlying3 rfl (S4.rowc (i := 0) (e := k) (j := 0) rfl (by first | omega | (simp only [lens]; omega)) rfl rfl)) ?_)
     refine wlo 4 5 rfl rfl rfl (wo_run rfl rfl (run_eql rfl rfl rfl) (wlm 5 6 rfl rfl rfl rfl rfl rfl rfl ?_))
     refine wl_split (t := 30) rfl (fun hg30 => ?_) (fun hg30 => ?_)
     ·replace hg30 := of_decide_eq_true hg30
      refine wln 6 7 rfl rfl rfl rfl rfl rfl rfl rfl rfl (wln 7 8 rfl rfl rfl rfl rfl rfl rfl rfl rfl (wln 8 9 rfl rfl rfl rfl rfl rfl rfl rfl rfl (wln 9 10 rfl rfl rfl rfl rfl rfl rfl rfl rfl (wln 10 11 rfl rfl rfl rfl rfl rfl rfl rfl rfl ?_))))
      refine wln 11 12 rfl rfl rfl rfl rfl rfl rfl rfl rfl (wln 12 13 rfl rfl rfl rfl rfl rfl rfl rfl rfl (wlo 13 14 rfl rfl rfl (wo_run rfl rfl (run_pickT rfl rfl rfl) (wlm 14 15 rfl rfl rfl rfl rfl rfl rfl (wln 15 16 rfl rfl rfl rfl rfl rfl rfl rfl rfl ?_)))))
      refine wln 16 17 rfl rfl rfl rfl rfl rfl rfl rfl rfl (wln 17 18 rfl rfl rfl rfl rfl rfl rfl rfl rfl (wln 18 19 rfl rfl rfl rfl rfl rfl rfl rfl rfl (wln 19 20 rfl rfl rfl rfl rfl rfl rfl rfl rfl (wln 20 21 rfl rfl rfl rfl rfl rfl rfl rfl rfl ?_))))
      refine wlo 21 22 rfl rfl rfl (wo_run rfl rfl (run_pickT rfl rfl rfl) (wl_end rfl (nmk [0, 1, 2, 7, 8, 46] rfl (nm_thn (ws_condTN WordsMay_n30 rfl rfl rfl ?_)))))
      refine ws_seqN WordsMay_n32 WordsMay_n33 rfl rfl rfl (ws_region rfl (wla 0 1 rfl rfl rfl rfl rfl rfl rfl (wl_end rfl (nmk [6] rfl ?_))))
      refine nm_thn (ws_ret hC [_] rfl rfl ⟨rfl, trivial⟩ ?_)
      exact ⟨_, rfl, (S4.pick [] [] (by decide) trivial), (by show Value.int _ _ = _; unfold mayI; first | rw [if_pos (by omega)] | rw [if_neg (by omega), if_pos (by rw [List.any_eq_true]; exact ⟨ga (p ++ q) k, ga_mem (xs := p ++ q) (i := k) (by omega), by unfold wrongB; rw [decide_eq_true_iff]; omega⟩)])⟩
     ·replace hg30 := of_decide_eq_false hg30
      refine wlg 6 7 rfl rfl rfl rfl rfl rfl rfl rfl (wo_run rfl rfl (run_move rfl rfl) (wlg 7 8 rfl rfl rfl rfl rfl rfl rfl rfl (wo_run rfl rfl (run_move rfl rfl) (wlg 8 9 rfl rfl rfl rfl rfl rfl rfl rfl (wo_run rfl rfl (run_indexR (C := cdInt) (i := 0) k rfl rfl rfl sl22 S4 rfl (by first | rfl | omega) (by first | omega | (simp only [lens]; omega))) ?_)))))
      refine wlg 9 10 rfl rfl rfl rfl rfl rfl rfl rfl (wo_run rfl rfl (run_load1 rfl rfl Try.underlying3 rfl (S4.rowc (i := 0) (e := k) (j := 0) rfl (by first | omega | (simp only [lens]; omega)) rfl rfl)) ?_)
      refine wlg 10 11 rfl rfl rfl rfl rfl rfl rfl rfl (wo_run rfl rfl (run_move rfl rfl) (wlg 11 12 rfl rfl rfl rfl rfl rfl rfl rfl (wo_run rfl rfl (run_neg rfl rfl (by first | omega | (simp only [lens]; omega))) ?_)))
      refine wlg 12 13 rfl rfl rfl rfl rfl rfl rfl rfl (wo_run rfl rfl (run_leq rfl rfl rfl) (wlo 13 14 rfl rfl rfl (wo_run rfl rfl (run_pickF rfl rfl rfl) (wlm 14 15 rfl rfl rfl rfl rfl rfl rfl ?_))))
      refine wl_split (t := 39) rfl (fun hg39 => ?_) (fun hg39 => ?_)
      ·replace hg39 := of_decide_eq_true hg39
       refine wln 15 16 rfl rfl rfl rfl rfl rfl rfl rfl rfl (wln 16 17 rfl rfl rfl rfl rfl rfl rfl rfl rfl (wln 17 18 rfl rfl rfl rfl rfl rfl rfl rfl rfl (wln 18 19 rfl rfl rfl rfl rfl rfl rfl rfl rfl (wln 19 20 rfl rfl rfl rfl rfl rfl rfl rfl rfl ?_))))
       refine wln 20 21 rfl rfl rfl rfl rfl rfl rfl rfl rfl (wlo 21 22 rfl rfl rfl (wo_run rfl rfl (run_pickT rfl rfl rfl) (wl_end rfl (nmk [0, 1, 2, 7, 8, 46] rfl (nm_thn ?_)))))
       refine ws_condTN WordsMay_n30 rfl rfl rfl (ws_seqN WordsMay_n32 WordsMay_n33 rfl rfl rfl (ws_region rfl (wla 0 1 rfl rfl rfl rfl rfl rfl rfl (wl_end rfl ?_))))
       refine nmk [6] rfl (nm_thn (ws_ret hC [_] rfl rfl ⟨rfl, trivial⟩ ?_))
       exact ⟨_, rfl, (S4.pick [] [] (by decide) trivial), (by show Value.int _ _ = _; unfold mayI; first | rw [if_pos (by omega)] | rw [if_neg (by omega), if_pos (by rw [List.any_eq_true]; exact ⟨ga (p ++ q) k, ga_mem (xs := p ++ q) (i := k) (by omega), by unfold wrongB; rw [decide_eq_true_iff]; omega⟩)])⟩
      ·replace hg39 := of_decide_eq_false hg39
       refine wlg 15 16 rfl rfl rfl rfl rfl rfl rfl rfl (wo_run rfl rfl (run_move rfl rfl) (wlg 16 17 rfl rfl rfl rfl rfl rfl rfl rfl (wo_run rfl rfl (run_move rfl rfl) (wlg 17 18 rfl rfl rfl rfl rfl rfl rfl rfl (wo_run rfl rfl (run_indexR (C := cdInt) (i := 0) k rfl rfl rfl sl22 S4 rfl (by first | rfl | omega) (by first | omega | (simp only [lens]; omega))) ?_)))))
       refine wlg 18 19 rfl rfl rfl rfl rfl rfl rfl rfl (wo_run rfl rfl (run_load1 rfl rfl Try.underlying3 rfl (S4.rowc (i := 0) (e := k) (j := 0) rfl (by first | omega | (simp only [lens]; omega)) rfl rfl)) ?_)
       refine wlg 19 20 rfl rfl rfl rfl rfl rfl rfl rfl (wo_run rfl rfl (run_move rfl rfl) (wlg 20 21 rfl rfl rfl rfl rfl rfl rfl rfl (wo_run rfl rfl (run_geq rfl rfl rfl) (wlo 21 22 rfl rfl rfl (wo_run rfl rfl (run_pickF rfl rfl rfl) (wl_end rfl (nmk [0, 1, 2, 7, 8, 46] rfl ?_)))))))
       refine nm_thn ?_
       refine ws_condN WordsMay_n30 WordsMay_n31 rfl rfl rfl rfl (fun hb46 => ?_) (fun hb46 => ?_)
       ·replace hb46 := of_decide_eq_true hb46
        refine ws_seqN WordsMay_n32 WordsMay_n33 rfl rfl rfl (ws_region rfl (wla 0 1 rfl rfl rfl rfl rfl rfl rfl (wl_end rfl (nmk [6] rfl ?_))))
        refine nm_thn (ws_ret hC [_] rfl rfl ⟨rfl, trivial⟩ ?_)
        exact ⟨_, rfl, (S4.pick [] [] (by decide) trivial), (by show Value.int _ _ = _; unfold mayI; first | rw [if_pos (by omega)] | rw [if_neg (by omega), if_pos (by rw [List.any_eq_true]; exact ⟨ga (p ++ q) k, ga_mem (xs := p ++ q) (i := k) (by omega), by unfold wrongB; rw [decide_eq_true_iff]; omega⟩)])⟩
       ·replace hb46 := of_decide_eq_false hb46
        refine ws_skip rfl (nm_blk (nmk [0, 1, 2, 7, 8] rfl (nm_thn (ws_region rfl ?_))))
        refine wlm 0 1 rfl rfl rfl rfl rfl rfl rfl (wlo 1 2 rfl rfl rfl (wo_run rfl rfl (run_add rfl rfl rfl (by first | omega | (simp only [lens]; omega))) ?_))
        refine wla 2 3 rfl rfl rfl rfl rfl rfl rfl (wl_end rfl (nm_lp ?_))
        intro ax_ hax_
        refine ⟨_, ?hq2m, ⟨k + 1, _, _, rfl, hax_.sub ⟨rfl, rfl, rfl, rfl, rfl, trivial⟩, S4.pick [0] [_] (by decide) ⟨rfl, trivial⟩, ?hq2f0, ?hq2f1, ?hq2f2⟩⟩
        case hq2f0 => omega
        case hq2f1 => rfl
        case hq2f2 => (intro j hj; by_cases h : j = k; (subst h; unfold wrongB; rw [decide_eq_false_iff_not]; omega); exact hno j (by omega))
        case hq2m => omega
    ·replace hb22 := of_decide_eq_false hb22
     refine ws_exit rfl rfl (nmk [1, 2] rfl (nm_thn (ws_seqN WordsMay_n34 WordsMay_n35 rfl rfl rfl (ws_seqN WordsMay_n36 WordsMay_n37 rfl rfl rfl ?_))))
     refine ws_region rfl (wlm 0 1 rfl rfl rfl rfl rfl rfl rfl (wlo 1 2 rfl rfl rfl (wo_run rfl rfl (run_len rfl rfl rfl rfl rfl rfl Try.underlying22) (wlo 2 3 rfl rfl rfl (wo_run rfl rfl (run_gtr rfl rfl rfl) (wlm 3 4 rfl rfl rfl rfl rfl rfl rfl ?_))))))
     refine wl_split (t := 50) rfl (fun hg50 => ?_) (fun hg50 => ?_)
     ·replace hg50 := of_decide_eq_true hg50
      refine wln 4 5 rfl rfl rfl rfl rfl rfl rfl rfl rfl (wln 5 6 rfl rfl rfl rfl rfl rfl rfl rfl rfl (wln 6 7 rfl rfl rfl rfl rfl rfl rfl rfl rfl (wlo 7 8 rfl rfl rfl (wo_run rfl rfl (run_pickT rfl rfl rfl) (wl_end rfl ?_)))))
      refine nmk [54] rfl (nm_thn (ws_condTN WordsMay_n38 rfl rfl rfl (ws_seqN WordsMay_n40 WordsMay_n41 rfl rfl rfl (ws_region rfl ?_))))
      refine wla 0 1 rfl rfl rfl rfl rfl rfl rfl (wl_end rfl (nmk [6] rfl (nm_thn (ws_ret hC [_] rfl rfl ⟨rfl, trivial⟩ ?_))))
      exact ⟨_, rfl, (S4.pick [] [] (by decide) trivial), (by show Value.int _ _ = _; unfold mayI; rw [if_neg (by omega), if_neg (by rw [anyF (fun j hj => hno j (by omega))]; exact Bool.false_ne_true), if_pos (by omega)])⟩
     ·replace hg50 := of_decide_eq_false hg50
      refine wlg 4 5 rfl rfl rfl rfl rfl rfl rfl rfl (wo_run rfl rfl (run_move rfl rfl) (wlg 5 6 rfl rfl rfl rfl rfl rfl rfl rfl (wo_run rfl rfl (run_len rfl rfl rfl rfl rfl rfl Try.underlying22) (wlg 6 7 rfl rfl rfl rfl rfl rfl rfl rfl (wo_run rfl rfl (run_gtr rfl rfl rfl) (wlo 7 8 rfl rfl rfl (wo_run rfl rfl (run_pickF rfl rfl rfl) (wl_end rfl ?_))))))))
      refine nmk [54] rfl (nm_thn ?_)
      refine ws_condN WordsMay_n38 WordsMay_n39 rfl rfl rfl rfl (fun hb54 => ?_) (fun hb54 => ?_)
      ·replace hb54 := of_decide_eq_true hb54
       refine ws_seqN WordsMay_n40 WordsMay_n41 rfl rfl rfl (ws_region rfl (wla 0 1 rfl rfl rfl rfl rfl rfl rfl (wl_end rfl (nmk [6] rfl ?_))))
       refine nm_thn (ws_ret hC [_] rfl rfl ⟨rfl, trivial⟩ ?_)
       exact ⟨_, rfl, (S4.pick [] [] (by decide) trivial), (by show Value.int _ _ = _; unfold mayI; rw [if_neg (by omega), if_neg (by rw [anyF (fun j hj => hno j (by omega))]; exact Bool.false_ne_true), if_pos (by omega)])⟩
      ·replace hb54 := of_decide_eq_false hb54
       refine ws_skip rfl (nm_sub [] trivial (nm_thn (ws_seqN WordsMay_n42 WordsMay_n43 rfl rfl rfl (ws_region rfl ?_))))
       refine wla 0 1 rfl rfl rfl rfl rfl rfl rfl (wl_end rfl (nm_thn (ws_ret hC [_] rfl rfl ⟨rfl, trivial⟩ ?_)))
       exact ⟨_, rfl, (S4.pick [] [] (by decide) trivial), (by show Value.int _ _ = _; unfold mayI; rw [if_neg (by omega), if_neg (by rw [anyF (fun j hj => hno j (by omega))]; exact Bool.false_ne_true), if_neg (by omega)])⟩
noncomputable def ints_n0 : Code := Try.f6.body.getD .skip
noncomputable def ints_n1 : Code := cL ints_n0
noncomputable def ints_n2 : Code := cR ints_n0
noncomputable def ints_n3 : Code := cL ints_n2
noncomputable def ints_n4 : Code := cR ints_n2
set_option maxRecDepth 10000 in
theorem ints_t {w : World} {M : Hp} {X : Fr} (p : List Int) {pA : Option Addr} {pc : Nat} (hp : RdA cdInt (M.un X.h) pA pc p) (S : SH w M X []) : Ct Try.prog 6 [.slice pA p.length pc] w M X (IsE p) := by
 unfold Ct
 have rmhp : p.length * 8 ≤ 140737488355328 := hp.room
 refine calls_in (b := ints_n0) Try.func6 rfl Try.ntmps6 rfl (fun C hC => (ws_sub [(0, _)] ⟨rfl, trivial⟩ (ws_seqN ints_n1 ints_n2 rfl rfl rfl (ws_region rfl (wla 0 1 rfl rfl rfl rfl rfl rfl rfl ?_)))))
 refine wl_end rfl (nmk [0] rfl (nm_thn (ws_seqN ints_n3 ints_n4 rfl rfl rfl (ws_region rfl ?_))))
 refine wlm 0 1 rfl rfl rfl rfl rfl rfl rfl ?_
 have S1 := S.nilrow cdInt; clear S
 refine wlo 1 2 rfl rfl rfl (wo_appendM (C := cdInt) (i := 0) rfl rfl rfl rfl rfl rfl rfl rfl sl22 S1 rfl hp S1.um (by have h : _ * 8 ≤ _ := hp.room; show (0 + _) * 8 ≤ _; first | omega | (simp only [lens]; omega)) ?_)
 intro vr2 w1 S2; clear S1
 change SH _ _ _ [Rs.row cdInt vr2 p] at S2
 refine wla 2 3 rfl rfl rfl rfl rfl rfl rfl (wl_end rfl (nmk [2] rfl (nm_thn ?_)))
 obtain ⟨M1, hle1, S3, ⟨A1, c1, e1, hr1⟩⟩ := S2.pubrow (i := 0) (H' := [_]) rfl rfl (by show _ * 8 ≤ _; first | omega | (simp only [lens]; omega))
 clear S2; subst e1
 replace hp := hp.mono (Hp.un_mono hle1 S3.mx)
 refine ws_ret hC [_] rfl rfl ⟨rfl, trivial⟩ ?_
 refine ⟨_, rfl, _, hle1, (S3.pick [] [] (by decide) trivial), ?_⟩
 exact ⟨_, _, rfl, hr1⟩
end Go.Proofs.Ytomcgmialkdcbaa
namespace Go.Proofs.Ytomcgmialkdcbaa
open Go.ChangeShapes Go.WideShapes Go.ChangeAt Go.RowKit
section
variable {α : Type} {C : Cd α} {N N' : Hp} {vs vs' : List SlV} {xss yss : List (List α)}
theorem Rd2.take_ (h : Rd2 C N vs xss) (k : Nat) : Rd2 C N (vs.take k) (xss.take k) := ⟨by rw [List.length_take, List.length_take, h.1], fun i hi => by
  rw [List.length_take] at hi
  have := h.2 i (by omega)
  rw [ga_take _ _ _ (by omega), ga_take _ _ _ (by omega)]
  exact this⟩
theorem ga_drop {β : Type} [Inhabited β] (xs : List β) (k i : Nat) : ga (xs.drop k) i = ga xs (k + i) := by
  unfold ga; simp [List.getD_eq_getElem?_getD]
theorem Rd2.drop_ (h : Rd2 C N vs xss) (k : Nat) : Rd2 C N (vs.drop k) (xss.drop k) := ⟨by rw [List.length_drop, List.length_drop, h.1], fun i hi => by
  rw [List.length_drop] at hi
  have := h.2 (k + i) (by omega)
  rw [ga_drop, ga_drop]
  exact this⟩
/-- The inner lists' own lists. -/
def RdD (C : Cd α) (N : Hp) (svs : List (List SlV)) (mm : List (List (List α))) : Prop := svs.length = mm.length ∧ ∀ i, i < svs.length → Rd2 C N (ga svs i) (ga mm i)
variable {svs : List (List SlV)} {mm : List (List (List α))}
theorem RdD.snoc (h : RdD C N svs mm) (k : Rd2 C N vs xss) : RdD C N (svs ++ [vs]) (mm ++ [xss]) := ⟨by simp [h.1], fun j hj => by
  simp at hj
  by_cases e : j < svs.length
  · rw [ga_append_left _ _ _ e, ga_append_left _ _ _ (by rw [← h.1]; exact e)]; exact h.2 j e
  · have hl := h.1
    obtain rfl : j = svs.length := by omega
    rw [ga_append_right svs _ _ (by omega), ga_append_right mm _ _ (by omega), show svs.length - svs.length = 0 by omega, show svs.length - mm.length = 0 by omega]
    exact k⟩
end
section
variable {P : Program} {o : Oper} {L : List (Nat × Value)} {w : World} {x hx : Operand} {t tn T : TypeId} {n d : Nat} {Kt : List (Nat × Value) → World → Prop} {M : Hp} {X : Fr} {H : List Rs}
end
end Go.Proofs.Ytomcgmialkdcbaa
namespace Go.Proofs.Ytomcgmialkdcbaa
open Go.ChangeShapes Go.WideShapes Go.ChangeAt Go.RowKit
def Rs.bun (H : List Rs) : Rs :=
  ⟨H.flatMap (·.bl), fun h => (∀ r ∈ H, r.ok h) ∧ ∀ (i j : Nat) r s, i ≠ j → H[i]? = some r → H[j]? = some s → ∀ b ∈ r.bl, b ∉ s.bl, fun h h' hb hk =>
    ⟨fun r hr => r.loc h h' (fun b hbr => hb b (List.mem_flatMap.2 ⟨r, hr, hbr⟩)) (hk.1 r hr), hk.2⟩⟩
section
variable {w w' : World} {M M' : Hp} {X : Fr} {H H' : List Rs} {r r' : Rs} {i : Nat}
theorem SH.bun (S : SH w M X H) : SH w M X [Rs.bun H] := by
  refine ⟨S.m, S.x, S.mx, fun s hs => ?_, fun s hs b hb => ?_, fun i j r s hij hi hj b hb => ?_, S.like⟩
  · rw [List.mem_singleton] at hs; subst hs; exact ⟨S.ok, S.ap⟩
  · rw [List.mem_singleton] at hs; subst hs
    obtain ⟨r, hr, hbr⟩ := List.mem_flatMap.1 hb
    exact S.bl r hr b hbr
  · have h1 := (List.getElem?_eq_some_iff.1 hi).1
    have h2 := (List.getElem?_eq_some_iff.1 hj).1
    simp at h1 h2; omega
theorem SH.unbun (S : SH w M X [Rs.bun H]) : SH w M X H := by
  obtain ⟨h1, h2⟩ := S.ok (Rs.bun H) (by simp)
  exact ⟨S.m, S.x, S.mx, h1, fun r hr b hb => S.bl (Rs.bun H) (by simp) b (List.mem_flatMap.2 ⟨r, hr, hb⟩), h2, S.like⟩
end
namespace InF
structure Ctx where
  Q : Exit → Act → World → Prop
  r : Option Nat
def Ctx.F (C : Ctx) : Fence := match C.r with
  | none => Fence.wide
  | some l => Fence.wide.inRound l
def post (P : Program) (C : Ctx) : List K → Exit → Act → World → Prop
  | [] => C.Q
  | .thn c :: s => Exit.then (c.wpIn C.F 0 P (post P C s)) (post P C s)
  | .blk id :: s => Exit.inBlock id (post P C s)
  | .lp I :: s => Exit.then I (post P C s)
  | .jmp _ _ :: s => post P C s
section
variable {P : Program} {n : Nat} {C : Ctx} {c : Code} {s : List K} {L : List (Nat × Value)} {w : World}
end
section
variable {P : Program} {n : Nat} {C : Ctx} {c : Code} {s : List K} {L : List (Nat × Value)} {w : World} {M : Hp} {X : Fr} {H : List Rs}
end
end InF
end Go.Proofs.Ytomcgmialkdcbaa
namespace Go.Proofs.Ytomcgmialkdcbaa
open Go.ChangeShapes Go.WideShapes Go.ChangeAt Go.RowKit
/-- No block stands in two things. -/
def apartL (H : List Rs) : Prop := H.Pairwise fun r s => ∀ b ∈ r.bl, b ∉ s.bl
theorem apart_iff {H : List Rs} : apartL H ↔ ∀ (i j : Nat) r s, i ≠ j → H[i]? = some r → H[j]? = some s → ∀ b ∈ r.bl, b ∉ s.bl := by
  unfold apartL
  rw [List.pairwise_iff_getElem]
  constructor
  · intro h i j r s hij hi hj b hb hbs
    obtain ⟨i1, e1⟩ := List.getElem?_eq_some_iff.1 hi
    obtain ⟨j1, e2⟩ := List.getElem?_eq_some_iff.1 hj
    rcases Nat.lt_or_ge i j with h1 | h1
    · exact h i j i1 j1 h1 b (by rw [e1]; exact hb) (by rw [e2]; exact hbs)
    · exact h j i j1 i1 (by omega) b (by rw [e2]; exact hbs) (by rw [e1]; exact hb)
  · intro h i j hi hj hij
    exact h i j _ _ (by omega) (List.getElem?_eq_getElem hi) (List.getElem?_eq_getElem hj)
section
variable {w : World} {M : Hp} {X : Fr} {A B H H' : List Rs}
theorem SH.perm (S : SH w M X H) (h : H.Perm H') : SH w M X H' :=
  ⟨S.m, S.x, S.mx, fun r hr => S.ok r (h.mem_iff.2 hr), fun r hr => S.bl r (h.mem_iff.2 hr), apart_iff.1 ((h.pairwise_iff (fun {_ _} hrs b hb hbr => hrs b hbr hb)).1 (apart_iff.2 S.ap)), S.like⟩
theorem SH.bunC (S : SH w M X (A ++ B)) : SH w M X (Rs.bun A :: B) := by
  have hap := apart_iff.2 S.ap
  obtain ⟨h1, h2, h3⟩ := List.pairwise_append.1 hap
  refine ⟨S.m, S.x, S.mx, fun r hr => ?_, fun r hr b hb => ?_, apart_iff.1 (List.pairwise_cons.2 ⟨fun s hs b hb => ?_, h2⟩), S.like⟩
  · rcases List.mem_cons.1 hr with rfl | hr
    · exact ⟨fun r hr => S.ok r (by simp [hr]), apart_iff.1 h1⟩
    · exact S.ok r (by simp [hr])
  · rcases List.mem_cons.1 hr with rfl | hr
    · obtain ⟨q, hq, hb⟩ := List.mem_flatMap.1 hb
      exact S.bl q (by simp [hq]) b hb
    · exact S.bl r (by simp [hr]) b hb
  · obtain ⟨q, hq, hb⟩ := List.mem_flatMap.1 hb
    exact h3 q hq s hs b hb
theorem SH.unbunC (S : SH w M X (Rs.bun A :: B)) : SH w M X (A ++ B) := by
  obtain ⟨hok, hap⟩ := S.ok (Rs.bun A) (by simp)
  obtain ⟨h1, h2⟩ := List.pairwise_cons.1 (apart_iff.2 S.ap)
  refine ⟨S.m, S.x, S.mx, fun r hr => ?_, fun r hr b hb => ?_, apart_iff.1 (List.pairwise_append.2 ⟨apart_iff.2 hap, h2, fun r hr s hs b hb => h1 s hs b (List.mem_flatMap.2 ⟨r, hr, hb⟩)⟩), S.like⟩
  · rcases List.mem_append.1 hr with hr | hr
    · exact hok r hr
    · exact S.ok r (by simp [hr])
  · rcases List.mem_append.1 hr with hr | hr
    · exact S.bl (Rs.bun A) (by simp) b (List.mem_flatMap.2 ⟨r, hr, hb⟩)
    · exact S.bl r (by simp [hr]) b hb
end
namespace InF
section
variable {P : Program} {n : Nat} {C : Ctx} {c : Code} {s : List K} {L : List (Nat × Value)} {w : World} {M : Hp} {X : Fr} {H : List Rs}
end
end InF
end Go.Proofs.Ytomcgmialkdcbaa
namespace Go.Proofs.Ytomcgmialkdcbaa
open Go.ChangeShapes Go.WideShapes Go.ChangeAt Go.RowKit
section
variable {P : Program} {o : Oper} {L : List (Nat × Value)} {w : World} {n d : Nat} {Kt : List (Nat × Value) → World → Prop} {M : Hp} {X : Fr} {H : List Rs} {i : Nat} {r : Rs}
theorem SH.less (S : SH w M X H) (hi : nth H i = some r) : SH w M X (H.set i Rs.emp) := S.step hi rfl (Like.refl w) (fun _ _ _ => rfl) trivial (fun b hb => by cases hb)
end
end Go.Proofs.Ytomcgmialkdcbaa
namespace Go.Proofs.Ytomcgmialkdcbaa
open Go.ChangeShapes Go.WideShapes Go.ChangeAt Go.RowKit
section
variable {P : Program} {o : Oper} {L : List (Nat × Value)} {w w' : World} {x y z : Operand} {t t' T E : TypeId} {a b : Int} {v u : Value} {n d : Nat} {Kt : List (Nat × Value) → World → Prop} {M M' : Hp} {X : Fr} {H H' : List Rs} {i g : Nat} {l : List Value}
def alv (v : Value) (lo n : Nat) : Value := match v with
  | .slice A _ c => .slice (if c = lo then A else A.map (·.add lo)) n (c - lo)
  | u => u
theorem SH.sl_ {α : Type} {C : Cd α} {xs : List α} {rv : Value} (S : SH w M X H) (hi : nth H i = some (Rs.row C rv xs)) : ∃ A c, rv = .slice A xs.length c ∧ xs.length ≤ c := S.sl hi
theorem run_aliasD {xs : List Int} {rv : Value} {lx : Operand} (k : Nat) (hop : o.op = .slice T x (some lx) none none) (hxx : oev L x = some rv) (hlo : oev L lx = some (.int .i64 a)) (hT : SlOf P T cdInt) (hv : ∃ A c, rv = .slice A xs.length c ∧ xs.length ≤ c) (ha : a = (k : Int)) (hk : k ≤ xs.length) : Run P o L w (alv rv k (xs.length - k)) w := by
  obtain ⟨zv, h1, h2, h3, h4, h5⟩ := hT
  obtain ⟨inf, hinf, hz, hs, h8⟩ := info_parts h2
  subst ha
  obtain ⟨A, c, rfl, hc⟩ := hv
  have := run_sliceI (P := P) (w := w) (lo := k) (hi := xs.length) hop hxx (lv := some (.int .i64 (k : Int))) (hv := none) (size := cdInt.k) (by simpa using hlo) rfl h1 (by rw [hinf]; simp [hs]) (.inr rfl) (.inl ⟨rfl, rfl⟩) hk hc
  rw [show k * cdInt.k = k from Nat.mul_one k] at this
  exact this
theorem set_same {α : Type} {H : List α} {i : Nat} {r : α} (h : nth H i = some r) : H.set i r = H := by
  rw [nth_eq] at h
  apply List.ext_getElem?
  intro j
  rw [List.getElem?_set]
  split
  · rename_i e
    subst e
    have hl : i < H.length := (List.getElem?_eq_some_iff.1 h).1
    rw [if_pos hl, h]
  · rfl
theorem alv_in {g len cap lo n : Nat} (h : lo < cap) : alv (.slice (some ⟨g, 0, none⟩) len cap) lo n = .slice (some ⟨g, lo, none⟩) n (cap - lo) := by
  unfold alv
  simp only [if_neg (show ¬ cap = lo by omega), Option.map_some]
  congr 2
  unfold Addr.add
  split
  · rename_i e; subst e; rfl
  · simp
end
end Go.Proofs.Ytomcgmialkdcbaa
namespace Go.Proofs.Ytomcgmialkdcbaa
open Go.ChangeShapes Go.WideShapes Go.ChangeAt Go.RowKit
section
variable {P : Program} {o : Oper} {L : List (Nat × Value)} {w : World} {x y : Operand} {t T : TypeId} {a : Int} {M : Hp} {X : Fr} {H : List Rs} {i lo n : Nat}
theorem run_lenAl {α : Type} {C : Cd α} {xs : List α} {rv : Value} {ca : Call} {ops : List Operand} {ts : List TypeId} (hop : o.op = .call ca) (hca : ca.callee = .builtin .len) (hxs : ca.args = ops.toArray) (hts : ca.argTypes = ts.toArray) (hx : oevs L ops = some [alv rv lo n]) (ht : nth ts 0 = some t) (hT : SlOf P t C) (S : SH w M X H) (hi : nth H i = some (Rs.row C rv xs)) : Run P o L w (.int .i64 (n : Int)) w := by
  obtain ⟨A, c, rfl, _⟩ := S.sl hi
  obtain ⟨z, h1, _⟩ := hT
  exact run_len hop hca hxs hts hx ht h1
theorem run_indexAl {xs : List Int} {rv : Value} (e : Nat) (hop : o.op = .indexAddr T x y) (hx : oev L x = some (alv rv lo n)) (hy : oev L y = some (.int .i64 a)) (hT : SlOf P T cdInt) (S : SH w M X H) (hi : nth H i = some (Rs.row cdInt rv xs))
    (ha : a = (e : Int)) (he : e < n) (hn : lo + n ≤ xs.length) : Run P o L w (.pointer (some ⟨rb rv, (lo + e) * cdInt.k, none⟩)) w := by
  obtain ⟨A, c, hs, hc⟩ := S.sl hi
  obtain ⟨cap, hv, _⟩ := S.some_ hi (by omega)
  obtain ⟨z, h1, h2, _⟩ := hT
  obtain ⟨inf, hi, _, hs', _⟩ := info_parts h2
  have hcc : c = cap := by have := hs.symm.trans hv; injection this
  subst hcc
  have hrb : rb (.slice (some ⟨rb rv, 0, none⟩) xs.length c) = rb rv := rfl
  rw [hv, alv_in (by omega)] at hx
  rw [hv, hrb]
  have := run_indexAddr (P := P) (w := w) hop hx hy h1 (k := cdInt.k) (by rw [hi]; simp [hs']) ha he rfl
  rw [show (lo + e) * cdInt.k = lo + e * cdInt.k from by show (lo + e) * 1 = lo + e * 1; omega]
  exact this
end
end Go.Proofs.Ytomcgmialkdcbaa
namespace Go.Proofs.Ytomcgmialkdcbaa
open Go.ChangeShapes Go.WideShapes Go.ChangeAt Go.RowKit
theorem PL.mem_ {n : Nat} {p : List Int} (h : PL n p) {i : Nat} (h1 : 1 ≤ i) (h2 : i ≤ n) : (i : Int) ∈ p := by
 obtain ⟨a, b, c⟩ := h.pl h1 h2
 rw [← c]; exact ga_mem (by rw [h.len]; omega)
theorem PL.mem2_ {n : Nat} {p : List Int} (h : PL n p) {i : Nat} (h1 : 1 ≤ i) (h2 : i < n) : (i : Int) + 1 ∈ p := by
 have := h.mem_ (i := i + 1) (by omega) h2
 rwa [show ((i + 1 : Nat) : Int) = (i : Int) + 1 by omega] at this
/-- All but the first turned round. -/
def revL (xs : List Int) : List Int := (List.range xs.length).map fun m => if m = 0 then ga xs 0 else ga xs (xs.length - m)
theorem revL_len (xs : List Int) : (revL xs).length = xs.length := by simp [revL]
theorem revL_ga (xs : List Int) {m : Nat} (h : m < xs.length) : ga (revL xs) m = if m = 0 then ga xs 0 else ga xs (xs.length - m) := by
 rw [ga_eq (by rw [revL_len]; exact h)]; simp [revL]
theorem revL_id (n : Nat) : revL (idL n) = delL n := ga_ext (by rw [revL_len, idL_len, delL, mkP_len]) fun i hi => by
 rw [revL_len] at hi
 rw [revL_ga _ hi]
 rw [idL_len] at hi
 by_cases c : i = 0
 ·subst c; rw [if_pos rfl, idL_ga (Nat.zero_le _), delL, mkP_z]; rfl
 ·rw [if_neg c, idL_len, idL_ga (by omega), delL_ga (by omega) (by omega)]; omega
/-- The two ends of what is still to be turned round. -/
def rvA (xs : List Int) (k : Nat) (acc : List Int) : Prop := acc.length = xs.length ∧ ∀ m, m < xs.length → ga acc m = if 1 ≤ m ∧ (m ≤ k ∨ xs.length - m ≤ k) then ga xs (xs.length - m) else ga xs m
theorem rvA.zero (xs : List Int) : rvA xs 0 xs := ⟨rfl, fun m hm => by rw [if_neg (by omega)]⟩
theorem rvA.step {xs acc : List Int} {k : Nat} (h : rvA xs k acc) (hk : 2 * k + 2 < xs.length) : rvA xs (k + 1) ((acc.set (1 + k) (ga acc (1 + (xs.length - 2 - k)))).set (1 + (xs.length - 2 - k)) (ga acc (1 + k))) := by
 obtain ⟨hl, hg⟩ := h
 refine ⟨by simp [hl], fun m hm => ?_⟩
 rw [two_set (show 1 + k ≠ 1 + (xs.length - 2 - k) by omega) (show 1 + k < acc.length by omega) (show 1 + (xs.length - 2 - k) < acc.length by omega), hg (1 + (xs.length - 2 - k)) (by omega), hg (1 + k) (by omega), hg _ hm, if_neg (show ¬ (1 ≤ 1 + (xs.length - 2 - k) ∧ (1 + (xs.length - 2 - k) ≤ k ∨ xs.length - (1 + (xs.length - 2 - k)) ≤ k)) by omega), if_neg (show ¬ (1 ≤ 1 + k ∧ (1 + k ≤ k ∨ xs.length - (1 + k) ≤ k)) by omega)]
 by_cases c1 : m = 1 + k
 ·subst c1; rw [if_pos rfl, if_pos (by omega)]; congr 1; omega
 ·rw [if_neg c1]
  by_cases c2 : m = 1 + (xs.length - 2 - k)
  ·subst c2; rw [if_pos rfl, if_pos (by omega)]; congr 1; omega
  ·rw [if_neg c2]
   by_cases c3 : 1 ≤ m ∧ (m ≤ k ∨ xs.length - m ≤ k)
   ·rw [if_pos c3, if_pos (by omega)]
   ·rw [if_neg c3, if_neg (by omega)]
theorem rvA.done {xs acc : List Int} {k : Nat} (h : rvA xs k acc) (hk : xs.length ≤ 2 * k + 2) : acc = revL xs := ga_ext (by rw [revL_len, h.1]) fun i hi => by
 rw [h.1] at hi
 rw [h.2 i hi, revL_ga _ hi]
 by_cases c : i = 0
 ·subst c; rw [if_pos rfl, if_neg (by omega)]
 ·rw [if_neg c]
  split
  ·rfl
  ·congr 1; omega
noncomputable def ReverseP_n0 : Code := Try.f35.body.getD .skip
noncomputable def ReverseP_n1 : Code := cL ReverseP_n0
noncomputable def ReverseP_n2 : Code := cR ReverseP_n0
noncomputable def ReverseP_n3 : Code := cL ReverseP_n2
noncomputable def ReverseP_n4 : Code := cL ReverseP_n3
noncomputable def ReverseP_n5 : Code := cL ReverseP_n4
noncomputable def ReverseP_n6 : Code := cR ReverseP_n4
noncomputable def ReverseP_n7 : Code := cL ReverseP_n5
noncomputable def ReverseP_n8 : Code := cR ReverseP_n5
noncomputable def ReverseP_n9 : Code := cL ReverseP_n8
noncomputable def ReverseP_n10 : Code := cR ReverseP_n8
noncomputable def ReverseP_n11 : Code := cL ReverseP_n6
noncomputable def ReverseP_n12 : Code := cR ReverseP_n6
noncomputable def ReverseP_n13 : Code := cL ReverseP_n11
set_option maxRecDepth 10000 in
theorem ReverseP_w {w : World} {M : Hp} {X : Fr} (vxs : Value) (xs : List Int) (hx0 : 1 ≤ xs.length) (hxl : xs.length ≤ 100) (S : SH w M X [Rs.row cdInt vxs xs]) : C1 Try.prog 35 [alv vxs 1 (xs.length - 1)] w M X (fun u M' r' => u = tup [] ∧ M' = M ∧ r' = Rs.row cdInt vxs (revL xs)) := by
 unfold C1
 refine calls_in (b := ReverseP_n0) Try.func35 rfl Try.ntmps35 rfl (fun C hC => (ws_sub [(0, _)] ⟨rfl, trivial⟩ (ws_seqN ReverseP_n1 ReverseP_n2 rfl rfl rfl (ws_region rfl (wlm 0 1 rfl rfl rfl rfl rfl rfl rfl ?_)))))
 refine wlo 1 2 rfl rfl rfl (wo_run rfl rfl (run_lenAl (C := cdInt) (lo := 1) (n := (xs.length - 1)) (i := 0) rfl rfl rfl rfl rfl rfl sl38 S rfl) (wlo 2 3 rfl rfl rfl (wo_run rfl rfl (run_sub rfl rfl rfl (by first | omega | (simp only [lens]; omega))) ?_)))
 refine wla 3 4 rfl rfl rfl rfl rfl rfl rfl (wl_eq 6 (.int .i64 ((xs.length : Int) - 2 - ((0 : Nat) : Int))) rfl (int_eq (by omega)) ?_)
 refine wla 4 5 rfl rfl rfl rfl rfl rfl rfl (wl_end rfl (nmk [0, 2, 3] rfl (nm_thn (ws_blockN ReverseP_n3 0 rfl rfl rfl ?_))))
 refine ws_loopE (fun mx_ ax_ wx_ => ∃ (k : Nat) (acc : List Int), mx_ = xs.length - k ∧ Env 28 [(0, alv vxs 1 (xs.length - 1)), (2, .int .i64 (k : Int)), (3, .int .i64 ((xs.length : Int) - 2 - (k : Int)))] ax_ ∧ SH wx_ M X [Rs.row cdInt vxs acc] ∧ k ≤ xs.length ∧ acc.length = xs.length ∧ rvA xs k acc) rfl ?_ ?_
 ·intro ax_ hax_
  refine ⟨_, ⟨0, xs, rfl, hax_.sub ⟨rfl, rfl, rfl, trivial⟩, S.pick [0] [_] (by decide) ⟨rfl, trivial⟩, ?hq1f0, ?hq1f1, ?hq1f2⟩⟩
  case hq1f0 => omega
  case hq1f1 => rfl
  case hq1f2 => exact rvA.zero xs
 ·rintro m1 a1 w1 ⟨k, acc, rfl, he1, S1, hk, hal, hrv⟩
  clear S
  refine ws_in he1 (c := ReverseP_n4) rfl ?_
  clear he1 a1
  refine ws_seqN ReverseP_n5 ReverseP_n6 rfl rfl rfl (ws_seqN ReverseP_n7 ReverseP_n8 rfl rfl rfl (ws_region rfl (wlm 0 1 rfl rfl rfl rfl rfl rfl rfl (wlm 1 2 rfl rfl rfl rfl rfl rfl rfl ?_))))
  refine wlo 2 3 rfl rfl rfl (wo_run rfl rfl (run_lss rfl rfl rfl) (wl_end rfl (nmk [0, 2, 3, 9] rfl (nm_thn ?_))))
  refine ws_condN ReverseP_n9 ReverseP_n10 rfl rfl rfl rfl (fun hb9 => ?_) (fun hb9 => ?_)
  ·replace hb9 := of_decide_eq_true hb9
   refine ws_skip rfl (nmk [0, 2, 3] rfl (nm_thn (ws_seqN ReverseP_n11 ReverseP_n12 rfl rfl rfl (ws_blockN ReverseP_n13 1 rfl rfl rfl ?_))))
   refine ws_eq 3 (.int .i64 ((xs.length - 2 - k : Nat) : Int)) rfl (int_eq (by omega)) ?_
   refine ws_draw rfl (by kernel_rfl) S1 16 rfl ?_
   clear S1
   refine wap 0 15 rfl (by kernel_rfl) rfl rfl rfl (fun w2 => run_move rfl rfl) ?_
   refine wap 1 14 rfl (by kernel_rfl) rfl rfl rfl (fun w3 => run_move rfl rfl) ?_
   refine wap 2 13 rfl (by kernel_rfl) rfl rfl rfl (fun w4 => run_move rfl rfl) ?_
   refine wap 3 12 rfl (by kernel_rfl) rfl rfl rfl (fun w5 => run_move rfl rfl) ?_
   refine wap 4 11 rfl (by kernel_rfl) rfl rfl rfl (fun w6 => run_move rfl rfl) ?_
   refine wap 5 10 rfl (by kernel_rfl) rfl rfl rfl (fun w7 => run_move rfl rfl) ?_
   refine wat 6 9 rfl (by kernel_rfl) rfl rfl rfl (fun M7 N7 w8 hle8 S8 => .inl (run_indexAl (lo := 1) (n := (xs.length - 1)) (i := 0) (xs.length - 2 - k) rfl rfl rfl sl38 S8.suf rfl (by first | rfl | omega) (by first | omega | (simp only [lens]; omega)) (by first | omega | (simp only [List.length_set]; omega)))) ?_
   refine wat 7 8 rfl (by kernel_rfl) rfl rfl rfl (fun M8 N8 w9 hle9 S9 => .inl (run_load1 rfl rfl Try.underlying3 rfl (S9.suf.rowc (i := 0) (e := 1 + (xs.length - 2 - k)) (j := 0) rfl (by first | omega | (simp only [lens]; omega)) rfl rfl))) ?_
   refine wap 8 7 rfl (by kernel_rfl) rfl rfl rfl (fun w10 => run_move rfl rfl) ?_
   refine wap 9 6 rfl (by kernel_rfl) rfl rfl rfl (fun w11 => run_move rfl rfl) ?_
   refine wat 10 5 rfl (by kernel_rfl) rfl rfl rfl (fun M11 N11 w12 hle12 S12 => .inl (run_indexAl (lo := 1) (n := (xs.length - 1)) (i := 0) k rfl rfl rfl sl38 S12.suf rfl (by first | rfl | omega) (by first | omega | (simp only [lens]; omega)) (by first | omega | (simp only [List.length_set]; omega)))) ?_
   refine wat 11 4 rfl (by kernel_rfl) rfl rfl rfl (fun M12 N12 w13 hle13 S13 => .inl (run_load1 rfl rfl Try.underlying3 rfl (S13.suf.rowc (i := 0) (e := 1 + k) (j := 0) rfl (by first | omega | (simp only [lens]; omega)) rfl rfl))) ?_
   refine wat 12 3 rfl (by kernel_rfl) rfl rfl rfl (fun M13 N13 w14 hle14 S14 => .inl (run_indexAl (lo := 1) (n := (xs.length - 1)) (i := 0) k rfl rfl rfl sl38 S14.suf rfl (by first | rfl | omega) (by first | omega | (simp only [lens]; omega)) (by first | omega | (simp only [List.length_set]; omega)))) ?_
   refine wa_only (i := 13) 2 rfl (by kernel_rfl) rfl rfl (fun w16 S16 => ?_)
   refine (wo_storeR (C := cdInt) (i := 0) (e := 1 + k) (j := 0) (us := [_]) (H' := [_]) (ga acc (1 + (xs.length - 2 - k))) rfl rfl S16 rfl (by first | omega | (simp only [lens]; omega)) rfl rfl rfl sz3 rfl rfl rfl rfl ?_)
   intro w17 S17; clear S16
   refine LeftW.turn (by kernel_rfl) S17 ?_; clear S17
   change WA _ _ _ _ _ _ _ _ _ _ _ _ [_]
   refine wat 14 1 rfl (by kernel_rfl) rfl rfl rfl (fun M15 N15 w18 hle16 S18 => .inl (run_indexAl (lo := 1) (n := (xs.length - 1)) (i := 0) (xs.length - 2 - k) rfl rfl rfl sl38 S18.suf rfl (by first | rfl | omega) (by first | omega | (simp only [lens]; omega)) (by first | omega | (simp only [List.length_set]; omega)))) ?_
   refine wa_only (i := 15) 0 rfl (by kernel_rfl) rfl rfl (fun w20 S20 => ?_)
   refine (wo_storeR (C := cdInt) (i := 0) (e := 1 + (xs.length - 2 - k)) (j := 0) (us := [_]) (H' := [_]) (ga acc (1 + k)) rfl rfl S20 rfl (by first | omega | (simp only [lens]; omega)) rfl rfl rfl sz3 rfl rfl rfl rfl ?_)
   intro w21 S21; clear S20
   refine LeftW.turn (by kernel_rfl) S21 ?_; clear S21
   change WA _ _ _ _ _ _ _ _ _ _ _ _ [_]
   refine wa_end (by kernel_rfl) (fun w22 S22 => ?_)
   refine nm_blk (nmk [0, 2, 3] rfl (nm_thn (ws_region rfl (wlm 0 1 rfl rfl rfl rfl rfl rfl rfl ?_))))
   refine wlo 1 2 rfl rfl rfl (wo_run rfl rfl (run_add rfl rfl rfl (by first | omega | (simp only [lens]; omega))) ?_)
   refine wlm 2 3 rfl rfl rfl rfl rfl rfl rfl (wlo 3 4 rfl rfl rfl (wo_run rfl rfl (run_sub rfl rfl rfl (by first | omega | (simp only [lens]; omega))) ?_))
   refine wla 4 5 rfl rfl rfl rfl rfl rfl rfl (wl_eq 13 (.int .i64 ((xs.length : Int) - 2 - ((k + 1 : Nat) : Int))) rfl (int_eq (by omega)) ?_)
   refine wla 5 6 rfl rfl rfl rfl rfl rfl rfl (wl_end rfl (nm_lp ?_))
   intro ax_ hax_
   refine ⟨_, ?hq2m, ⟨k + 1, _, rfl, hax_.sub ⟨rfl, rfl, rfl, trivial⟩, S22.pick [0] [_] (by decide) ⟨rfl, trivial⟩, ?hq2f0, ?hq2f1, ?hq2f2⟩⟩
   case hq2f0 => omega
   case hq2f1 => simpa using hal
   case hq2f2 => exact hrv.step (by omega)
   case hq2m => omega
  ·replace hb9 := of_decide_eq_false hb9
   refine ws_exit rfl rfl (nm_end hC [] rfl trivial ?_)
   exact ⟨_, rfl, _, _, Hp.le_refl _, S1.pick [0] [_] (by decide) ⟨rfl, trivial⟩, ⟨rfl, rfl, by rw [hrv.done (by omega)]⟩⟩
noncomputable def delta_n0 : Code := Try.f27.body.getD .skip
noncomputable def delta_n1 : Code := cL delta_n0
noncomputable def delta_n2 : Code := cR delta_n0
noncomputable def delta_n3 : Code := cL delta_n2
noncomputable def delta_n4 : Code := cR delta_n2
noncomputable def delta_n5 : Code := cL delta_n4
noncomputable def delta_n6 : Code := cR delta_n4
noncomputable def delta_n7 : Code := cL delta_n6
noncomputable def delta_n8 : Code := cR delta_n6
set_option maxRecDepth 10000 in
theorem delta_o {w : World} {M : Hp} {X : Fr} (n : Nat) (hn : n ≤ 6) (hn2 : 1 ≤ n) (S : SH w M X []) : Co Try.prog 27 [.int .i64 (n : Int)] w M X (fun u N => N = [Rs.row cdInt u (delL n)]) := by
 unfold Co
 have hil := idL_len n
 refine calls_in (b := delta_n0) Try.func27 rfl Try.ntmps27 rfl (fun C hC => (ws_sub [(0, _)] ⟨rfl, trivial⟩ (ws_seqN delta_n1 delta_n2 rfl rfl rfl (ws_region rfl (wla 0 1 rfl rfl rfl rfl rfl rfl rfl ?_)))))
 refine wl_end rfl (nmk [0] rfl (nm_thn (ws_seqN delta_n3 delta_n4 rfl rfl rfl (ws_region rfl ?_))))
 refine wlm 0 1 rfl rfl rfl rfl rfl rfl rfl (wlo 1 2 rfl rfl rfl (wo_co rfl rfl rfl rfl rfl rfl rfl cf24 S (identity_o n (by omega) S.lend) ?_))
 intro vw1 w1 Nw1 S1 hRw1; clear S
 subst hRw1
 change SH _ _ _ [_] at S1
 refine wla 2 3 rfl rfl rfl rfl rfl rfl rfl (wl_end rfl (nmk [3] rfl (nm_thn (ws_seqN delta_n5 delta_n6 rfl rfl rfl ?_))))
 refine ws_region rfl (wlm 0 1 rfl rfl rfl rfl rfl rfl rfl ?_)
 have hal9 := S1.sl_ (i := 0) rfl
 refine wlo 1 2 rfl rfl rfl (wo_run rfl rfl (run_aliasD (xs := (idL n)) 1 rfl rfl rfl sl38 hal9 (by first | rfl | omega) ((by first | omega | (simp only [lens]; omega)))) ?_)
 refine wlo 2 3 rfl rfl rfl (wo_c1 rfl rfl rfl rfl rfl rfl rfl cf35 S1 (i := 0) rfl (ReverseP_w vw1 (idL n) (by (try simp only [idL_len]); omega) (by (try simp only [idL_len]); omega) (S1.lend1 (i := 0) rfl)) ?_)
 rintro vw2 w2 _ _ - S2 ⟨rfl, rfl, rfl⟩; clear S1
 change SH _ _ _ [_] at S2
 refine wl_end rfl (nmk [3] rfl (nm_thn (ws_seqN delta_n7 delta_n8 rfl rfl rfl (ws_region rfl ?_))))
 refine wlm 0 1 rfl rfl rfl rfl rfl rfl rfl (wla 1 2 rfl rfl rfl rfl rfl rfl rfl (wl_end rfl (nmk [2] rfl (nm_thn ?_))))
 rw [revL_id] at S2
 refine ws_ret hC [_] rfl rfl ⟨rfl, trivial⟩ ?_
 exact ⟨_, rfl, _, S2.pick [0] [_] (by decide) ⟨rfl, trivial⟩, rfl⟩
noncomputable def flipped_n0 : Code := Try.f26.body.getD .skip
noncomputable def flipped_n1 : Code := cL flipped_n0
noncomputable def flipped_n2 : Code := cR flipped_n0
noncomputable def flipped_n3 : Code := cL flipped_n2
noncomputable def flipped_n4 : Code := cR flipped_n2
noncomputable def flipped_n5 : Code := cL flipped_n4
noncomputable def flipped_n6 : Code := cR flipped_n4
noncomputable def flipped_n7 : Code := cL flipped_n6
noncomputable def flipped_n8 : Code := cR flipped_n6
noncomputable def flipped_n9 : Code := cL flipped_n7
noncomputable def flipped_n10 : Code := cR flipped_n7
noncomputable def flipped_n11 : Code := cL flipped_n10
noncomputable def flipped_n12 : Code := cL flipped_n11
noncomputable def flipped_n13 : Code := cL flipped_n12
noncomputable def flipped_n14 : Code := cR flipped_n12
noncomputable def flipped_n15 : Code := cL flipped_n13
noncomputable def flipped_n16 : Code := cR flipped_n13
noncomputable def flipped_n17 : Code := cL flipped_n16
noncomputable def flipped_n18 : Code := cR flipped_n16
noncomputable def flipped_n19 : Code := cL flipped_n14
noncomputable def flipped_n20 : Code := cR flipped_n14
noncomputable def flipped_n21 : Code := cL flipped_n19
noncomputable def flipped_n22 : Code := cL flipped_n8
noncomputable def flipped_n23 : Code := cR flipped_n8
set_option maxRecDepth 10000 in
theorem flipped_o {w : World} {M : Hp} {X : Fr} (p : List Int) {pA : Option Addr} {pc : Nat} (hp : RdA cdInt (M.un X.h) pA pc p) {n : Nat} (hP : PL n p) (hn : n ≤ 6) (S : SH w M X []) : Co Try.prog 26 [.slice pA p.length pc] w M X (fun u N => N = [Rs.row cdInt u (flipL n p)]) := by
 unfold Co
 have rmhp : p.length * 8 ≤ 140737488355328 := hp.room
 have hpl := hP.len
 have hil := idL_len n
 refine calls_in (b := flipped_n0) Try.func26 rfl Try.ntmps26 rfl (fun C hC => (ws_sub [(0, _)] ⟨rfl, trivial⟩ (ws_seqN flipped_n1 flipped_n2 rfl rfl rfl (ws_region rfl (wla 0 1 rfl rfl rfl rfl rfl rfl rfl ?_)))))
 refine wl_end rfl (nmk [0] rfl (nm_thn (ws_seqN flipped_n3 flipped_n4 rfl rfl rfl (ws_region rfl ?_))))
 refine wlm 0 1 rfl rfl rfl rfl rfl rfl rfl (wlo 1 2 rfl rfl rfl (wo_run rfl rfl (run_len rfl rfl rfl rfl rfl rfl Try.underlying38) (wlo 2 3 rfl rfl rfl (wo_run rfl rfl (run_sub rfl rfl rfl (by first | omega | (simp only [lens]; omega))) ?_))))
 refine wla 3 4 rfl rfl rfl rfl rfl rfl rfl (wl_end rfl (nmk [0, 3] rfl (nm_thn (ws_seqN flipped_n5 flipped_n6 rfl rfl rfl ?_))))
 refine ws_region rfl (wl_eq 3 (.int .i64 (n : Int)) rfl (int_eq (by omega)) ?_)
 refine wlm 0 1 rfl rfl rfl rfl rfl rfl rfl (wlo 1 2 rfl rfl rfl (wo_co rfl rfl rfl rfl rfl rfl rfl cf24 S (identity_o n (by omega) S.lend) ?_))
 intro vw1 w1 Nw1 S1 hRw1; clear S
 subst hRw1
 change SH _ _ _ [_] at S1
 refine wla 2 3 rfl rfl rfl rfl rfl rfl rfl (wl_end rfl (nmk [0, 3, 4] rfl (nm_thn (ws_seqN flipped_n7 flipped_n8 rfl rfl rfl ?_))))
 refine ws_seqN flipped_n9 flipped_n10 rfl rfl rfl (ws_region rfl (wla 0 1 rfl rfl rfl rfl rfl rfl rfl (wl_end rfl (nm_thn ?_))))
 refine ws_blockN flipped_n11 0 rfl rfl rfl ?_
 refine ws_loopE (fun mx_ ax_ wx_ => ∃ (k : Nat) (acc : List Int) (vro : Value), mx_ = n - k ∧ Env 30 [(0, .slice pA p.length pc), (3, .int .i64 (n : Int)), (4, vro), (5, .int .i64 ((k : Int) + 1))] ax_ ∧ SH wx_ M X [Rs.row cdInt vro acc] ∧ k ≤ n ∧ acc.length = n + 1 ∧ (∀ j, j ≤ n → ga acc j = if 1 ≤ j ∧ j ≤ k then (n : Int) + 1 - ga p (n + 1 - j) else (j : Int))) rfl ?_ ?_
 ·intro ax_ hax_
  refine ⟨_, ⟨0, _, _, rfl, hax_.sub ⟨rfl, rfl, rfl, rfl, trivial⟩, S1.pick [0] [_] (by decide) ⟨rfl, trivial⟩, ?hq1f0, ?hq1f1, ?hq1f2⟩⟩
  case hq1f0 => omega
  case hq1f1 => exact hil
  case hq1f2 => (intro j hj; rw [if_neg (by omega), idL_ga hj])
 ·rintro m1 a1 w2 ⟨k, acc, vro, rfl, he1, S2, hk, hal, hg⟩
  clear S1
  refine ws_in he1 (c := flipped_n12) rfl ?_
  clear he1 a1
  refine ws_seqN flipped_n13 flipped_n14 rfl rfl rfl (ws_seqN flipped_n15 flipped_n16 rfl rfl rfl (ws_region rfl (wlm 0 1 rfl rfl rfl rfl rfl rfl rfl (wlm 1 2 rfl rfl rfl rfl rfl rfl rfl ?_))))
  refine wlo 2 3 rfl rfl rfl (wo_run rfl rfl (run_leq rfl rfl rfl) (wl_end rfl (nmk [0, 3, 4, 5, 13] rfl (nm_thn ?_))))
  refine ws_condN flipped_n17 flipped_n18 rfl rfl rfl rfl (fun hb13 => ?_) (fun hb13 => ?_)
  ·replace hb13 := of_decide_eq_true hb13
   refine ws_skip rfl (nmk [0, 3, 4, 5] rfl (nm_thn (ws_seqN flipped_n19 flipped_n20 rfl rfl rfl (ws_blockN flipped_n21 1 rfl rfl rfl ?_))))
   refine ws_region rfl (wlm 0 1 rfl rfl rfl rfl rfl rfl rfl (wlm 1 2 rfl rfl rfl rfl rfl rfl rfl (wlm 2 3 rfl rfl rfl rfl rfl rfl rfl (wlo 3 4 rfl rfl rfl (wo_run rfl rfl (run_add rfl rfl rfl (by first | omega | (simp only [lens]; omega))) ?_)))))
   refine wlm 4 5 rfl rfl rfl rfl rfl rfl rfl (wlm 5 6 rfl rfl rfl rfl rfl rfl rfl (wlo 6 7 rfl rfl rfl (wo_run rfl rfl (run_add rfl rfl rfl (by first | omega | (simp only [lens]; omega))) ?_)))
   refine wlm 7 8 rfl rfl rfl rfl rfl rfl rfl (wlo 8 9 rfl rfl rfl (wo_run rfl rfl (run_sub rfl rfl rfl (by first | omega | (simp only [lens]; omega))) ?_))
   refine wl_eq 24 (.int .i64 ((n - k : Nat) : Int)) rfl (int_eq (by omega)) ?_
   have hrg := hP.rg (n - k)
   refine wlo 9 10 rfl rfl rfl (wo_run rfl rfl (run_indexM (C := cdInt) (n - k) rfl rfl rfl sl38 (by first | rfl | omega) hp (by first | omega | (simp only [lens]; omega))) ?_)
   refine wlo 10 11 rfl rfl rfl (wo_run rfl rfl (run_load1 rfl rfl Try.underlying3 rfl (hp.cell S2.um (i := n - k) (by first | omega | (simp only [lens]; omega)) 0 rfl rfl)) ?_)
   refine wlo 11 12 rfl rfl rfl (wo_run rfl rfl (run_sub rfl rfl rfl (by first | omega | (simp only [lens]; omega))) ?_)
   refine wlo 12 13 rfl rfl rfl (wo_run rfl rfl (run_indexR (C := cdInt) (i := 0) (k + 1) rfl rfl rfl sl38 S2 rfl (by first | rfl | omega) (by first | omega | (simp only [lens]; omega))) ?_)
   refine wlo 13 14 rfl rfl rfl (wo_storeR (C := cdInt) (i := 0) (e := k + 1) (j := 0) (us := [_]) (H' := [_]) (((n : Int) + 1) - (ga p (n - k))) rfl rfl S2 rfl (by first | omega | (simp only [lens]; omega)) rfl rfl rfl sz3 rfl rfl rfl rfl ?_)
   intro w3 S3; clear S2
   refine wl_end rfl (nm_blk (nmk [0, 3, 4, 5] rfl (nm_thn (ws_region rfl ?_))))
   refine wlm 0 1 rfl rfl rfl rfl rfl rfl rfl (wlo 1 2 rfl rfl rfl (wo_run rfl rfl (run_add rfl rfl rfl (by first | omega | (simp only [lens]; omega))) ?_))
   refine wla 2 3 rfl rfl rfl rfl rfl rfl rfl (wl_end rfl (nm_lp ?_))
   intro ax_ hax_
   refine ⟨_, ?hq2m, ⟨k + 1, _, _, rfl, hax_.sub ⟨rfl, rfl, rfl, rfl, trivial⟩, S3.pick [0] [_] (by decide) ⟨rfl, trivial⟩, ?hq2f0, ?hq2f1, ?hq2f2⟩⟩
   case hq2f0 => omega
   case hq2f1 => simpa using hal
   case hq2f2 => (intro j hj; rw [ga_set _ _ _ _ (by omega)]; by_cases c : k + 1 = j; (rw [if_pos c, if_pos (by omega), show n - k = n + 1 - j by omega]); (rw [if_neg c, hg j hj]; by_cases c2 : 1 ≤ j ∧ j ≤ k; (rw [if_pos c2, if_pos (by omega)]); (rw [if_neg c2, if_neg (by omega)])))
   case hq2m => omega
  ·replace hb13 := of_decide_eq_false hb13
   refine ws_exit rfl rfl (nmk [4] rfl (nm_thn (ws_seqN flipped_n22 flipped_n23 rfl rfl rfl (ws_region rfl ?_))))
   refine wlm 0 1 rfl rfl rfl rfl rfl rfl rfl (wla 1 2 rfl rfl rfl rfl rfl rfl rfl (wl_end rfl (nmk [2] rfl (nm_thn ?_))))
   have e : acc = flipL n p := ga_ext (by rw [hal, flipL, mkP_len]) fun i hi => by (rw [hg i (by omega)]; by_cases c : i = 0; (subst c; rw [if_neg (by omega), flipL, mkP_z]; rfl); (rw [if_pos (by omega), flipL_ga (by omega) (by omega)]))
   subst e
   refine ws_ret hC [_] rfl rfl ⟨rfl, trivial⟩ ?_
   exact ⟨_, rfl, _, S2.pick [0] [_] (by decide) ⟨rfl, trivial⟩, rfl⟩
noncomputable def starts_n0 : Code := Try.f36.body.getD .skip
noncomputable def starts_n1 : Code := cL starts_n0
noncomputable def starts_n2 : Code := cR starts_n0
noncomputable def starts_n3 : Code := cL starts_n2
noncomputable def starts_n4 : Code := cR starts_n2
set_option maxRecDepth 10000 in
theorem starts_q {w : World} {M : Hp} {X : Fr} (p : List Int) {pA : Option Addr} {pc : Nat} (i : Nat) (hp : RdA cdInt (M.un X.h) pA pc p) (h1 : 1 ≤ i) (h2 : i + 1 < p.length) (S : SH w M X []) : Cq Try.prog 36 [.slice pA p.length pc, .int .i64 (i : Int)] w M X (fun u => u = .bool (decide (ga p (i + 1) < ga p i))) := by
 unfold Cq
 have rmhp : p.length * 8 ≤ 140737488355328 := hp.room
 refine calls_in (b := starts_n0) Try.func36 rfl Try.ntmps36 rfl (fun C hC => (ws_sub [(0, _), (1, _)] ⟨rfl, rfl, trivial⟩ (ws_seqN starts_n1 starts_n2 rfl rfl rfl (ws_region rfl (wla 0 1 rfl rfl rfl rfl rfl rfl rfl ?_)))))
 refine wl_end rfl (nmk [0, 1] rfl (nm_thn (ws_seqN starts_n3 starts_n4 rfl rfl rfl (ws_draw rfl (by kernel_rfl) S 11 rfl ?_))))
 clear S
 refine wap 0 10 rfl (by kernel_rfl) rfl rfl rfl (fun w1 => run_move rfl rfl) ?_
 refine wap 1 9 rfl (by kernel_rfl) rfl rfl rfl (fun w2 => run_move rfl rfl) ?_
 refine wat 2 8 rfl (by kernel_rfl) rfl rfl rfl (fun M3 N3 w3 hle3 S3 => .inl (run_indexM (C := cdInt) i rfl rfl rfl sl38 (by first | rfl | omega) (hp.mono (Hp.un_mono hle3 S3.mx)) (by first | omega | (simp only [lens]; omega)))) ?_
 refine wat 3 7 rfl (by kernel_rfl) rfl rfl rfl (fun M4 N4 w4 hle4 S4 => .inl (run_load1 rfl rfl Try.underlying3 rfl ((hp.mono (Hp.un_mono hle4 S4.mx)).cell S4.um (i := i) (by first | omega | (simp only [lens]; omega)) 0 rfl rfl))) ?_
 refine wap 4 6 rfl (by kernel_rfl) rfl rfl rfl (fun w5 => run_move rfl rfl) ?_
 refine wap 5 5 rfl (by kernel_rfl) rfl rfl rfl (fun w6 => run_move rfl rfl) ?_
 refine wap 6 4 rfl (by kernel_rfl) rfl rfl rfl (fun w7 => run_add rfl rfl rfl (by first | omega | (simp only [lens]; omega))) ?_
 refine wat 7 3 rfl (by kernel_rfl) rfl rfl rfl (fun M8 N8 w8 hle8 S8 => .inl (run_indexM (C := cdInt) (i + 1) rfl rfl rfl sl38 (by first | rfl | omega) (hp.mono (Hp.un_mono hle8 S8.mx)) (by first | omega | (simp only [lens]; omega)))) ?_
 refine wat 8 2 rfl (by kernel_rfl) rfl rfl rfl (fun M9 N9 w9 hle9 S9 => .inl (run_load1 rfl rfl Try.underlying3 rfl ((hp.mono (Hp.un_mono hle9 S9.mx)).cell S9.um (i := i + 1) (by first | omega | (simp only [lens]; omega)) 0 rfl rfl))) ?_
 refine wap 9 1 rfl (by kernel_rfl) rfl rfl rfl (fun w10 => run_gtr rfl rfl rfl) ?_
 refine wap 10 0 rfl (by kernel_rfl) rfl rfl rfl (fun w11 => run_assign rfl rfl) ?_
 refine wa_end (by kernel_rfl) (fun w12 S12 => ?_)
 refine nmk [4] rfl (nm_thn (ws_ret hC [_] rfl rfl ⟨rfl, trivial⟩ ?_))
 exact ⟨_, rfl, (S12.pick [] [] (by decide) trivial), rfl⟩
noncomputable def ends_n0 : Code := Try.f37.body.getD .skip
noncomputable def ends_n1 : Code := cL ends_n0
noncomputable def ends_n2 : Code := cR ends_n0
noncomputable def ends_n3 : Code := cL ends_n2
noncomputable def ends_n4 : Code := cR ends_n2
set_option maxRecDepth 10000 in
theorem ends_q {w : World} {M : Hp} {X : Fr} (p : List Int) {pA : Option Addr} {pc : Nat} (i : Nat) (hp : RdA cdInt (M.un X.h) pA pc p) {n : Nat} (hP : PL n p) (hn : n ≤ 6) (h1 : 1 ≤ i) (h2 : i < n) (S : SH w M X []) : Cq Try.prog 37 [.slice pA p.length pc, .int .i64 (i : Int)] w M X (fun u => u = .bool (decide (plL p ((i : Int) + 1) < plL p (i : Int)))) := by
 unfold Cq
 have rmhp : p.length * 8 ≤ 140737488355328 := hp.room
 have hpl := hP.len
 have hi1 := idxF_in (hP.mem_ h1 (by omega : i ≤ n))
 have hi2 := idxF_in (hP.mem2_ h1 h2)
 refine calls_in (b := ends_n0) Try.func37 rfl Try.ntmps37 rfl (fun C hC => (ws_sub [(0, _), (1, _)] ⟨rfl, rfl, trivial⟩ (ws_seqN ends_n1 ends_n2 rfl rfl rfl (ws_region rfl (wla 0 1 rfl rfl rfl rfl rfl rfl rfl ?_)))))
 refine wl_end rfl (nmk [0, 1] rfl (nm_thn (ws_seqN ends_n3 ends_n4 rfl rfl rfl (ws_region rfl ?_))))
 refine wlm 0 1 rfl rfl rfl rfl rfl rfl rfl (wlm 1 2 rfl rfl rfl rfl rfl rfl rfl (wlo 2 3 rfl rfl rfl (wo_cq rfl rfl rfl rfl rfl rfl rfl cf34 S (IndexP_q p (i : Int) (hp.mono S.un_XH) S.lend) ?_)))
 rintro _ w1 S1 rfl; clear S
 refine wlm 3 4 rfl rfl rfl rfl rfl rfl rfl (wlm 4 5 rfl rfl rfl rfl rfl rfl rfl (wlo 5 6 rfl rfl rfl (wo_run rfl rfl (run_add rfl rfl rfl (by first | omega | (simp only [lens]; omega))) ?_)))
 refine wlo 6 7 rfl rfl rfl (wo_cq rfl rfl rfl rfl rfl rfl rfl cf34 S1 (IndexP_q p ((i : Int) + 1) (hp.mono S1.un_XH) S1.lend) ?_)
 rintro _ w2 S2 rfl; clear S1
 refine wlo 7 8 rfl rfl rfl (wo_run rfl rfl (run_gtr rfl rfl rfl) (wla 8 9 rfl rfl rfl rfl rfl rfl rfl (wl_end rfl (nmk [4] rfl (nm_thn ?_)))))
 refine ws_ret hC [_] rfl rfl ⟨rfl, trivial⟩ ?_
 exact ⟨_, rfl, (S2.pick [] [] (by decide) trivial), (by show Value.bool _ = Value.bool _; refine congrArg Value.bool ?_; rw [decide_eq_decide]; unfold plL; omega)⟩
noncomputable def EqualP_n0 : Code := Try.f20.body.getD .skip
noncomputable def EqualP_n1 : Code := cL EqualP_n0
noncomputable def EqualP_n2 : Code := cR EqualP_n0
noncomputable def EqualP_n3 : Code := cL EqualP_n2
noncomputable def EqualP_n4 : Code := cR EqualP_n2
noncomputable def EqualP_n5 : Code := cL EqualP_n3
noncomputable def EqualP_n6 : Code := cR EqualP_n3
noncomputable def EqualP_n7 : Code := cL EqualP_n6
noncomputable def EqualP_n8 : Code := cR EqualP_n6
noncomputable def EqualP_n9 : Code := cL EqualP_n7
noncomputable def EqualP_n10 : Code := cR EqualP_n7
noncomputable def EqualP_n11 : Code := cL EqualP_n4
noncomputable def EqualP_n12 : Code := cR EqualP_n4
noncomputable def EqualP_n13 : Code := cL EqualP_n11
noncomputable def EqualP_n14 : Code := cR EqualP_n11
noncomputable def EqualP_n15 : Code := cL EqualP_n14
noncomputable def EqualP_n16 : Code := cL EqualP_n15
noncomputable def EqualP_n17 : Code := cL EqualP_n16
noncomputable def EqualP_n18 : Code := cR EqualP_n16
noncomputable def EqualP_n19 : Code := cL EqualP_n18
noncomputable def EqualP_n20 : Code := cR EqualP_n18
noncomputable def EqualP_n21 : Code := cL EqualP_n19
noncomputable def EqualP_n22 : Code := cR EqualP_n19
noncomputable def EqualP_n23 : Code := cL EqualP_n20
noncomputable def EqualP_n24 : Code := cR EqualP_n20
noncomputable def EqualP_n25 : Code := cL EqualP_n23
noncomputable def EqualP_n26 : Code := cL EqualP_n25
noncomputable def EqualP_n27 : Code := cR EqualP_n25
noncomputable def EqualP_n28 : Code := cL EqualP_n27
noncomputable def EqualP_n29 : Code := cR EqualP_n27
noncomputable def EqualP_n30 : Code := cL EqualP_n29
noncomputable def EqualP_n31 : Code := cR EqualP_n29
noncomputable def EqualP_n32 : Code := cL EqualP_n30
noncomputable def EqualP_n33 : Code := cR EqualP_n30
noncomputable def EqualP_n34 : Code := cL EqualP_n12
noncomputable def EqualP_n35 : Code := cR EqualP_n12
set_option maxRecDepth 10000 in
theorem EqualP_q {w : World} {M : Hp} {X : Fr} (p : List Int) {pA : Option Addr} {pc : Nat} (q : List Int) {qA : Option Addr} {qc : Nat} (hp : RdA cdInt (M.un X.h) pA pc p) (hq : RdA cdInt (M.un X.h) qA qc q) (S : SH w M X []) : Cq Try.prog 20 [.slice pA p.length pc, .slice qA q.length qc] w M X (fun u => u = .bool (decide (p = q))) := by
 unfold Cq
 have rmhp : p.length * 8 ≤ 140737488355328 := hp.room
 have rmhq : q.length * 8 ≤ 140737488355328 := hq.room
 refine calls_in (b := EqualP_n0) Try.func20 rfl Try.ntmps20 rfl (fun C hC => (ws_sub [(0, _), (1, _)] ⟨rfl, rfl, trivial⟩ (ws_seqN EqualP_n1 EqualP_n2 rfl rfl rfl (ws_region rfl (wla 0 1 rfl rfl rfl rfl rfl rfl rfl ?_)))))
 refine wl_end rfl (nmk [0, 1] rfl (nm_thn (ws_seqN EqualP_n3 EqualP_n4 rfl rfl rfl (ws_seqN EqualP_n5 EqualP_n6 rfl rfl rfl ?_))))
 refine ws_region rfl (wlm 0 1 rfl rfl rfl rfl rfl rfl rfl (wlo 1 2 rfl rfl rfl (wo_run rfl rfl (run_len rfl rfl rfl rfl rfl rfl Try.underlying38) (wlm 2 3 rfl rfl rfl rfl rfl rfl rfl (wlo 3 4 rfl rfl rfl (wo_run rfl rfl (run_len rfl rfl rfl rfl rfl rfl Try.underlying38) ?_))))))
 refine wlo 4 5 rfl rfl rfl (wo_run rfl rfl (run_neq rfl rfl rfl) (wl_end rfl (nmk [0, 1, 10] rfl (nm_thn ?_))))
 refine ws_condN EqualP_n7 EqualP_n8 rfl rfl rfl rfl (fun hb10 => ?_) (fun hb10 => ?_)
 ·replace hb10 := of_decide_eq_true hb10
  refine ws_seqN EqualP_n9 EqualP_n10 rfl rfl rfl (ws_region rfl (wla 0 1 rfl rfl rfl rfl rfl rfl rfl (wl_end rfl (nmk [4] rfl ?_))))
  refine nm_thn (ws_ret hC [_] rfl rfl ⟨rfl, trivial⟩ ?_)
  exact ⟨_, rfl, (S.pick [] [] (by decide) trivial), (by show Value.bool _ = Value.bool _; refine congrArg Value.bool ?_; first | exact (decide_eq_true (ga_ext (by omega) fun i hi => hg i (by omega))).symm | exact (decide_eq_false (fun e => by subst e; omega)).symm)⟩
 ·replace hb10 := of_decide_eq_false hb10
  refine ws_skip rfl (nmk [0, 1] rfl (nm_thn (ws_seqN EqualP_n11 EqualP_n12 rfl rfl rfl (ws_seqN EqualP_n13 EqualP_n14 rfl rfl rfl ?_))))
  refine ws_region rfl (wlm 0 1 rfl rfl rfl rfl rfl rfl rfl (wlo 1 2 rfl rfl rfl (wo_run rfl rfl (run_len rfl rfl rfl rfl rfl rfl Try.underlying38) (wlm 2 3 rfl rfl rfl rfl rfl rfl rfl (wl_end rfl ?_)))))
  refine nmk [0, 1, 12, 13] rfl (nm_thn (ws_blockN EqualP_n15 0 rfl rfl rfl ?_))
  refine ws_loopE (fun mx_ ax_ wx_ => ∃ (k : Nat), mx_ = p.length - k ∧ Env 26 [(0, .slice pA p.length pc), (1, .slice qA q.length qc), (12, .int .i64 (p.length : Int)), (13, .int .i64 (k : Int))] ax_ ∧ SH wx_ M X [] ∧ k ≤ p.length ∧ (∀ j, j < k → ga p j = ga q j)) rfl ?_ ?_
  ·intro ax_ hax_
   refine ⟨_, ⟨0, rfl, hax_.sub ⟨rfl, rfl, rfl, rfl, trivial⟩, S.pick [] [] (by decide) trivial, ?hq1f0, ?hq1f1⟩⟩
   case hq1f0 => omega
   case hq1f1 => (intro j hj; omega)
  ·rintro m1 a1 w1 ⟨k, rfl, he1, S1, hk, hg⟩
   clear S
   refine ws_in he1 (c := EqualP_n16) rfl ?_
   clear he1 a1
   refine ws_seqN EqualP_n17 EqualP_n18 rfl rfl rfl (ws_region rfl (wlo 0 1 rfl rfl rfl (wo_run rfl rfl (run_lss rfl rfl rfl) (wl_end rfl (nm_thn ?_)))))
   refine ws_seqN EqualP_n19 EqualP_n20 rfl rfl rfl ?_
   refine ws_condN EqualP_n21 EqualP_n22 rfl rfl rfl rfl (fun hb14 => ?_) (fun hb14 => ?_)
   ·replace hb14 := of_decide_eq_true hb14
    refine ws_skip rfl (nmk [0, 1, 12, 13] rfl (nm_thn (ws_seqN EqualP_n23 EqualP_n24 rfl rfl rfl (ws_blockN EqualP_n25 1 rfl rfl rfl ?_))))
    refine ws_seqN EqualP_n26 EqualP_n27 rfl rfl rfl (ws_region rfl (wlm 0 1 rfl rfl rfl rfl rfl rfl rfl (wla 1 2 rfl rfl rfl rfl rfl rfl rfl (wl_end rfl ?_))))
    refine nmk [0, 1, 12, 13, 5] rfl (nm_thn (ws_seqN EqualP_n28 EqualP_n29 rfl rfl rfl (ws_draw rfl (by kernel_rfl) S1 9 rfl ?_)))
    clear S1
    refine wap 0 8 rfl (by kernel_rfl) rfl rfl rfl (fun w2 => run_move rfl rfl) ?_
    refine wap 1 7 rfl (by kernel_rfl) rfl rfl rfl (fun w3 => run_move rfl rfl) ?_
    refine wat 2 6 rfl (by kernel_rfl) rfl rfl rfl (fun M3 N3 w4 hle4 S4 => .inl (run_indexM (C := cdInt) k rfl rfl rfl sl38 (by first | rfl | omega) (hp.mono (Hp.un_mono hle4 S4.mx)) (by first | omega | (simp only [lens]; omega)))) ?_
    refine wat 3 5 rfl (by kernel_rfl) rfl rfl rfl (fun M4 N4 w5 hle5 S5 => .inl (run_load1 rfl rfl Try.underlying3 rfl ((hp.mono (Hp.un_mono hle5 S5.mx)).cell S5.um (i := k) (by first | omega | (simp only [lens]; omega)) 0 rfl rfl))) ?_
    refine wap 4 4 rfl (by kernel_rfl) rfl rfl rfl (fun w6 => run_move rfl rfl) ?_
    refine wap 5 3 rfl (by kernel_rfl) rfl rfl rfl (fun w7 => run_move rfl rfl) ?_
    refine wat 6 2 rfl (by kernel_rfl) rfl rfl rfl (fun M7 N7 w8 hle8 S8 => .inl (run_indexM (C := cdInt) k rfl rfl rfl sl38 (by first | rfl | omega) (hq.mono (Hp.un_mono hle8 S8.mx)) (by first | omega | (simp only [lens]; omega)))) ?_
    refine wat 7 1 rfl (by kernel_rfl) rfl rfl rfl (fun M8 N8 w9 hle9 S9 => .inl (run_load1 rfl rfl Try.underlying3 rfl ((hq.mono (Hp.un_mono hle9 S9.mx)).cell S9.um (i := k) (by first | omega | (simp only [lens]; omega)) 0 rfl rfl))) ?_
    refine wap 8 0 rfl (by kernel_rfl) rfl rfl rfl (fun w10 => run_neq rfl rfl rfl) ?_
    refine wa_end (by kernel_rfl) (fun w11 S11 => ?_)
    refine nmk [0, 1, 12, 13, 24] rfl (nm_thn ?_)
    refine ws_condN EqualP_n30 EqualP_n31 rfl rfl rfl rfl (fun hb24 => ?_) (fun hb24 => ?_)
    ·replace hb24 := of_decide_eq_true hb24
     refine ws_seqN EqualP_n32 EqualP_n33 rfl rfl rfl (ws_region rfl (wla 0 1 rfl rfl rfl rfl rfl rfl rfl (wl_end rfl (nmk [4] rfl ?_))))
     refine nm_thn (ws_ret hC [_] rfl rfl ⟨rfl, trivial⟩ ?_)
     exact ⟨_, rfl, (S11.pick [] [] (by decide) trivial), (by show Value.bool _ = Value.bool _; refine congrArg Value.bool ?_; first | exact (decide_eq_true (ga_ext (by omega) fun i hi => hg i (by omega))).symm | exact (decide_eq_false (fun e => by subst e; omega)).symm)⟩
    ·replace hb24 := of_decide_eq_false hb24
     refine ws_skip rfl (nm_blk (nmk [0, 1, 12, 13] rfl (nm_thn (ws_region rfl ?_))))
     refine wlo 0 1 rfl rfl rfl (wo_run rfl rfl (run_add rfl rfl rfl (by first | omega | (simp only [lens]; omega))) ?_)
     refine wlm 1 2 rfl rfl rfl rfl rfl rfl rfl (wl_end rfl (nm_lp ?_))
     intro ax_ hax_
     refine ⟨_, ?hq2m, ⟨k + 1, rfl, hax_.sub ⟨rfl, rfl, rfl, rfl, trivial⟩, S11.pick [] [] (by decide) trivial, ?hq2f0, ?hq2f1⟩⟩
     case hq2f0 => omega
     case hq2f1 => (intro j hj; by_cases h : j = k; (subst h; omega); exact hg j (by omega))
     case hq2m => omega
   ·replace hb14 := of_decide_eq_false hb14
    refine ws_exit rfl rfl (nm_sub [] trivial (nm_thn (ws_seqN EqualP_n34 EqualP_n35 rfl rfl rfl (ws_region rfl ?_))))
    refine wla 0 1 rfl rfl rfl rfl rfl rfl rfl (wl_end rfl (nm_thn (ws_ret hC [_] rfl rfl ⟨rfl, trivial⟩ ?_)))
    exact ⟨_, rfl, (S1.pick [] [] (by decide) trivial), (by show Value.bool _ = Value.bool _; refine congrArg Value.bool ?_; first | exact (decide_eq_true (ga_ext (by omega) fun i hi => hg i (by omega))).symm | exact (decide_eq_false (fun e => by subst e; omega)).symm)⟩
end Go.Proofs.Ytomcgmialkdcbaa
namespace Go.Proofs.Ytomcgmialkdcbaa
open Go.ChangeShapes Go.WideShapes Go.ChangeAt Go.RowKit
def shC (p q : List Int) (i : Nat) : Prop := ga q (i + 1) < ga q i ∧ ¬ plL p ((i : Int) + 1) < plL p (i : Int)
instance (p q : List Int) (i : Nat) : Decidable (shC p q i) := by unfold shC; infer_instance
/-- The first letter that may be moved; 0: none. -/
def shI (n : Nat) (p q : List Int) : Nat := ((List.range n).find? fun i => decide (1 ≤ i ∧ shC p q i)).getD 0
theorem shI_at {n : Nat} {p q : List Int} {k : Nat} (h1 : 1 ≤ k) (h2 : k < n) (hc : shC p q k) (hn : ∀ j, 1 ≤ j → j < k → ¬ shC p q j) : shI n p q = k := by
 unfold shI
 have e : (List.range n).find? (fun i => decide (1 ≤ i ∧ shC p q i)) = some k := by
  rw [List.find?_eq_some_iff_getElem]
  refine ⟨decide_eq_true ⟨h1, hc⟩, k, by rw [List.length_range]; exact h2, by rw [List.getElem_range], fun j hj => ?_⟩
  rw [List.getElem_range]
  simp only [Bool.not_eq_true', decide_eq_false_iff_not]
  rintro ⟨a, b⟩
  exact hn j a hj b
 rw [e]; rfl
theorem shI_no {n : Nat} {p q : List Int} (hn : ∀ j, 1 ≤ j → j < n → ¬ shC p q j) : shI n p q = 0 := by
 unfold shI
 have e : (List.range n).find? (fun i => decide (1 ≤ i ∧ shC p q i)) = none := by
  rw [List.find?_eq_none]
  intro j hj
  rw [List.mem_range] at hj
  rw [decide_eq_true_iff]
  rintro ⟨a, b⟩
  exact hn j a hj b
 rw [e]; rfl
theorem shI_spec {n : Nat} {p q : List Int} (h : shI n p q ≠ 0) : 1 ≤ shI n p q ∧ shI n p q < n ∧ shC p q (shI n p q) := by
 unfold shI at *
 cases e : (List.range n).find? (fun i => decide (1 ≤ i ∧ shC p q i)) with
 | none => rw [e] at h; exact absurd rfl h
 | some k =>
  have h1 := List.find?_some e
  have h2 := List.mem_of_find?_eq_some e
  rw [List.mem_range] at h2
  rw [decide_eq_true_iff] at h1
  exact ⟨h1.1, h2, h1.2⟩
theorem shI_none {n : Nat} {p q : List Int} (h : shI n p q = 0) : ∀ j, 1 ≤ j → j < n → ¬ shC p q j := fun j j1 j2 hc => by
 unfold shI at h
 cases e : (List.range n).find? (fun i => decide (1 ≤ i ∧ shC p q i)) with
 | none =>
  rw [List.find?_eq_none] at e
  exact e j (List.mem_range.2 j2) (decide_eq_true ⟨j1, hc⟩)
 | some k =>
  have h1 := List.find?_some e
  rw [decide_eq_true_iff] at h1
  rw [e] at h
  have h : k = 0 := h
  omega
def shA (n : Nat) (p q : List Int) : List Int := if shI n p q = 0 then p else thenL p (shI n p q : Int)
def shB (n : Nat) (p q : List Int) : List Int := if shI n p q = 0 then q else swL q (shI n p q)
theorem sh_at {n : Nat} {p q : List Int} {k : Nat} (e : shI n p q = k) (h1 : 1 ≤ k) : shA n p q = thenL p (k : Int) ∧ shB n p q = swL q k := by
 unfold shA shB; rw [e, if_neg (by omega), if_neg (by omega)]; exact ⟨rfl, rfl⟩
theorem sh_no {n : Nat} {p q : List Int} (e : shI n p q = 0) : shA n p q = p ∧ shB n p q = q := by
 unfold shA shB; rw [if_pos e, if_pos e]; exact ⟨rfl, rfl⟩
noncomputable def Shift_n0 : Code := Try.f28.body.getD .skip
noncomputable def Shift_n1 : Code := cL Shift_n0
noncomputable def Shift_n2 : Code := cR Shift_n0
noncomputable def Shift_n3 : Code := cL Shift_n2
noncomputable def Shift_n4 : Code := cR Shift_n2
noncomputable def Shift_n5 : Code := cL Shift_n3
noncomputable def Shift_n6 : Code := cR Shift_n3
noncomputable def Shift_n7 : Code := cL Shift_n6
noncomputable def Shift_n8 : Code := cL Shift_n7
noncomputable def Shift_n9 : Code := cL Shift_n8
noncomputable def Shift_n10 : Code := cR Shift_n8
noncomputable def Shift_n11 : Code := cL Shift_n9
noncomputable def Shift_n12 : Code := cR Shift_n9
noncomputable def Shift_n13 : Code := cL Shift_n12
noncomputable def Shift_n14 : Code := cR Shift_n12
noncomputable def Shift_n15 : Code := cL Shift_n10
noncomputable def Shift_n16 : Code := cR Shift_n10
noncomputable def Shift_n17 : Code := cL Shift_n15
noncomputable def Shift_n18 : Code := cL Shift_n17
noncomputable def Shift_n19 : Code := cR Shift_n17
noncomputable def Shift_n20 : Code := cL Shift_n19
noncomputable def Shift_n21 : Code := cR Shift_n19
noncomputable def Shift_n22 : Code := cL Shift_n20
noncomputable def Shift_n23 : Code := cR Shift_n20
noncomputable def Shift_n24 : Code := cL Shift_n23
noncomputable def Shift_n25 : Code := cR Shift_n23
noncomputable def Shift_n26 : Code := cL Shift_n25
noncomputable def Shift_n27 : Code := cR Shift_n25
noncomputable def Shift_n28 : Code := cL Shift_n4
noncomputable def Shift_n29 : Code := cR Shift_n4
set_option maxRecDepth 10000 in
theorem Shift_b {w : World} {M : Hp} {X : Fr} {vp : Value} {p : List Int} {vq : Value} {q : List Int} {n : Nat} (hP : PL n p) (hQ : PL n q) (hn2 : 2 ≤ n) (hn : n ≤ 6) (S : SH w M X [Rs.bun [Rs.row cdInt vp p, Rs.row cdInt vq q]]) : C1 Try.prog 28 [vp, vq] w M X (fun u M' r' => u = .bool (decide (shI n p q ≠ 0)) ∧ M' = M ∧ r' = Rs.bun [Rs.row cdInt vp (shA n p q), Rs.row cdInt vq (shB n p q)]) := by
 unfold C1
 replace S := S.unbun
 have hpl := hP.len
 have hql := hQ.len
 refine calls_in (b := Shift_n0) Try.func28 rfl Try.ntmps28 rfl (fun C hC => (ws_sub [(0, _), (1, _)] ⟨rfl, rfl, trivial⟩ (ws_seqN Shift_n1 Shift_n2 rfl rfl rfl (ws_region rfl (wla 0 1 rfl rfl rfl rfl rfl rfl rfl ?_)))))
 refine wl_end rfl (nmk [0, 1] rfl (nm_thn (ws_seqN Shift_n3 Shift_n4 rfl rfl rfl (ws_seqN Shift_n5 Shift_n6 rfl rfl rfl ?_))))
 refine ws_region rfl (wla 0 1 rfl rfl rfl rfl rfl rfl rfl (wl_end rfl (nm_thn (ws_blockN Shift_n7 0 rfl rfl rfl ?_))))
 refine ws_loopE (fun mx_ ax_ wx_ => ∃ (k : Nat), mx_ = n - k ∧ Env 41 [(0, vp), (1, vq), (5, .int .i64 ((k + 1 : Nat) : Int))] ax_ ∧ SH wx_ M X [Rs.row cdInt vp p, Rs.row cdInt vq q] ∧ k + 1 ≤ n ∧ (∀ j, 1 ≤ j → j < k + 1 → ¬ shC p q j)) rfl ?_ ?_
 ·intro ax_ hax_
  refine ⟨_, ⟨0, rfl, hax_.sub ⟨rfl, rfl, rfl, trivial⟩, S.pick [0, 1] [_, _] (by decide) ⟨rfl, rfl, trivial⟩, ?hq1f0, ?hq1f1⟩⟩
  case hq1f0 => omega
  case hq1f1 => (intro j h1 h2; omega)
 ·rintro m1 a1 w1 ⟨k, rfl, he1, S1, hk, hno⟩
  clear S
  refine ws_in he1 (c := Shift_n8) rfl ?_
  clear he1 a1
  refine ws_seqN Shift_n9 Shift_n10 rfl rfl rfl (ws_seqN Shift_n11 Shift_n12 rfl rfl rfl (ws_region rfl (wlm 0 1 rfl rfl rfl rfl rfl rfl rfl (wlm 1 2 rfl rfl rfl rfl rfl rfl rfl ?_))))
  refine wlo 2 3 rfl rfl rfl (wo_run rfl rfl (run_lenR (C := cdInt) (i := 0) rfl rfl rfl rfl rfl rfl sl38 S1 rfl) (wlo 3 4 rfl rfl rfl (wo_run rfl rfl (run_sub rfl rfl rfl (by first | omega | (simp only [lens]; omega))) ?_)))
  refine wlo 4 5 rfl rfl rfl (wo_run rfl rfl (run_lss rfl rfl rfl) (wl_end rfl (nmk [0, 1, 5, 10] rfl (nm_thn ?_))))
  refine ws_condN Shift_n13 Shift_n14 rfl rfl rfl rfl (fun hb10 => ?_) (fun hb10 => ?_)
  ·replace hb10 := of_decide_eq_true hb10
   refine ws_skip rfl (nmk [0, 1, 5] rfl (nm_thn (ws_seqN Shift_n15 Shift_n16 rfl rfl rfl (ws_blockN Shift_n17 1 rfl rfl rfl ?_))))
   refine ws_seqN Shift_n18 Shift_n19 rfl rfl rfl (ws_region rfl (wlm 0 1 rfl rfl rfl rfl rfl rfl rfl (wlm 1 2 rfl rfl rfl rfl rfl rfl rfl ?_)))
   obtain ⟨A1, c1, e1, hr1⟩ := S1.lendRd (i := 1) rfl (by show _ * 8 ≤ _; first | omega | (simp only [lens]; omega))
   have hcall1 := starts_q q (k + 1) hr1 (by omega) (by omega) S1.lend
   refine wlo 2 3 rfl rfl rfl (wo_cq rfl rfl rfl rfl rfl rfl rfl cf36 S1 (Cq.cast (by simp only [e1]) (hcall1)) ?_)
   rintro _ w2 S2 rfl; clear S1
   refine wlm 3 4 rfl rfl rfl rfl rfl rfl rfl ?_
   refine wl_split (t := 16) rfl (fun hg16 => ?_) (fun hg16 => ?_)
   ·refine wlg 4 5 rfl rfl rfl rfl rfl rfl rfl rfl (wo_run rfl rfl (run_move rfl rfl) (wlg 5 6 rfl rfl rfl rfl rfl rfl rfl rfl (wo_run rfl rfl (run_move rfl rfl) ?_)))
    obtain ⟨A2, c2, e2, hr2⟩ := S2.lendRd (i := 0) rfl (by show _ * 8 ≤ _; first | omega | (simp only [lens]; omega))
    have hcall2 := ends_q p (k + 1) hr2 (by assumption) (by omega) (by omega) (by omega) S2.lend
    refine wlg 6 7 rfl rfl rfl rfl rfl rfl rfl rfl (wo_cq rfl rfl rfl rfl rfl rfl rfl cf37 S2 (Cq.cast (by simp only [e2]) (hcall2)) ?_)
    rintro _ w3 S3 rfl; clear S2
    refine wlg 7 8 rfl rfl rfl rfl rfl rfl rfl rfl (wo_run rfl rfl (run_not rfl rfl) (wlo 8 9 rfl rfl rfl (wo_run rfl rfl (run_pickT rfl rfl rfl) (wl_end rfl (nmk [0, 1, 5, 21] rfl (nm_thn ?_))))))
    refine ws_condN Shift_n20 Shift_n21 rfl rfl rfl rfl (fun hb21 => ?_) (fun hb21 => ?_)
    ·simp only [Bool.and_eq_true, Bool.or_eq_true, Bool.and_eq_false_iff, Bool.or_eq_false_iff, decide_eq_true_eq, decide_eq_false_iff_not, Bool.not_eq_true', Bool.not_eq_false'] at hb21
     have hsc : shC p q (k + 1) := ⟨of_decide_eq_true hg16, hb21⟩
     have hsh : shI n p q = k + 1 := shI_at (by omega) (by omega) hsc hno
     refine ws_seqN Shift_n22 Shift_n23 rfl rfl rfl (ws_region rfl (wlm 0 1 rfl rfl rfl rfl rfl rfl rfl (wlm 1 2 rfl rfl rfl rfl rfl rfl rfl (wlo 2 3 rfl rfl rfl (wo_c1 rfl rfl rfl rfl rfl rfl rfl cf25 S3 (i := 0) rfl (thenP_w vp _ ((k + 1 : Nat) : Int) (hP.mem_ (by omega) (by omega)) (hP.mem2_ (by omega) (by omega)) (by (try simp only [idL_len, delL_len]); omega) (by omega) (S3.lend1 (i := 0) rfl)) ?_)))))
     rintro vw4 w4 _ _ - S4 ⟨rfl, rfl, rfl⟩; clear S3
     change SH _ _ _ [_, _] at S4
     refine wl_end rfl (nmk [1, 5] rfl (nm_thn (ws_seqN Shift_n24 Shift_n25 rfl rfl rfl (ws_draw rfl (by kernel_rfl) S4 18 rfl ?_))))
     clear S4
     refine wap 0 17 rfl (by kernel_rfl) rfl rfl rfl (fun w5 => run_move rfl rfl) ?_
     refine wap 1 16 rfl (by kernel_rfl) rfl rfl rfl (fun w6 => run_move rfl rfl) ?_
     refine wap 2 15 rfl (by kernel_rfl) rfl rfl rfl (fun w7 => run_move rfl rfl) ?_
     refine wap 3 14 rfl (by kernel_rfl) rfl rfl rfl (fun w8 => run_move rfl rfl) ?_
     refine wap 4 13 rfl (by kernel_rfl) rfl rfl rfl (fun w9 => run_add rfl rfl rfl (by first | omega | (simp only [lens]; omega))) ?_
     refine wap 5 12 rfl (by kernel_rfl) rfl rfl rfl (fun w10 => run_move rfl rfl) ?_
     refine wap 6 11 rfl (by kernel_rfl) rfl rfl rfl (fun w11 => run_move rfl rfl) ?_
     refine wap 7 10 rfl (by kernel_rfl) rfl rfl rfl (fun w12 => run_add rfl rfl rfl (by first | omega | (simp only [lens]; omega))) ?_
     refine wat 8 9 rfl (by kernel_rfl) rfl rfl rfl (fun M9 N9 w13 hle10 S13 => .inl (run_indexR (C := cdInt) (i := 1) (k + 1 + 1) rfl rfl rfl sl38 S13.suf rfl (by first | rfl | omega) (by first | omega | (simp only [lens]; omega)))) ?_
     refine wat 9 8 rfl (by kernel_rfl) rfl rfl rfl (fun M10 N10 w14 hle11 S14 => .inl (run_load1 rfl rfl Try.underlying3 rfl (S14.suf.rowc (i := 1) (e := k + 1 + 1) (j := 0) rfl (by first | omega | (simp only [lens]; omega)) rfl rfl))) ?_
     refine wap 10 7 rfl (by kernel_rfl) rfl rfl rfl (fun w15 => run_move rfl rfl) ?_
     refine wap 11 6 rfl (by kernel_rfl) rfl rfl rfl (fun w16 => run_move rfl rfl) ?_
     refine wat 12 5 rfl (by kernel_rfl) rfl rfl rfl (fun M13 N13 w17 hle14 S17 => .inl (run_indexR (C := cdInt) (i := 1) (k + 1) rfl rfl rfl sl38 S17.suf rfl (by first | rfl | omega) (by first | omega | (simp only [lens]; omega)))) ?_
     refine wat 13 4 rfl (by kernel_rfl) rfl rfl rfl (fun M14 N14 w18 hle15 S18 => .inl (run_load1 rfl rfl Try.underlying3 rfl (S18.suf.rowc (i := 1) (e := k + 1) (j := 0) rfl (by first | omega | (simp only [lens]; omega)) rfl rfl))) ?_
     refine wat 14 3 rfl (by kernel_rfl) rfl rfl rfl (fun M15 N15 w19 hle16 S19 => .inl (run_indexR (C := cdInt) (i := 1) (k + 1) rfl rfl rfl sl38 S19.suf rfl (by first | rfl | omega) (by first | omega | (simp only [lens]; omega)))) ?_
     refine wa_only (i := 15) 2 rfl (by kernel_rfl) rfl rfl (fun w21 S21 => ?_)
     refine (wo_storeR (C := cdInt) (i := 1) (e := k + 1) (j := 0) (us := [_]) (H' := [_, _]) (ga q (k + 1 + 1)) rfl rfl S21 rfl (by first | omega | (simp only [lens]; omega)) rfl rfl rfl sz3 rfl rfl rfl rfl ?_)
     intro w22 S22; clear S21
     refine LeftW.turn (by kernel_rfl) S22 ?_; clear S22
     change WA _ _ _ _ _ _ _ _ _ _ _ _ [_, _]
     refine wat 16 1 rfl (by kernel_rfl) rfl rfl rfl (fun M17 N17 w23 hle18 S23 => .inl (run_indexR (C := cdInt) (i := 1) (k + 1 + 1) rfl rfl rfl sl38 S23.suf rfl (by first | rfl | omega) (by first | omega | (simp only [lens]; omega)))) ?_
     refine wa_only (i := 17) 0 rfl (by kernel_rfl) rfl rfl (fun w25 S25 => ?_)
     refine (wo_storeR (C := cdInt) (i := 1) (e := k + 1 + 1) (j := 0) (us := [_]) (H' := [_, _]) (ga q (k + 1)) rfl rfl S25 rfl (by first | omega | (simp only [lens]; omega)) rfl rfl rfl sz3 rfl rfl rfl rfl ?_)
     intro w26 S26; clear S25
     refine LeftW.turn (by kernel_rfl) S26 ?_; clear S26
     change WA _ _ _ _ _ _ _ _ _ _ _ _ [_, _]
     refine wa_end (by kernel_rfl) (fun w27 S27 => ?_)
     refine nm_sub [] trivial (nm_thn (ws_seqN Shift_n26 Shift_n27 rfl rfl rfl (ws_region rfl (wla 0 1 rfl rfl rfl rfl rfl rfl rfl ?_))))
     refine wl_end rfl (nm_thn (ws_ret hC [_] rfl rfl ⟨rfl, trivial⟩ ?_))
     refine ⟨_, rfl, _, _, Hp.le_refl _, (S27.pick [0, 1] [_, _] (by decide) ⟨rfl, rfl, trivial⟩).bun, ?_⟩
     obtain ⟨ea, eb⟩ := sh_at hsh (by omega)
     rw [hsh, ea, eb]
     exact ⟨rfl, rfl, rfl⟩
    ·simp only [Bool.and_eq_true, Bool.or_eq_true, Bool.and_eq_false_iff, Bool.or_eq_false_iff, decide_eq_true_eq, decide_eq_false_iff_not, Bool.not_eq_true', Bool.not_eq_false'] at hb21
     have hnc : ¬ shC p q (k + 1) := (fun h => by first | exact h.2 hb21 | exact absurd (decide_eq_true h.1) (by rw [hg16]; decide))
     refine ws_skip rfl (nm_blk (nmk [0, 1, 5] rfl (nm_thn (ws_region rfl ?_))))
     refine wlm 0 1 rfl rfl rfl rfl rfl rfl rfl (wlo 1 2 rfl rfl rfl (wo_run rfl rfl (run_add rfl rfl rfl (by first | omega | (simp only [lens]; omega))) ?_))
     refine wla 2 3 rfl rfl rfl rfl rfl rfl rfl (wl_end rfl (nm_lp ?_))
     intro ax_ hax_
     refine ⟨_, ?hq2m, ⟨k + 1, rfl, hax_.sub ⟨rfl, rfl, rfl, trivial⟩, S3.pick [0, 1] [_, _] (by decide) ⟨rfl, rfl, trivial⟩, ?hq2f0, ?hq2f1⟩⟩
     case hq2f0 => omega
     case hq2f1 => (intro j j1 j2; by_cases c : j = k + 1; (subst c; exact hnc); exact hno j j1 (by omega))
     case hq2m => omega
   ·have hnc : ¬ shC p q (k + 1) := (fun h => by first | exact h.2 hb21 | exact absurd (decide_eq_true h.1) (by rw [hg16]; decide))
    refine wln 4 5 rfl rfl rfl rfl rfl rfl rfl rfl rfl (wln 5 6 rfl rfl rfl rfl rfl rfl rfl rfl rfl (wln 6 7 rfl rfl rfl rfl rfl rfl rfl rfl rfl (wln 7 8 rfl rfl rfl rfl rfl rfl rfl rfl rfl (wlo 8 9 rfl rfl rfl (wo_run rfl rfl (run_pickF rfl rfl rfl) ?_)))))
    refine wl_end rfl (nmk [0, 1, 5, 21] rfl (nm_thn (ws_condFN Shift_n21 rfl rfl rfl (ws_skip rfl ?_))))
    refine nm_blk (nmk [0, 1, 5] rfl (nm_thn (ws_region rfl (wlm 0 1 rfl rfl rfl rfl rfl rfl rfl ?_))))
    refine wlo 1 2 rfl rfl rfl (wo_run rfl rfl (run_add rfl rfl rfl (by first | omega | (simp only [lens]; omega))) ?_)
    refine wla 2 3 rfl rfl rfl rfl rfl rfl rfl (wl_end rfl (nm_lp ?_))
    intro ax_ hax_
    refine ⟨_, ?hq3m, ⟨k + 1, rfl, hax_.sub ⟨rfl, rfl, rfl, trivial⟩, S2.pick [0, 1] [_, _] (by decide) ⟨rfl, rfl, trivial⟩, ?hq3f0, ?hq3f1⟩⟩
    case hq3f0 => omega
    case hq3f1 => (intro j j1 j2; by_cases c : j = k + 1; (subst c; exact hnc); exact hno j j1 (by omega))
    case hq3m => omega
  ·replace hb10 := of_decide_eq_false hb10
   refine ws_exit rfl rfl (nm_sub [] trivial (nm_thn (ws_seqN Shift_n28 Shift_n29 rfl rfl rfl (ws_region rfl ?_))))
   refine wla 0 1 rfl rfl rfl rfl rfl rfl rfl (wl_end rfl (nm_thn (ws_ret hC [_] rfl rfl ⟨rfl, trivial⟩ ?_)))
   refine ⟨_, rfl, _, _, Hp.le_refl _, (S1.pick [0, 1] [_, _] (by decide) ⟨rfl, rfl, trivial⟩).bun, ?_⟩
   have hsh : shI n p q = 0 := shI_no fun j a b => hno j a (by omega)
   obtain ⟨ea, eb⟩ := sh_no hsh
   rw [hsh, ea, eb]
   exact ⟨rfl, rfl, rfl⟩
end Go.Proofs.Ytomcgmialkdcbaa
namespace Go.Proofs.Ytomcgmialkdcbaa
open Go.ChangeShapes Go.WideShapes Go.ChangeAt Go.RowKit
section
variable {κ ε : Type} [DecidableEq κ]
end
section
variable {P : Program} {o : Oper} {L : List (Nat × Value)} {w w' : World} {x y z : Operand} {t T K E : TypeId} {v u : Value} {n d g i : Nat} {Kt : List (Nat × Value) → World → Prop} {M M' : Hp} {X : Fr} {H H' : List Rs}
variable {κ ε : Type} [DecidableEq κ] {kc : κ → Value} {vc : ε → Value} {es : List (κ × ε)}
theorem wo_runV (hd : o.dst = none) (hr : Run P o L w v w') (h : Kt L w') : WO P n o L w Kt := by
  intro a ha next Q hk
  unfold Oper.wp
  rw [hr n a ha, Oper.upon_value, hd]
  exact hk _ _ _ ha h
end
end Go.Proofs.Ytomcgmialkdcbaa
namespace Go.Proofs.Ytomcgmialkdcbaa
open Go.ChangeShapes Go.WideShapes Go.ChangeAt Go.RowKit
section
variable {α : Type} {C : Cd α} {w : World} {M : Hp} {X : Fr} {H H' : List Rs} {i k : Nat} {vs : List SlV} {xss : List (List α)}
theorem nth_set_get {H : List Rs} {i j : Nat} {t r : Rs} (h : (H.set i t)[j]? = some r) : (j = i ∧ r = t) ∨ (j ≠ i ∧ H[j]? = some r) := by
  rw [List.getElem?_set] at h
  by_cases e : i = j
  · rw [if_pos e] at h
    split at h
    · injection h with h; exact .inl ⟨e.symm, h.symm⟩
    · cases h
  · rw [if_neg e] at h; exact .inr ⟨fun e2 => e e2.symm, h⟩
/-- The row at k is taken out of a table. -/
theorem SH.tabtake (S : SH w M X H) (k : Nat) (hi : nth H i = some (Rs.tab C vs xss)) (hk : k < xss.length) (hH : Rs.row C (ga vs k).v (ga xss k) :: H.set i (Rs.tab C (vs.set k ⟨none, 0, 0⟩) (xss.set k [])) = H') : SH w M X H' := by
  subst hH
  have ht : TabOk C vs xss (hp w) := S.get hi
  have hkv : k < vs.length := by rw [ht.1]; exact hk
  have hi' := hi
  rw [nth_eq] at hi'
  have hmem : Rs.tab C vs xss ∈ H := List.mem_of_getElem? hi'
  have sub : ∀ b ∈ (Rs.tab C (vs.set k ⟨none, 0, 0⟩) (xss.set k [])).bl, b ∈ (Rs.tab C vs xss).bl ∧ b ∉ (Rs.row C (ga vs k).v (ga xss k)).bl := fun b hb => by
    obtain ⟨j, hj, hb⟩ := tab_mem.1 hb
    rw [List.length_set] at hj
    rw [ga_set _ _ _ _ hkv] at hb
    by_cases h : k = j
    · rw [if_pos h] at hb; cases hb
    · rw [if_neg h] at hb; exact ⟨tab_mem.2 ⟨j, hj, hb⟩, ht.2.2 j k hj hkv (fun e => h e.symm) b hb⟩
  have rsub : ∀ b ∈ (Rs.row C (ga vs k).v (ga xss k)).bl, b ∈ (Rs.tab C vs xss).bl := fun b hb => tab_mem.2 ⟨k, hkv, hb⟩
  have hrow : ∀ (j : Nat) (r : Rs), (H.set i (Rs.tab C (vs.set k ⟨none, 0, 0⟩) (xss.set k [])))[j]? = some r → ∀ b ∈ (Rs.row C (ga vs k).v (ga xss k)).bl, b ∉ r.bl := fun j r hr b hb hc => by
    rcases nth_set_get hr with ⟨rfl, rfl⟩ | ⟨hne, hr⟩
    · exact (sub b hc).2 hb
    · exact S.ap i j _ _ (fun e => hne e.symm) hi' hr b (rsub b hb) hc
  refine ⟨S.m, S.x, S.mx, fun r hr => ?_, fun r hr b hb => ?_, fun a c r s hac ha hc b hb => ?_, S.like⟩
  · rcases List.mem_cons.1 hr with rfl | hr
    · exact ht.2.1 k hk
    · rcases List.mem_or_eq_of_mem_set hr with hr | rfl
      · exact S.ok r hr
      · refine ⟨by simp [ht.1], fun j hj => ?_, fun j m hj hm hjm b hb => ?_⟩
        · rw [List.length_set] at hj
          rw [ga_set _ _ _ _ hkv, ga_set _ _ _ _ hk]
          by_cases h : k = j
          · rw [if_pos h, if_pos h]; exact .inl ⟨rfl, rfl⟩
          · rw [if_neg h, if_neg h]; exact ht.2.1 j hj
        · rw [List.length_set] at hj hm
          rw [ga_set _ _ _ _ hkv] at hb ⊢
          by_cases h1 : k = j
          · rw [if_pos h1] at hb; cases hb
          · rw [if_neg h1] at hb
            by_cases h2 : k = m
            · rw [if_pos h2]; intro h; cases h
            · rw [if_neg h2]; exact ht.2.2 j m hj hm hjm b hb
  · rcases List.mem_cons.1 hr with rfl | hr
    · exact S.bl _ hmem b (rsub b hb)
    · rcases List.mem_or_eq_of_mem_set hr with hr | rfl
      · exact S.bl r hr b hb
      · exact S.bl _ hmem b (sub b hb).1
  · cases a with
    | zero =>
      cases c with
      | zero => exact absurd rfl hac
      | succ c =>
        simp only [List.getElem?_cons_zero, Option.some.injEq] at ha
        rw [List.getElem?_cons_succ] at hc
        subst ha
        exact hrow c s hc b hb
    | succ a =>
      rw [List.getElem?_cons_succ] at ha
      cases c with
      | zero =>
        simp only [List.getElem?_cons_zero, Option.some.injEq] at hc
        subst hc
        exact fun h => hrow a r ha b h hb
      | succ c =>
        rw [List.getElem?_cons_succ] at hc
        have hne : a ≠ c := fun e => hac (by rw [e])
        rcases nth_set_get ha with ⟨e1, e2⟩ | ⟨h1, ha2⟩
        · rcases nth_set_get hc with ⟨e3, e4⟩ | ⟨h2, hc2⟩
          · exact absurd (e1.trans e3.symm) hne
          · subst e1; subst e2; exact S.ap a c _ _ hne hi' hc2 b (sub b hb).1
        · rcases nth_set_get hc with ⟨e3, e4⟩ | ⟨h2, hc2⟩
          · subst e3; subst e4; exact fun h => S.ap a c _ _ hne ha2 hi' b hb (sub b h).1
          · exact S.ap a c _ _ hne ha2 hc2 b hb
theorem set_ga_self {β : Type} [Inhabited β] (xs : List β) (k : Nat) : xs.set k (ga xs k) = xs := by
  by_cases h : k < xs.length
  · rw [ga_eq h, List.set_getElem_self]
  · rw [List.set_eq_of_length_le (by omega)]
end
section
variable {P : Program} {o : Oper} {L : List (Nat × Value)} {w : World} {x y : Operand} {t T : TypeId} {a : Int} {M : Hp} {X : Fr} {H : List Rs} {i lo n d : Nat} {Kt : List (Nat × Value) → World → Prop}
theorem run_aliasDG {α : Type} {C : Cd α} {xs : List α} {rv : Value} {lx : Operand} (k : Nat) (hk1 : C.k = 1) (hop : o.op = .slice T x (some lx) none none) (hxx : oev L x = some rv) (hlo : oev L lx = some (.int .i64 a)) (hT : SlOf P T C) (hv : ∃ A c, rv = .slice A xs.length c ∧ xs.length ≤ c) (ha : a = (k : Int)) (hk : k ≤ xs.length) : Run P o L w (alv rv k (xs.length - k)) w := by
  obtain ⟨zv, h1, h2, h3, h4, h5⟩ := hT
  obtain ⟨inf, hinf, hz, hs, h8⟩ := info_parts h2
  subst ha
  obtain ⟨A, c, rfl, hc⟩ := hv
  have := run_sliceI (P := P) (w := w) (lo := k) (hi := xs.length) hop hxx (lv := some (.int .i64 (k : Int))) (hv := none) (size := C.k) (by simpa using hlo) rfl h1 (by rw [hinf]; simp [hs]) (.inr rfl) (.inl ⟨rfl, rfl⟩) hk hc
  rw [hk1, Nat.mul_one] at this
  exact this
theorem flat_rep {α : Type} {C : Cd α} {x : α} {u : Value} (h : C.f x = [u]) : ∀ m, (List.replicate m x).flatMap C.f = List.replicate m u
  | 0 => rfl
  | m + 1 => by rw [List.replicate_succ, List.flatMap_cons, h, flat_rep h m]; rfl
theorem flat_take1 {α : Type} {C : Cd α} (hk : C.k = 1) : ∀ (xs : List α) (m : Nat), (xs.flatMap C.f).take m = (xs.take m).flatMap C.f
  | [], m => by simp
  | x :: xs, 0 => by simp
  | x :: xs, m + 1 => by
    have hl : (C.f x).length = 1 := by rw [C.hf, hk]
    match e : C.f x, hl with
    | [u], _ =>
      rw [List.flatMap_cons, List.take_succ_cons, List.flatMap_cons, e]
      show u :: List.take m (xs.flatMap C.f) = u :: _
      rw [flat_take1 hk xs m]; rfl
/-- clear(x[lo:]) -/
theorem wo_clearAl {α : Type} {C : Cd α} {xs : List α} {rv : Value} {ca : Call} {ops : List Operand} {ts : List TypeId} (hk1 : C.k = 1) (hop : o.op = .call ca) (hca : ca.callee = .builtin .clear) (hxs : ca.args = ops.toArray) (hts : ca.argTypes = ts.toArray) (hd : o.dst = none)
    (hx : oevs L ops = some [alv rv lo n]) (ht : ts = [t]) (hT : SlOf P t C) (S : SH w M X H) (hi : nth H i = some (Rs.row C rv xs)) (hlo : lo ≤ xs.length) (hn : n = xs.length - lo)
    (h : ∀ w', SH w' M X (H.set i (Rs.row C rv (xs.take lo ++ List.replicate n C.z))) → Kt L w') : WO P d o L w Kt := by
  obtain ⟨zv, h1, h2, h3, h4, h5⟩ := hT
  obtain ⟨inf, hinf, hz, hs, h8⟩ := info_parts h2
  subst hn
  subst ht
  rcases Nat.lt_or_ge lo xs.length with h0 | h0
  · rcases (S.get hi : RowOk C rv xs (hp w)) with ⟨_, h9⟩ | ⟨g, cap, cur, rfl, hg, g3, g4, g5, g6⟩
    · exfalso; rw [h9, List.length_nil] at h0; omega
    · rw [alv_in (by omega)] at hx
      have hzl : (C.f C.z).length = 1 := by rw [C.hf, hk1]
      obtain ⟨u, hu⟩ : ∃ u, C.f C.z = [u] := by
        match e : C.f C.z, hzl with
        | [u], _ => exact ⟨u, rfl⟩
      rw [hu] at h3
      have hzc : zv.cells = #[u] := by apply Array.ext'; simpa using h3
      have hcs : cur.size = cap := by rw [g5, hk1, Nat.mul_one]
      have hcur : cur.toList.length = cap := by rw [Array.length_toList, hcs]
      rw [hk1, Nat.mul_one] at g6
      have hzer : (Builtin.zeroCells zv.cells (xs.length - lo)).toList = List.replicate (xs.length - lo) u := by
        rw [hzc]
        simp [Builtin.zeroCells]
        apply List.ext_getElem
        · simp
        · intro i h1 h2
          simp [Nat.mod_one]
      have h1c : u.oneCell' = true := C.one C.z u (by rw [hu]; simp)
      have hst := run_storeCells_at P g lo C.E (List.replicate (xs.length - lo) u) 0 cur w hg (by rw [List.length_replicate]; omega) (by intro v hv'; rw [List.eq_of_mem_replicate hv']; exact h1c)
      rw [List.length_replicate, Nat.add_zero, show lo + (xs.length - lo) = xs.length by omega] at hst
      have hrun : (Builtin.clear_ #[t] o.type #[.slice (some ⟨g, lo, none⟩) (xs.length - lo) (cap - lo)]).run P w = .ok (.tuple #[]) (w.setRow g (cur.toList.take lo ++ List.replicate (xs.length - lo) u ++ cur.toList.drop xs.length).toArray) := by
        obtain ⟨m, hm⟩ : ∃ m, xs.length - lo = m + 1 := ⟨xs.length - lo - 1, by omega⟩
        rw [hm] at hzer hst ⊢
        have hzv : (zeroValue C.E).run P w = .ok zv w := by simp [zeroValue, typeInfo, hinf, hz]
        simp [Builtin.clear_, run_underlying h1, hzv, hzer, hst]
      refine wo_runV hd (v := .tuple #[]) ?_ (h (w.setRow g (cur.toList.take lo ++ List.replicate (xs.length - lo) u ++ cur.toList.drop xs.length).toArray) ?_)
      · intro n c' he
        unfold execOp
        simp only [hop, resolve, hca, hxs, hts, List.map_toArray, he.evals hx, Sem.run_bind, Sem.run_pure, Result.andThen_ok, invoke, builtin, hrun]
      · refine S.step hi rfl (like_setRow _ _ _) (fun b _ hb => keep_setRow _ _ _ b (by simpa [Rs.row, Value.ownBlock] using hb)) ?_ (fun b hb => ⟨.inl hb, ?_⟩)
        · have hsr := setRow_heap w g cur (cur.toList.take lo ++ List.replicate (xs.length - lo) u ++ cur.toList.drop xs.length).toArray C.E (0, 0) hg
          have hln : (xs.take lo ++ List.replicate (xs.length - lo) C.z).length = xs.length := by rw [List.length_append, List.length_take, List.length_replicate]; omega
          have hl2 : (cur.toList.take lo ++ List.replicate (xs.length - lo) u).length = xs.length := by rw [List.length_append, List.length_take, List.length_replicate]; omega
          refine .inr ⟨g, cap, _, by rw [hln], hsr, by rw [hln]; exact g3, g4, ?_, ?_⟩
          · rw [hk1, Nat.mul_one, List.size_toArray, List.length_append, hl2, List.length_drop]; omega
          · rw [hln, hk1, Nat.mul_one, List.take_append_of_le_length (by omega), List.take_of_length_le (by omega), List.flatMap_append, flat_rep hu, ← flat_take1 hk1, ← g6, List.take_take, show min lo xs.length = lo by omega]
        · simp [Rs.row, Value.ownBlock] at hb
          subst hb
          have := hp_lt hg
          simpa using this
  · have e0 : xs.length - lo = 0 := by omega
    obtain ⟨A, c, rfl, hc⟩ := S.sl hi
    have e1 : xs.take lo ++ List.replicate (xs.length - lo) C.z = xs := by rw [e0, List.take_of_length_le (by omega)]; simp
    rw [e1, set_same hi] at h
    refine wo_runV hd (v := .tuple #[]) (w' := w) ?_ (h _ S)
    intro n c' he
    unfold execOp
    have hrun : (Builtin.clear_ #[t] o.type #[alv (.slice A xs.length c) lo (xs.length - lo)]).run P w = .ok (.tuple #[]) w := by
      obtain ⟨A2, e2⟩ : ∃ A2, alv (.slice A xs.length c) lo (xs.length - lo) = .slice A2 0 (c - lo) := ⟨_, by rw [e0]; rfl⟩
      rw [e2]
      cases A2 <;> simp [Builtin.clear_, run_underlying h1]
    simp only [hop, resolve, hca, hxs, hts, List.map_toArray, he.evals hx, Sem.run_bind, Sem.run_pure, Result.andThen_ok, invoke, builtin, hrun]
end
end Go.Proofs.Ytomcgmialkdcbaa
namespace Go.Proofs.Ytomcgmialkdcbaa
open Go.ChangeShapes Go.WideShapes Go.ChangeAt Go.RowKit
/-- The place of the first that is so, or -1. -/
def idxP (p : List Int → Bool) (xs : List (List Int)) : Int := match xs.findIdx? p with
 | some i => (i : Int)
 | none => -1
theorem idxP_hit {p : List Int → Bool} {xs : List (List Int)} {k : Nat} (hk : k < xs.length) (h : p (ga xs k) = true) (h0 : ∀ j, j < k → p (ga xs j) = false) : idxP p xs = k := by
 have : xs.findIdx? p = some k := by
  rw [List.findIdx?_eq_some_iff_getElem]
  refine ⟨hk, by rw [← ga_eq hk]; exact h, fun j hj => ?_⟩
  rw [← ga_eq (by omega), h0 j hj]; simp
 simp [idxP, this]
theorem idxP_none {p : List Int → Bool} {xs : List (List Int)} (h0 : ∀ j, j < xs.length → p (ga xs j) = false) : idxP p xs = -1 := by
 have : xs.findIdx? p = none := by
  rw [List.findIdx?_eq_none_iff]
  intro x hx
  obtain ⟨j, hj, rfl⟩ := List.mem_iff_getElem.1 hx
  rw [← ga_eq hj]; exact h0 j hj
 simp [idxP, this]
theorem idxP_spec {p : List Int → Bool} {xs : List (List Int)} : (idxP p xs = -1 ∧ xs.filter (fun x => !p x) = xs) ∨ ∃ k, k < xs.length ∧ idxP p xs = (k : Int) ∧ (xs.take (k + 1)).filter (fun x => !p x) = xs.take k := by
 unfold idxP
 cases h : xs.findIdx? p with
 | none =>
  rw [List.findIdx?_eq_none_iff] at h
  exact .inl ⟨rfl, List.filter_eq_self.2 fun x hx => by rw [h x hx]; rfl⟩
 | some k =>
  rw [List.findIdx?_eq_some_iff_getElem] at h
  obtain ⟨h1, h2, h3⟩ := h
  refine .inr ⟨k, h1, rfl, ?_⟩
  rw [List.take_succ_eq_append_getElem h1, List.filter_append, List.filter_cons_of_neg (by rw [h2]; simp), List.filter_nil, List.append_nil]
  refine List.filter_eq_self.2 fun x hx => ?_
  obtain ⟨j, hj, rfl⟩ := List.mem_iff_getElem.1 hx
  rw [List.length_take] at hj
  have := h3 j (by omega)
  rw [List.getElem_take]
  simpa using this
noncomputable def IndexFuncP_n0 : Code := Try.f38.body.getD .skip
noncomputable def IndexFuncP_n1 : Code := cL IndexFuncP_n0
noncomputable def IndexFuncP_n2 : Code := cR IndexFuncP_n0
noncomputable def IndexFuncP_n3 : Code := cL IndexFuncP_n2
noncomputable def IndexFuncP_n4 : Code := cR IndexFuncP_n2
noncomputable def IndexFuncP_n5 : Code := cL IndexFuncP_n3
noncomputable def IndexFuncP_n6 : Code := cR IndexFuncP_n3
noncomputable def IndexFuncP_n7 : Code := cL IndexFuncP_n6
noncomputable def IndexFuncP_n8 : Code := cL IndexFuncP_n7
noncomputable def IndexFuncP_n9 : Code := cL IndexFuncP_n8
noncomputable def IndexFuncP_n10 : Code := cR IndexFuncP_n8
noncomputable def IndexFuncP_n11 : Code := cL IndexFuncP_n10
noncomputable def IndexFuncP_n12 : Code := cR IndexFuncP_n10
noncomputable def IndexFuncP_n13 : Code := cL IndexFuncP_n11
noncomputable def IndexFuncP_n14 : Code := cR IndexFuncP_n11
noncomputable def IndexFuncP_n15 : Code := cL IndexFuncP_n12
noncomputable def IndexFuncP_n16 : Code := cR IndexFuncP_n12
noncomputable def IndexFuncP_n17 : Code := cL IndexFuncP_n15
noncomputable def IndexFuncP_n18 : Code := cL IndexFuncP_n17
noncomputable def IndexFuncP_n19 : Code := cR IndexFuncP_n17
noncomputable def IndexFuncP_n20 : Code := cL IndexFuncP_n19
noncomputable def IndexFuncP_n21 : Code := cR IndexFuncP_n19
noncomputable def IndexFuncP_n22 : Code := cL IndexFuncP_n21
noncomputable def IndexFuncP_n23 : Code := cR IndexFuncP_n21
noncomputable def IndexFuncP_n24 : Code := cL IndexFuncP_n22
noncomputable def IndexFuncP_n25 : Code := cR IndexFuncP_n22
noncomputable def IndexFuncP_n26 : Code := cL IndexFuncP_n4
noncomputable def IndexFuncP_n27 : Code := cR IndexFuncP_n4
set_option maxRecDepth 10000 in
theorem IndexFuncP_q {w : World} {M : Hp} {X : Fr} (s : List (List Int)) {sA : Option Addr} {sc : Nat} {sv : List SlV} (fv : FuncId) (cap : List Value) (p : List Int → Bool) (hs : RdA (cdV 38) (M.un X.h) sA sc sv) (hds : Rd2 cdInt (M.un X.h) sv s) (hen : ∀ args w, (callFunc fv args).run Try.prog w = .ok (.enter fv args) w) (hf : ∀ (w : World) (Y : Fr), (M.un X.h).le (M.un Y.h) → SH w M Y [] → ∀ A c xs, xs ∈ s → RdA cdInt (M.un Y.h) A c xs → Cq Try.prog fv ([.slice A xs.length c] ++ cap) w M Y (fun u => u = .bool (p xs))) (S : SH w M X []) : Cq Try.prog 38 [.slice sA sv.length sc, .func (.func fv) #[] cap.toArray] w M X (fun u => u = .int .i64 (idxP p s)) := by
 unfold Cq
 have rmhs : sv.length * 24 ≤ 140737488355328 := hs.room
 have hsl := hds.1
 refine calls_in (b := IndexFuncP_n0) Try.func38 rfl Try.ntmps38 rfl (fun C hC => (ws_sub [(0, _), (1, _)] ⟨rfl, rfl, trivial⟩ (ws_seqN IndexFuncP_n1 IndexFuncP_n2 rfl rfl rfl (ws_region rfl (wla 0 1 rfl rfl rfl rfl rfl rfl rfl ?_)))))
 refine wl_end rfl (nmk [0, 1] rfl (nm_thn (ws_seqN IndexFuncP_n3 IndexFuncP_n4 rfl rfl rfl (ws_seqN IndexFuncP_n5 IndexFuncP_n6 rfl rfl rfl ?_))))
 refine ws_region rfl (wlm 0 1 rfl rfl rfl rfl rfl rfl rfl (wlo 1 2 rfl rfl rfl (wo_run rfl rfl (run_len rfl rfl rfl rfl rfl rfl Try.underlying35) (wlm 2 3 rfl rfl rfl rfl rfl rfl rfl (wl_end rfl ?_)))))
 refine nmk [0, 1, 7, 8] rfl (nm_thn (ws_blockN IndexFuncP_n7 0 rfl rfl rfl ?_))
 refine ws_loopE (fun mx_ ax_ wx_ => ∃ (k : Nat), mx_ = sv.length - k ∧ Env 19 [(0, .slice sA sv.length sc), (1, .func (.func fv) #[] cap.toArray), (7, .int .i64 (sv.length : Int)), (8, .int .i64 (k : Int))] ax_ ∧ SH wx_ M X [] ∧ k ≤ sv.length ∧ (∀ j, j < k → p (ga s j) = false)) rfl ?_ ?_
 ·intro ax_ hax_
  refine ⟨_, ⟨0, rfl, hax_.sub ⟨rfl, rfl, rfl, rfl, trivial⟩, S.pick [] [] (by decide) trivial, ?hq1f0, ?hq1f1⟩⟩
  case hq1f0 => omega
  case hq1f1 => (intro j hj; omega)
 ·rintro m1 a1 w1 ⟨k, rfl, he1, S1, hk, hno⟩
  clear S
  refine ws_in he1 (c := IndexFuncP_n8) rfl ?_
  clear he1 a1
  have hsl := hds.1
  refine ws_seqN IndexFuncP_n9 IndexFuncP_n10 rfl rfl rfl (ws_region rfl (wlo 0 1 rfl rfl rfl (wo_run rfl rfl (run_lss rfl rfl rfl) (wl_end rfl (nm_thn ?_)))))
  refine ws_seqN IndexFuncP_n11 IndexFuncP_n12 rfl rfl rfl ?_
  refine ws_condN IndexFuncP_n13 IndexFuncP_n14 rfl rfl rfl rfl (fun hb9 => ?_) (fun hb9 => ?_)
  ·replace hb9 := of_decide_eq_true hb9
   refine ws_skip rfl (nmk [0, 1, 7, 8] rfl (nm_thn (ws_seqN IndexFuncP_n15 IndexFuncP_n16 rfl rfl rfl (ws_blockN IndexFuncP_n17 1 rfl rfl rfl ?_))))
   refine ws_seqN IndexFuncP_n18 IndexFuncP_n19 rfl rfl rfl (ws_region rfl (wlm 0 1 rfl rfl rfl rfl rfl rfl rfl (wla 1 2 rfl rfl rfl rfl rfl rfl rfl (wl_end rfl ?_))))
   refine nmk [0, 1, 7, 8, 5] rfl (nm_thn (ws_seqN IndexFuncP_n20 IndexFuncP_n21 rfl rfl rfl (ws_region rfl (wlm 0 1 rfl rfl rfl rfl rfl rfl rfl ?_))))
   refine wlm 1 2 rfl rfl rfl rfl rfl rfl rfl (wlm 2 3 rfl rfl rfl rfl rfl rfl rfl (wlo 3 4 rfl rfl rfl (wo_run rfl rfl (run_indexM (C := (cdV 38)) k rfl rfl rfl sl35 (by first | rfl | omega) hs (by first | omega | (simp only [lens]; omega))) ?_)))
   obtain ⟨hn1, hr1⟩ := hds.2 k (by first | omega | (simp only [lens]; omega))
   have rmhr1 : (ga s k).length * 8 ≤ 140737488355328 := hr1.room
   refine wlo 4 5 rfl rfl rfl (wo_run rfl rfl (run_load1 rfl rfl Try.underlying38 rfl (hs.cell S1.um (i := k) (by first | omega | (simp only [lens]; omega)) 0 rfl (congrArg (fun n => some (Value.slice _ n _)) hn1))) ?_)
   refine wlo 5 6 rfl rfl rfl (wo_cqF rfl rfl rfl rfl rfl rfl rfl hen S1 (hf _ _ S1.un_XH S1.lend _ _ _ (ga_mem (by omega)) (hr1.mono S1.un_XH)) ?_)
   rintro _ w2 S2 rfl; clear S1
   refine wl_end rfl (nmk [0, 1, 7, 8, 5, 16] rfl (nm_thn ?_))
   refine ws_condN IndexFuncP_n22 IndexFuncP_n23 rfl rfl rfl rfl (fun hb16 => ?_) (fun hb16 => ?_)
   ·refine ws_seqN IndexFuncP_n24 IndexFuncP_n25 rfl rfl rfl (ws_region rfl (wlm 0 1 rfl rfl rfl rfl rfl rfl rfl (wla 1 2 rfl rfl rfl rfl rfl rfl rfl (wl_end rfl ?_))))
    refine nmk [4] rfl (nm_thn (ws_ret hC [_] rfl rfl ⟨rfl, trivial⟩ ?_))
    exact ⟨_, rfl, (S2.pick [] [] (by decide) trivial), (by rw [idxP_hit (by omega) hb16 hno]; rfl)⟩
   ·refine ws_skip rfl (nm_blk (nmk [0, 1, 7, 8] rfl (nm_thn (ws_region rfl ?_))))
    refine wlo 0 1 rfl rfl rfl (wo_run rfl rfl (run_add rfl rfl rfl (by first | omega | (simp only [lens]; omega))) ?_)
    refine wlm 1 2 rfl rfl rfl rfl rfl rfl rfl (wl_end rfl (nm_lp ?_))
    intro ax_ hax_
    refine ⟨_, ?hq2m, ⟨k + 1, rfl, hax_.sub ⟨rfl, rfl, rfl, rfl, trivial⟩, S2.pick [] [] (by decide) trivial, ?hq2f0, ?hq2f1⟩⟩
    case hq2f0 => omega
    case hq2f1 => (intro j hj; by_cases h : j = k; (subst h; exact hb16); exact hno j (by omega))
    case hq2m => omega
  ·replace hb9 := of_decide_eq_false hb9
   refine ws_exit rfl rfl (nm_sub [] trivial (nm_thn (ws_seqN IndexFuncP_n26 IndexFuncP_n27 rfl rfl rfl (ws_region rfl ?_))))
   refine wla 0 1 rfl rfl rfl rfl rfl rfl rfl (wl_end rfl (nm_thn (ws_ret hC [_] rfl rfl ⟨rfl, trivial⟩ ?_)))
   exact ⟨_, rfl, (S1.pick [] [] (by decide) trivial), (by rw [idxP_none (fun j hj => hno j (by omega))]; rfl)⟩
noncomputable def Normal1_n0 : Code := Try.f30.body.getD .skip
noncomputable def Normal1_n1 : Code := cL Normal1_n0
noncomputable def Normal1_n2 : Code := cR Normal1_n0
noncomputable def Normal1_n3 : Code := cL Normal1_n2
noncomputable def Normal1_n4 : Code := cR Normal1_n2
set_option maxRecDepth 10000 in
theorem Normal1_q {w : World} {M : Hp} {X : Fr} (p : List Int) {pA : Option Addr} {pc : Nat} (n : Nat) {g : Nat} (hp : RdA cdInt (M.un X.h) pA pc p) (hb : BxM (M.un X.h) g 3 [.int .i64 (n : Int)]) (hn : n ≤ 6) (S : SH w M X []) : Cq Try.prog 30 [.slice pA p.length pc, .pointer (some ⟨g, 0, none⟩)] w M X (fun u => u = .bool (decide (p = idL n))) := by
 unfold Cq
 have rmhp : p.length * 8 ≤ 140737488355328 := hp.room
 have hil := idL_len n
 refine calls_in (b := Normal1_n0) Try.func30 rfl Try.ntmps30 rfl (fun C hC => (ws_sub [(0, _), (1, _)] ⟨rfl, rfl, trivial⟩ (ws_seqN Normal1_n1 Normal1_n2 rfl rfl rfl (ws_region rfl (wla 0 1 rfl rfl rfl rfl rfl rfl rfl ?_)))))
 refine wl_end rfl (nmk [0, 1] rfl (nm_thn (ws_seqN Normal1_n3 Normal1_n4 rfl rfl rfl (ws_region rfl ?_))))
 refine wlm 0 1 rfl rfl rfl rfl rfl rfl rfl (wlo 1 2 rfl rfl rfl (wo_run rfl rfl (run_load1 rfl rfl Try.underlying3 rfl (hb.cell S.um rfl)) (wlo 2 3 rfl rfl rfl (wo_co rfl rfl rfl rfl rfl rfl rfl cf24 S (identity_o n (by omega) S.lend) ?_))))
 intro vw1 w1 Nw1 S1 hRw1; clear S
 subst hRw1
 change SH _ _ _ [_] at S1
 obtain ⟨A1, c1, e1, hr1⟩ := S1.lendRd (i := 0) rfl (by show _ * 8 ≤ _; first | omega | (simp only [lens]; omega))
 have hcall1 := EqualP_q p (idL n) (hp.mono S1.un_XH) hr1 S1.lend
 refine wlo 3 4 rfl rfl rfl (wo_cq rfl rfl rfl rfl rfl rfl rfl cf20 S1 (Cq.cast (by simp only [e1]) (hcall1)) ?_)
 rintro _ w2 S2 rfl; clear S1
 refine wla 4 5 rfl rfl rfl rfl rfl rfl rfl (wl_end rfl (nmk [3] rfl (nm_thn (ws_ret hC [_] rfl rfl ⟨rfl, trivial⟩ ?_))))
 exact ⟨_, rfl, (S2.pick [] [] (by decide) trivial), rfl⟩
/-- What DeleteFunc has kept so far. -/
def dfI (f : List Int → Bool) (xss ya : List (List Int)) (i j : Nat) : Prop := i < j ∧ ya.length = xss.length ∧ ya.take i = (xss.take j).filter f ∧ ya.drop j = xss.drop j
theorem dfI.at_ {f : List Int → Bool} {xss ya : List (List Int)} {i j : Nat} (h : dfI f xss ya i j) (hj : j < ya.length) : ga ya j = ga xss j := by
 have := congrArg (fun l => ga l 0) h.2.2.2
 unfold ga at this ⊢
 simpa only [List.getD_eq_getElem?_getD, List.getElem?_drop, Nat.add_zero] using this
theorem dfI.keep {f : List Int → Bool} {xss ya : List (List Int)} {i j : Nat} (h : dfI f xss ya i j) (hj : j < ya.length) (hf : f (ga ya j) = true) : dfI f xss (ya.set i (ga ya j)) (i + 1) (j + 1) := by
 have hg := h.at_ hj
 obtain ⟨h1, h2, h3, h4⟩ := h
 refine ⟨by omega, by rw [List.length_set]; exact h2, ?_, ?_⟩
 ·rw [List.take_succ_eq_append_getElem (by rw [List.length_set]; omega), List.getElem_set_self, List.take_set_of_le (Nat.le_refl _), h3, List.take_succ_eq_append_getElem (by omega), List.filter_append, ← ga_eq (by omega), ← hg, List.filter_cons_of_pos hf, List.filter_nil]
 ·rw [List.drop_set_of_lt (by omega)]
  have := congrArg (List.drop 1) h4
  rwa [List.drop_drop, List.drop_drop] at this
theorem dfI.skip {f : List Int → Bool} {xss ya : List (List Int)} {i j : Nat} (h : dfI f xss ya i j) (hj : j < ya.length) (hf : f (ga ya j) = false) : dfI f xss ya i (j + 1) := by
 have hg := h.at_ hj
 obtain ⟨h1, h2, h3, h4⟩ := h
 refine ⟨by omega, h2, ?_, ?_⟩
 ·rw [h3, List.take_succ_eq_append_getElem (by omega), List.filter_append, ← ga_eq (by omega), ← hg, List.filter_cons_of_neg (by rw [hf]; simp), List.filter_nil, List.append_nil]
 ·have := congrArg (List.drop 1) h4
  rwa [List.drop_drop, List.drop_drop] at this
theorem dfI.done {f : List Int → Bool} {xss ya : List (List Int)} {i j : Nat} (h : dfI f xss ya i j) (hj : ya.length ≤ j) : ya.take i = xss.filter f := by
 rw [h.2.2.1, List.take_of_length_le (by have := h.2.1; omega)]
theorem idxP_all {p : List Int → Bool} {xs : List (List Int)} (h : idxP p xs = -1) : xs.filter (fun x => !p x) = xs := by
 rcases idxP_spec (p := p) (xs := xs) with ⟨_, h⟩ | ⟨k, h1, h2, _⟩
 ·exact h
 ·omega
noncomputable def DeleteFuncP_n0 : Code := Try.f29.body.getD .skip
noncomputable def DeleteFuncP_n1 : Code := cL DeleteFuncP_n0
noncomputable def DeleteFuncP_n2 : Code := cR DeleteFuncP_n0
noncomputable def DeleteFuncP_n3 : Code := cL DeleteFuncP_n2
noncomputable def DeleteFuncP_n4 : Code := cR DeleteFuncP_n2
noncomputable def DeleteFuncP_n5 : Code := cL DeleteFuncP_n4
noncomputable def DeleteFuncP_n6 : Code := cR DeleteFuncP_n4
noncomputable def DeleteFuncP_n7 : Code := cL DeleteFuncP_n5
noncomputable def DeleteFuncP_n8 : Code := cR DeleteFuncP_n5
noncomputable def DeleteFuncP_n9 : Code := cL DeleteFuncP_n8
noncomputable def DeleteFuncP_n10 : Code := cR DeleteFuncP_n8
noncomputable def DeleteFuncP_n11 : Code := cL DeleteFuncP_n9
noncomputable def DeleteFuncP_n12 : Code := cR DeleteFuncP_n9
noncomputable def DeleteFuncP_n13 : Code := cL DeleteFuncP_n6
noncomputable def DeleteFuncP_n14 : Code := cR DeleteFuncP_n6
noncomputable def DeleteFuncP_n15 : Code := cL DeleteFuncP_n13
noncomputable def DeleteFuncP_n16 : Code := cR DeleteFuncP_n13
noncomputable def DeleteFuncP_n17 : Code := cL DeleteFuncP_n16
noncomputable def DeleteFuncP_n18 : Code := cL DeleteFuncP_n17
noncomputable def DeleteFuncP_n19 : Code := cL DeleteFuncP_n18
noncomputable def DeleteFuncP_n20 : Code := cR DeleteFuncP_n18
noncomputable def DeleteFuncP_n21 : Code := cL DeleteFuncP_n19
noncomputable def DeleteFuncP_n22 : Code := cR DeleteFuncP_n19
noncomputable def DeleteFuncP_n23 : Code := cL DeleteFuncP_n22
noncomputable def DeleteFuncP_n24 : Code := cR DeleteFuncP_n22
noncomputable def DeleteFuncP_n25 : Code := cL DeleteFuncP_n20
noncomputable def DeleteFuncP_n26 : Code := cR DeleteFuncP_n20
noncomputable def DeleteFuncP_n27 : Code := cL DeleteFuncP_n25
noncomputable def DeleteFuncP_n28 : Code := cL DeleteFuncP_n27
noncomputable def DeleteFuncP_n29 : Code := cR DeleteFuncP_n27
noncomputable def DeleteFuncP_n30 : Code := cL DeleteFuncP_n29
noncomputable def DeleteFuncP_n31 : Code := cR DeleteFuncP_n29
noncomputable def DeleteFuncP_n32 : Code := cL DeleteFuncP_n31
noncomputable def DeleteFuncP_n33 : Code := cR DeleteFuncP_n31
noncomputable def DeleteFuncP_n34 : Code := cL DeleteFuncP_n32
noncomputable def DeleteFuncP_n35 : Code := cR DeleteFuncP_n32
noncomputable def DeleteFuncP_n36 : Code := cL DeleteFuncP_n14
noncomputable def DeleteFuncP_n37 : Code := cR DeleteFuncP_n14
noncomputable def DeleteFuncP_n38 : Code := cL DeleteFuncP_n37
noncomputable def DeleteFuncP_n39 : Code := cR DeleteFuncP_n37
set_option maxRecDepth 10000 in
theorem DeleteFuncP_w {w : World} {M : Hp} {X : Fr} {vs : Value} {sv : List SlV} {xss : List (List Int)} (fv : FuncId) (cap : List Value) (p : List Int → Bool) (hds : Rd2 cdInt M sv xss) (hrs : sv.length ≤ 1000) (hen : ∀ args w, (callFunc fv args).run Try.prog w = .ok (.enter fv args) w) (hf : ∀ (w : World) (Y : Fr), (M.un X.h).le (M.un Y.h) → SH w M Y [] → ∀ A c xs, xs ∈ xss → RdA cdInt (M.un Y.h) A c xs → Cq Try.prog fv ([.slice A xs.length c] ++ cap) w M Y (fun u => u = .bool (p xs))) (S : SH w M X [Rs.row (cdV 38) vs sv]) : C1 Try.prog 29 [vs, .func (.func fv) #[] cap.toArray] w M X (fun u M' r' => M' = M ∧ ∃ ws, r' = Rs.row (cdV 38) u ws ∧ Rd2 cdInt M ws (xss.filter fun x => !p x)) := by
 unfold C1
 have hsl := hds.1
 refine calls_in (b := DeleteFuncP_n0) Try.func29 rfl Try.ntmps29 rfl (fun C hC => (ws_sub [(0, _), (1, _)] ⟨rfl, rfl, trivial⟩ (ws_seqN DeleteFuncP_n1 DeleteFuncP_n2 rfl rfl rfl (ws_region rfl (wla 0 1 rfl rfl rfl rfl rfl rfl rfl ?_)))))
 refine wl_end rfl (nmk [0, 1] rfl (nm_thn (ws_seqN DeleteFuncP_n3 DeleteFuncP_n4 rfl rfl rfl (ws_region rfl ?_))))
 refine wlm 0 1 rfl rfl rfl rfl rfl rfl rfl (wlm 1 2 rfl rfl rfl rfl rfl rfl rfl ?_)
 obtain ⟨A1, c1, e1, hr1⟩ := S.lendRd (i := 0) rfl (by show _ * 24 ≤ _; first | omega | (simp only [lens]; omega))
 have hd1 := Rd2.at_ (C := cdInt) (ss := sv) (xss := xss) S (hds.mono (Hp.le_un _ _))
 have hcall1 := IndexFuncP_q xss fv cap p hr1 hd1 hen (fun w Y hl S9 => hf w Y (S.un_XH.trans hl) S9) S.lend
 refine wlo 2 3 rfl rfl rfl (wo_cq rfl rfl rfl rfl rfl rfl rfl cf38 S (Cq.cast (by simp only [e1]) (hcall1)) ?_)
 rintro _ w1 S1 rfl; clear S
 refine wla 3 4 rfl rfl rfl rfl rfl rfl rfl (wl_end rfl (nmk [0, 1, 5] rfl (nm_thn (ws_seqN DeleteFuncP_n5 DeleteFuncP_n6 rfl rfl rfl ?_))))
 refine ws_seqN DeleteFuncP_n7 DeleteFuncP_n8 rfl rfl rfl (ws_region rfl (wlm 0 1 rfl rfl rfl rfl rfl rfl rfl (wlo 1 2 rfl rfl rfl (wo_run rfl rfl (run_eql rfl rfl rfl) (wl_end rfl ?_)))))
 refine nmk [0, 1, 5, 12] rfl (nm_thn ?_)
 refine ws_condN DeleteFuncP_n9 DeleteFuncP_n10 rfl rfl rfl rfl (fun hb12 => ?_) (fun hb12 => ?_)
 ·replace hb12 := of_decide_eq_true hb12
  refine ws_seqN DeleteFuncP_n11 DeleteFuncP_n12 rfl rfl rfl (ws_region rfl (wlm 0 1 rfl rfl rfl rfl rfl rfl rfl (wla 1 2 rfl rfl rfl rfl rfl rfl rfl (wl_end rfl ?_))))
  refine nmk [4] rfl (nm_thn (ws_ret hC [_] rfl rfl ⟨rfl, trivial⟩ ?_))
  exact ⟨_, rfl, _, _, Hp.le_refl _, S1.pick [0] [_] (by decide) ⟨rfl, trivial⟩, ⟨rfl, sv, rfl, by rw [idxP_all hb12]; exact hds⟩⟩
 ·replace hb12 := of_decide_eq_false hb12
  obtain ⟨h9, _⟩ | ⟨k9, hk1, hk2, hk9⟩ := idxP_spec (p := p) (xs := xss)
  ·exact absurd h9 hb12
  refine ws_eq 5 (.int .i64 (k9 : Int)) rfl (int_eq (by omega)) ?_
  refine ws_skip rfl (nmk [0, 1, 5] rfl (nm_thn (ws_seqN DeleteFuncP_n13 DeleteFuncP_n14 rfl rfl rfl (ws_seqN DeleteFuncP_n15 DeleteFuncP_n16 rfl rfl rfl ?_))))
  refine ws_region rfl (wlm 0 1 rfl rfl rfl rfl rfl rfl rfl (wlo 1 2 rfl rfl rfl (wo_run rfl rfl (run_add rfl rfl rfl (by first | omega | (simp only [lens]; omega))) ?_)))
  refine wla 2 3 rfl rfl rfl rfl rfl rfl rfl (wl_end rfl (nmk [0, 1, 5, 6] rfl (nm_thn (ws_blockN DeleteFuncP_n17 0 rfl rfl rfl ?_))))
  refine ws_loopE (fun mx_ ax_ wx_ => ∃ (i : Nat) (j : Nat) (acc : List SlV) (ya : List (List Int)) (vro : Value), mx_ = xss.length - j ∧ Env 42 [(0, vro), (1, .func (.func fv) #[] cap.toArray), (5, .int .i64 (i : Int)), (6, .int .i64 (j : Int))] ax_ ∧ SH wx_ M X [Rs.row (cdV 38) vro acc] ∧ j ≤ ya.length ∧ dfI (fun x => !p x) xss ya i j ∧ Rd2 cdInt M acc ya) rfl ?_ ?_
  ·intro ax_ hax_
   refine ⟨_, ⟨k9, k9 + 1, _, xss, _, rfl, hax_.sub ⟨rfl, rfl, rfl, rfl, trivial⟩, S1.pick [0] [_] (by decide) ⟨rfl, trivial⟩, ?hq1f0, ?hq1f1, ?hq1f2⟩⟩
   case hq1f0 => omega
   case hq1f1 => exact ⟨by omega, rfl, hk9.symm, rfl⟩
   case hq1f2 => exact hds
  ·rintro m1 a1 w2 ⟨i, j, acc, ya, vro, rfl, he1, S2, hj, hdf, hda⟩
   clear S1
   refine ws_in he1 (c := DeleteFuncP_n18) rfl ?_
   clear he1 a1
   have hal := hda.1
   have hij := hdf.1
   have hjg := fun h => hdf.at_ h
   have hyx := hdf.2.1
   refine ws_seqN DeleteFuncP_n19 DeleteFuncP_n20 rfl rfl rfl (ws_seqN DeleteFuncP_n21 DeleteFuncP_n22 rfl rfl rfl (ws_region rfl (wlm 0 1 rfl rfl rfl rfl rfl rfl rfl (wlm 1 2 rfl rfl rfl rfl rfl rfl rfl ?_))))
   refine wlo 2 3 rfl rfl rfl (wo_run rfl rfl (run_lenR (C := (cdV 38)) (i := 0) rfl rfl rfl rfl rfl rfl sl35 S2 rfl) (wlo 3 4 rfl rfl rfl (wo_run rfl rfl (run_lss rfl rfl rfl) (wl_end rfl (nmk [0, 1, 5, 6, 19] rfl (nm_thn ?_))))))
   refine ws_condN DeleteFuncP_n23 DeleteFuncP_n24 rfl rfl rfl rfl (fun hb19 => ?_) (fun hb19 => ?_)
   ·replace hb19 := of_decide_eq_true hb19
    refine ws_skip rfl (nmk [0, 1, 5, 6] rfl (nm_thn (ws_seqN DeleteFuncP_n25 DeleteFuncP_n26 rfl rfl rfl (ws_blockN DeleteFuncP_n27 1 rfl rfl rfl ?_))))
    refine ws_seqN DeleteFuncP_n28 DeleteFuncP_n29 rfl rfl rfl (ws_region rfl (wlm 0 1 rfl rfl rfl rfl rfl rfl rfl (wlm 1 2 rfl rfl rfl rfl rfl rfl rfl (wlo 2 3 rfl rfl rfl (wo_run rfl rfl (run_indexR (C := (cdV 38)) (i := 0) j rfl rfl rfl sl35 S2 rfl (by first | rfl | omega) (by first | omega | (simp only [lens]; omega))) ?_)))))
    obtain ⟨hn1, hr2⟩ := hda.2 j (by first | omega | (simp only [lens]; omega))
    refine wlo 3 4 rfl rfl rfl (wo_run rfl rfl (run_load1 rfl rfl Try.underlying38 rfl (S2.rowc (i := 0) (e := j) (j := 0) rfl (by first | omega | (simp only [lens]; omega)) rfl (congrArg (fun n => some (Value.slice _ n _)) hn1))) ?_)
    refine wla 4 5 rfl rfl rfl rfl rfl rfl rfl (wl_end rfl (nmk [0, 1, 5, 6, 7] rfl (nm_thn (ws_seqN DeleteFuncP_n30 DeleteFuncP_n31 rfl rfl rfl ?_))))
    refine ws_region rfl (wlm 0 1 rfl rfl rfl rfl rfl rfl rfl (wlm 1 2 rfl rfl rfl rfl rfl rfl rfl (wlo 2 3 rfl rfl rfl (wo_cqF rfl rfl rfl rfl rfl rfl rfl hen S2 (hf _ _ S2.un_XH S2.lend _ _ _ (by rw [hjg (by omega)]; exact ga_mem (by omega)) (hr2.mono (Hp.le_un _ _))) ?_))))
    rintro _ w3 S3 rfl; clear S2
    refine wlo 3 4 rfl rfl rfl (wo_run rfl rfl (run_not rfl rfl) (wl_end rfl (nmk [0, 1, 5, 6, 7, 29] rfl (nm_thn ?_))))
    refine ws_condN DeleteFuncP_n32 DeleteFuncP_n33 rfl rfl rfl rfl (fun hb29 => ?_) (fun hb29 => ?_)
    ·simp only [Bool.and_eq_true, Bool.or_eq_true, Bool.and_eq_false_iff, Bool.or_eq_false_iff, decide_eq_true_eq, decide_eq_false_iff_not, Bool.not_eq_true', Bool.not_eq_false'] at hb29
     refine ws_seqN DeleteFuncP_n34 DeleteFuncP_n35 rfl rfl rfl (ws_region rfl (wlm 0 1 rfl rfl rfl rfl rfl rfl rfl (wlm 1 2 rfl rfl rfl rfl rfl rfl rfl (wlm 2 3 rfl rfl rfl rfl rfl rfl rfl ?_))))
     refine wlo 3 4 rfl rfl rfl (wo_run rfl rfl (run_indexR (C := (cdV 38)) (i := 0) i rfl rfl rfl sl35 S3 rfl (by first | rfl | omega) (by first | omega | (simp only [lens]; omega))) ?_)
     refine wlo 4 5 rfl rfl rfl (wo_storeR (C := (cdV 38)) (i := 0) (e := i) (j := 0) (us := [_]) (H' := [_]) (⟨(ga acc j).A, (ga ya j).length, (ga acc j).c⟩ : SlV) rfl rfl S3 rfl (by first | omega | (simp only [lens]; omega)) rfl rfl rfl sz38 rfl rfl rfl rfl ?_)
     intro w4 S4; clear S3
     have hd2 := hda.set_ hr2 i (by first | omega | (simp only [lens]; omega))
     refine wl_end rfl (nmk [0, 1, 5, 6] rfl (nm_thn (ws_region rfl (wlm 0 1 rfl rfl rfl rfl rfl rfl rfl ?_))))
     refine wlo 1 2 rfl rfl rfl (wo_run rfl rfl (run_add rfl rfl rfl (by first | omega | (simp only [lens]; omega))) ?_)
     refine wla 2 3 rfl rfl rfl rfl rfl rfl rfl (wl_end rfl (nm_blk (nmk [0, 1, 5, 6] rfl (nm_thn ?_))))
     refine ws_region rfl (wlm 0 1 rfl rfl rfl rfl rfl rfl rfl (wlo 1 2 rfl rfl rfl (wo_run rfl rfl (run_add rfl rfl rfl (by first | omega | (simp only [lens]; omega))) ?_)))
     refine wla 2 3 rfl rfl rfl rfl rfl rfl rfl (wl_end rfl (nm_lp ?_))
     intro ax_ hax_
     refine ⟨_, ?hq2m, ⟨i + 1, j + 1, _, (ya.set i (ga ya j)), _, rfl, hax_.sub ⟨rfl, rfl, rfl, rfl, trivial⟩, S4.pick [0] [_] (by decide) ⟨rfl, trivial⟩, ?hq2f0, ?hq2f1, ?hq2f2⟩⟩
     case hq2f0 => first | omega | (simp only [List.length_set]; omega)
     case hq2f1 => (exact hdf.keep (by omega) (by show (!p _) = true; simpa using hb29))
     case hq2f2 => exact hd2
     case hq2m => omega
    ·simp only [Bool.and_eq_true, Bool.or_eq_true, Bool.and_eq_false_iff, Bool.or_eq_false_iff, decide_eq_true_eq, decide_eq_false_iff_not, Bool.not_eq_true', Bool.not_eq_false'] at hb29
     refine ws_skip rfl (nm_blk (nmk [0, 1, 5, 6] rfl (nm_thn (ws_region rfl ?_))))
     refine wlm 0 1 rfl rfl rfl rfl rfl rfl rfl (wlo 1 2 rfl rfl rfl (wo_run rfl rfl (run_add rfl rfl rfl (by first | omega | (simp only [lens]; omega))) ?_))
     refine wla 2 3 rfl rfl rfl rfl rfl rfl rfl (wl_end rfl (nm_lp ?_))
     intro ax_ hax_
     refine ⟨_, ?hq3m, ⟨i, j + 1, _, ya, _, rfl, hax_.sub ⟨rfl, rfl, rfl, rfl, trivial⟩, S3.pick [0] [_] (by decide) ⟨rfl, trivial⟩, ?hq3f0, ?hq3f1, ?hq3f2⟩⟩
     case hq3f0 => first | omega | (simp only [List.length_set]; omega)
     case hq3f1 => (exact hdf.skip (by omega) (by show (!p _) = false; simpa using hb29))
     case hq3f2 => exact hda
     case hq3m => omega
   ·replace hb19 := of_decide_eq_false hb19
    have hal := hda.1
    have hij := hdf.1
    have hyx := hdf.2.1
    refine ws_exit rfl rfl (nmk [0, 5] rfl (nm_thn (ws_seqN DeleteFuncP_n36 DeleteFuncP_n37 rfl rfl rfl (ws_region rfl ?_))))
    refine wlm 0 1 rfl rfl rfl rfl rfl rfl rfl (wlm 1 2 rfl rfl rfl rfl rfl rfl rfl ?_)
    have hal9 := S2.sl_ (i := 0) rfl
    refine wlo 2 3 rfl rfl rfl (wo_run rfl rfl (run_aliasDG (C := (cdV 38)) (xs := acc) i rfl rfl rfl rfl sl35 hal9 (by first | rfl | omega) ((by first | omega | (simp only [lens]; omega)))) ?_)
    refine wlo 3 4 rfl rfl rfl (wo_clearAl (C := (cdV 38)) (i := 0) rfl rfl rfl rfl rfl rfl rfl rfl sl35 S2 rfl (by first | omega | (simp only [lens]; omega)) (rfl) ?_)
    intro w5 S5; clear S2
    change SH _ _ _ [Rs.row (cdV 38) vro (acc.take i ++ List.replicate (acc.length - i) (cdV 38).z)] at S5
    refine wl_end rfl (nmk [0, 5] rfl (nm_thn (ws_seqN DeleteFuncP_n38 DeleteFuncP_n39 rfl rfl rfl (ws_region rfl ?_))))
    refine wlm 0 1 rfl rfl rfl rfl rfl rfl rfl (wlm 1 2 rfl rfl rfl rfl rfl rfl rfl (wlo 2 3 rfl rfl rfl (wo_takeR (C := (cdV 38)) (i := 0) i rfl rfl rfl rfl rfl sl35 (by first | rfl | omega) (by (simp only [List.length_append, List.length_take, List.length_replicate]; omega)) S5 rfl ?_)))
    intro vro1 S6; clear S5
    change SH _ _ _ [Rs.row (cdV 38) vro1 ((acc.take i ++ List.replicate (acc.length - i) (cdV 38).z).take i)] at S6
    have hd3 := hda.take_ i
    refine wla 3 4 rfl rfl rfl rfl rfl rfl rfl (wl_end rfl (nmk [4] rfl (nm_thn (ws_ret hC [_] rfl rfl ⟨rfl, trivial⟩ ?_))))
    exact ⟨_, rfl, _, _, Hp.le_refl _, S6.pick [0] [_] (by decide) ⟨rfl, trivial⟩, ⟨rfl, _, rfl, by rw [List.take_append_of_le_length (by rw [List.length_take]; omega), List.take_take, Nat.min_self, ← hdf.done (by omega)]; exact hda.take_ i⟩⟩
end Go.Proofs.Ytomcgmialkdcbaa
