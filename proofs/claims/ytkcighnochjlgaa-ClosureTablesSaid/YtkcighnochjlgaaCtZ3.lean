/- Part 3 of the proof of the law ClosureTables: the walks through its functions and the plain laws that they need. -/
import Derived.Test.YtkcighnochjlgaaCtZ2
import Derived.RangeFuncNested
import Derived.RangeFuncBound
import Derived.RangeFuncCalls
import Derived.RangeFuncLeaves
import Derived.LoopNIn
import Derived.Test.YtkcighnochjlgaaProg
set_option linter.unusedSimpArgs false
set_option linter.unusedVariables false
namespace Go.Proofs.Ytkcighnochjlgaa
open Go.ChangeShapes Go.WideShapes Go.ChangeAt Go.RowKit
theorem pr_append (a b : List Tm) : pr (a ++ b) = pr a ++ pr b := List.map_append
theorem mk_take {b : List Tm} {i : Nat} (h : i < b.length) : mk (pr (b.take (i + 1))) = mk (pr (b.take i)) + mono (ga b i).e (ga b i).c := by
 rw [take_ga b i h, pr_append, mk_append]
 show mk (pr (b.take i)) + (mono (ga b i).e (ga b i).c + Pol.o) = _
 rw [Pol.add_zero]
theorem sum_step {acc a b : List Tm} {k : Int} {i : Nat} (hi : i < b.length) (h : mk (pr acc) = mk (pr a) + mk (pr (b.take i)) * mono 0 k) : mk (pr (put acc (ga b i).e (wr (k * (ga b i).c)))) = mk (pr a) + mk (pr (b.take (i + 1))) * mono 0 k := by
 rw [mk_put, h, mk_take hi, Pol.add_mul, mono_mul, Pol.add_assoc]
 refine congrArg _ (congrArg _ (mono_congr (by rw [Int.add_zero]) ?_))
 rw [md_wr, Int.mul_comm]
theorem prod_step {acc b : List Tm} {p : Pol} {e c : Int} {j : Nat} (hj : j < b.length) (h : mk (pr acc) = p + mono e c * mk (pr (b.take j))) : mk (pr (put acc (e + (ga b j).e) (wr (c * (ga b j).c)))) = p + mono e c * mk (pr (b.take (j + 1))) := by
 rw [mk_put, h, mk_take hj, Pol.mul_add, mono_mul, Pol.add_assoc]
 exact congrArg _ (congrArg _ (mono_congr rfl (md_wr _)))
theorem bd_at {b : List Tm} {B : Nat} (h : Bd b B) {i : Nat} (hi : i < b.length) : -(B : Int) ≤ (ga b i).e ∧ (ga b i).e ≤ B := h _ (ga_mem hi)
noncomputable def Put_n0 : Code := Try.f58.body.getD .skip
noncomputable def Put_n1 : Code := cL Put_n0
noncomputable def Put_n2 : Code := cR Put_n0
noncomputable def Put_n3 : Code := cL Put_n2
noncomputable def Put_n4 : Code := cR Put_n2
noncomputable def Put_n5 : Code := cL Put_n3
noncomputable def Put_n6 : Code := cR Put_n3
noncomputable def Put_n7 : Code := cL Put_n6
noncomputable def Put_n8 : Code := cR Put_n6
noncomputable def Put_n9 : Code := cL Put_n7
noncomputable def Put_n10 : Code := cR Put_n7
noncomputable def Put_n11 : Code := cL Put_n4
noncomputable def Put_n12 : Code := cR Put_n4
noncomputable def Put_n13 : Code := cL Put_n12
noncomputable def Put_n14 : Code := cR Put_n12
noncomputable def Put_n15 : Code := cL Put_n13
noncomputable def Put_n16 : Code := cL Put_n15
noncomputable def Put_n17 : Code := cL Put_n16
noncomputable def Put_n18 : Code := cR Put_n16
noncomputable def Put_n19 : Code := cL Put_n17
noncomputable def Put_n20 : Code := cR Put_n17
noncomputable def Put_n21 : Code := cL Put_n20
noncomputable def Put_n22 : Code := cR Put_n20
noncomputable def Put_n23 : Code := cL Put_n18
noncomputable def Put_n24 : Code := cL Put_n14
noncomputable def Put_n25 : Code := cR Put_n14
noncomputable def Put_n26 : Code := cL Put_n25
noncomputable def Put_n27 : Code := cR Put_n25
noncomputable def Put_n28 : Code := cL Put_n27
noncomputable def Put_n29 : Code := cR Put_n27
noncomputable def Put_n30 : Code := cL Put_n28
noncomputable def Put_n31 : Code := cR Put_n28
noncomputable def Put_n32 : Code := cL Put_n31
noncomputable def Put_n33 : Code := cR Put_n31
noncomputable def Put_n34 : Code := cL Put_n32
noncomputable def Put_n35 : Code := cR Put_n32
noncomputable def Put_n36 : Code := cL Put_n34
noncomputable def Put_n37 : Code := cR Put_n34
noncomputable def Put_n38 : Code := cL Put_n37
noncomputable def Put_n39 : Code := cR Put_n37
noncomputable def Put_n40 : Code := cL Put_n29
noncomputable def Put_n41 : Code := cR Put_n29
set_option maxRecDepth 10000 in
theorem Put_t {w : World} {M : Hp} {X : Fr} (l : List Tm) {lA : Option Addr} {lc : Nat} (e : Int) (c : Int) (hl : RdA cdTm M lA lc l) (hro : l.length + 1 ≤ 4398046511104) (S : SH w M X []) : Ct Try.prog 58 [.slice lA l.length lc, .int .i64 e, .int .i64 c] w M X (LsE (put l e c)) := by
 unfold Ct
 have rmhl : l.length * 16 ≤ 140737488355328 := hl.room
 refine calls_in (b := Put_n0) Try.func58 rfl Try.ntmps58 rfl (fun C hC => ?_)
 refine ws_sub [(0, _), (1, _), (2, _)] ⟨rfl, rfl, rfl, trivial⟩ ?_
 refine ws_seqN Put_n1 Put_n2 rfl rfl rfl ?_
 refine ws_region rfl ?_
 refine wla 0 1 rfl rfl rfl rfl rfl rfl rfl ?_
 refine wl_end rfl ?_
 refine nm_sub [(0, _), (1, _), (2, _)] ⟨rfl, rfl, rfl, trivial⟩ ?_
 refine nm_thn ?_
 refine ws_seqN Put_n3 Put_n4 rfl rfl rfl ?_
 refine ws_seqN Put_n5 Put_n6 rfl rfl rfl ?_
 refine ws_region rfl ?_
 refine wlm 0 1 rfl rfl rfl rfl rfl rfl rfl ?_
 refine wlo 1 2 rfl rfl rfl (wo_run rfl rfl (run_eql rfl rfl rfl) ?_)
 refine wl_end rfl ?_
 refine nm_sub [(0, _), (1, _), (2, _), (10, _)] ⟨rfl, rfl, rfl, rfl, trivial⟩ ?_
 refine nm_thn ?_
 refine ws_condN Put_n7 Put_n8 rfl rfl rfl rfl (fun hb10 => ?_) (fun hb10 => ?_)
 ·have hb10 := of_decide_eq_true hb10
  refine ws_seqN Put_n9 Put_n10 rfl rfl rfl ?_
  refine ws_region rfl ?_
  refine wlm 0 1 rfl rfl rfl rfl rfl rfl rfl ?_
  refine wla 1 2 rfl rfl rfl rfl rfl rfl rfl ?_
  refine wl_end rfl ?_
  refine nm_sub [(6, _)] ⟨rfl, trivial⟩ ?_
  refine nm_thn ?_
  refine ws_ret hC [_] rfl rfl ⟨rfl, trivial⟩ ?_
  refine ⟨_, rfl, _, Hp.le_refl _, (S.pick [] [] (by decide) trivial), ?_⟩
  have e9 : put l e c = l := by rw [hb10]; exact put_zero l e
  rw [e9]
  exact ⟨_, _, rfl, hl⟩
 ·have hb10 := of_decide_eq_false hb10
  refine ws_skip rfl ?_
  refine nm_sub [(0, _), (1, _), (2, _)] ⟨rfl, rfl, rfl, trivial⟩ ?_
  refine nm_thn ?_
  refine ws_seqN Put_n11 Put_n12 rfl rfl rfl ?_
  refine ws_region rfl ?_
  refine wla 0 1 rfl rfl rfl rfl rfl rfl rfl ?_
  refine wl_end rfl ?_
  refine nm_thn ?_
  refine ws_seqN Put_n13 Put_n14 rfl rfl rfl ?_
  refine ws_blockN Put_n15 0 rfl rfl rfl ?_
  refine ws_loopE (fun mx_ ax_ wx_ => ∃ (k : Nat), mx_ = l.length - k ∧ Env 78 [(0, .slice lA l.length lc), (1, .int .i64 e), (2, .int .i64 c), (7, .int .i64 (k : Int))] ax_ ∧ SH wx_ M X [] ∧ k ≤ l.length ∧ (∀ j, j < k → (ga l j).e < e)) rfl ?_ ?_
  ·intro ax_ hax_
   refine ⟨_, ⟨0, rfl, hax_.sub ⟨rfl, rfl, rfl, rfl, trivial⟩, S.pick [] [] (by decide) trivial, ?hq1f0, ?hq1f1⟩⟩
   case hq1f0 => omega
   case hq1f1 => (intro j hj; omega)
  ·rintro m1 a1 w1 ⟨k, rfl, he1, S1, hk, hlt⟩
   clear S
   refine ws_in he1 (c := Put_n16) rfl ?_
   clear he1 a1
   refine ws_seqN Put_n17 Put_n18 rfl rfl rfl ?_
   refine ws_seqN Put_n19 Put_n20 rfl rfl rfl ?_
   refine ws_region rfl ?_
   refine wlm 0 1 rfl rfl rfl rfl rfl rfl rfl ?_
   refine wlm 1 2 rfl rfl rfl rfl rfl rfl rfl ?_
   refine wlo 2 3 rfl rfl rfl (wo_run rfl rfl (run_len rfl rfl rfl rfl rfl rfl Try.underlying22) ?_)
   refine wlo 3 4 rfl rfl rfl (wo_run rfl rfl (run_lss rfl rfl rfl) ?_)
   refine wlm 4 5 rfl rfl rfl rfl rfl rfl rfl ?_
   refine wl_split (t := 16) rfl (fun hg16 => ?_) (fun hg16 => ?_)
   ·have hg16 := of_decide_eq_true hg16
    refine wl_opG (k := 5) (k' := 6) rfl rfl ⟨_, _, _, rfl, rfl, rfl, rfl⟩ rfl (wo_run rfl rfl (run_move rfl rfl) ?_)
    refine wl_opG (k := 6) (k' := 7) rfl rfl ⟨_, _, _, rfl, rfl, rfl, rfl⟩ rfl (wo_run rfl rfl (run_move rfl rfl) ?_)
    refine wl_opG (k := 7) (k' := 8) rfl rfl ⟨_, _, _, rfl, rfl, rfl, rfl⟩ rfl (wo_run rfl rfl (run_indexM (C := cdTm) k rfl rfl rfl sl22 (by first | rfl | omega) hl (by first | omega | (simp only [lens]; omega))) ?_)
    refine wl_opG (k := 8) (k' := 9) rfl rfl ⟨_, _, _, rfl, rfl, rfl, rfl⟩ rfl (wo_run rfl rfl (run_fieldAddr rfl rfl Try.underlying86 rfl (ce3) (nf3)) ?_)
    refine wl_opG (k := 9) (k' := 10) rfl rfl ⟨_, _, _, rfl, rfl, rfl, rfl⟩ rfl (wo_run rfl rfl (run_load1 rfl rfl Try.underlying3 rfl (hl.cell S1.m (i := k) (by first | omega | (simp only [lens]; omega)) 0 rfl rfl)) ?_)
    refine wl_opG (k := 10) (k' := 11) rfl rfl ⟨_, _, _, rfl, rfl, rfl, rfl⟩ rfl (wo_run rfl rfl (run_move rfl rfl) ?_)
    refine wl_opG (k := 11) (k' := 12) rfl rfl ⟨_, _, _, rfl, rfl, rfl, rfl⟩ rfl (wo_run rfl rfl (run_lss rfl rfl rfl) ?_)
    refine wlo 12 13 rfl rfl rfl (wo_run rfl rfl (run_pickT rfl rfl rfl) ?_)
    refine wl_end rfl ?_
    refine nm_sub [(0, _), (1, _), (2, _), (7, _), (24, _)] ⟨rfl, rfl, rfl, rfl, rfl, trivial⟩ ?_
    refine nm_thn ?_
    refine ws_condN Put_n21 Put_n22 rfl rfl rfl rfl (fun hb24 => ?_) (fun hb24 => ?_)
    ·have hb24 := of_decide_eq_true hb24
     refine ws_skip rfl ?_
     refine nm_sub [(0, _), (1, _), (2, _), (7, _)] ⟨rfl, rfl, rfl, rfl, trivial⟩ ?_
     refine nm_thn ?_
     refine ws_blockN Put_n23 1 rfl rfl rfl ?_
     refine ws_region rfl ?_
     refine wlm 0 1 rfl rfl rfl rfl rfl rfl rfl ?_
     refine wlo 1 2 rfl rfl rfl (wo_run rfl rfl (run_add rfl rfl rfl (by first | omega | (simp only [lens]; omega))) ?_)
     refine wla 2 3 rfl rfl rfl rfl rfl rfl rfl ?_
     refine wl_end rfl ?_
     refine nm_blk ?_
     refine nm_lp ?_
     intro ax_ hax_
     refine ⟨_, ?hq2m, ⟨k + 1, rfl, hax_.sub ⟨rfl, rfl, rfl, rfl, trivial⟩, S1.pick [] [] (by decide) trivial, ?hq2f0, ?hq2f1⟩⟩
     case hq2f0 => omega
     case hq2f1 => (intro j hj; by_cases h : j = k; (subst h; assumption); exact hlt j (by omega))
     case hq2m => omega
    ·have hb24 := of_decide_eq_false hb24
     refine ws_exit rfl rfl ?_
     refine nm_sub [(0, _), (1, _), (2, _), (7, _)] ⟨rfl, rfl, rfl, rfl, trivial⟩ ?_
     refine nm_thn ?_
     refine ws_seqN Put_n24 Put_n25 rfl rfl rfl ?_
     refine ws_region rfl ?_
     refine wla 0 1 rfl rfl rfl rfl rfl rfl rfl ?_
     refine wl_end rfl ?_
     refine nm_thn ?_
     refine ws_seqN Put_n26 Put_n27 rfl rfl rfl ?_
     refine ws_region rfl ?_
     refine wlm 0 1 rfl rfl rfl rfl rfl rfl rfl ?_
     refine wlm 1 2 rfl rfl rfl rfl rfl rfl rfl ?_
     refine wlm 2 3 rfl rfl rfl rfl rfl rfl rfl ?_
     refine wlo 3 4 rfl rfl rfl (wo_sliceT (C := cdTm) k rfl rfl rfl rfl rfl sl22 (by first | rfl | omega) (by first | omega | (simp only [lens]; omega)) hl ?_)
     intro A1 c1 hr1
     have S2 := S1.nilrow cdTm; clear S1
     refine wlo 4 5 rfl rfl rfl (wo_appendM (C := cdTm) (i := 0) rfl rfl rfl rfl rfl rfl rfl rfl sl22 S2 rfl hr1 S2.m (by show (0 + _) * 16 ≤ _; rw [List.length_take]; omega) ?_)
     intro vr2 w2 S3; clear S2
     change SH _ _ _ [Rs.row cdTm vr2 (l.take k)] at S3
     refine wla 5 6 rfl rfl rfl rfl rfl rfl rfl ?_
     refine wl_end rfl ?_
     refine nm_sub [(0, _), (1, _), (2, _), (7, _), (8, _)] ⟨rfl, rfl, rfl, rfl, rfl, trivial⟩ ?_
     refine nm_thn ?_
     refine ws_seqN Put_n28 Put_n29 rfl rfl rfl ?_
     refine ws_seqN Put_n30 Put_n31 rfl rfl rfl ?_
     refine ws_region rfl ?_
     refine wlm 0 1 rfl rfl rfl rfl rfl rfl rfl ?_
     refine wlm 1 2 rfl rfl rfl rfl rfl rfl rfl ?_
     refine wlo 2 3 rfl rfl rfl (wo_run rfl rfl (run_len rfl rfl rfl rfl rfl rfl Try.underlying22) ?_)
     refine wlo 3 4 rfl rfl rfl (wo_run rfl rfl (run_lss rfl rfl rfl) ?_)
     refine wlm 4 5 rfl rfl rfl rfl rfl rfl rfl ?_
     refine wl_split (t := 36) rfl (fun hg36 => ?_) (fun hg36 => ?_)
     ·have hg36 := of_decide_eq_true hg36
      refine wl_opG (k := 5) (k' := 6) rfl rfl ⟨_, _, _, rfl, rfl, rfl, rfl⟩ rfl (wo_run rfl rfl (run_move rfl rfl) ?_)
      refine wl_opG (k := 6) (k' := 7) rfl rfl ⟨_, _, _, rfl, rfl, rfl, rfl⟩ rfl (wo_run rfl rfl (run_move rfl rfl) ?_)
      refine wl_opG (k := 7) (k' := 8) rfl rfl ⟨_, _, _, rfl, rfl, rfl, rfl⟩ rfl (wo_run rfl rfl (run_indexM (C := cdTm) k rfl rfl rfl sl22 (by first | rfl | omega) hl (by first | omega | (simp only [lens]; omega))) ?_)
      refine wl_opG (k := 8) (k' := 9) rfl rfl ⟨_, _, _, rfl, rfl, rfl, rfl⟩ rfl (wo_run rfl rfl (run_fieldAddr rfl rfl Try.underlying86 rfl (ce3) (nf3)) ?_)
      refine wl_opG (k := 9) (k' := 10) rfl rfl ⟨_, _, _, rfl, rfl, rfl, rfl⟩ rfl (wo_run rfl rfl (run_load1 rfl rfl Try.underlying3 rfl (hl.cell S3.m (i := k) (by first | omega | (simp only [lens]; omega)) 0 rfl rfl)) ?_)
      refine wl_opG (k := 10) (k' := 11) rfl rfl ⟨_, _, _, rfl, rfl, rfl, rfl⟩ rfl (wo_run rfl rfl (run_move rfl rfl) ?_)
      refine wl_opG (k := 11) (k' := 12) rfl rfl ⟨_, _, _, rfl, rfl, rfl, rfl⟩ rfl (wo_run rfl rfl (run_eql rfl rfl rfl) ?_)
      refine wlo 12 13 rfl rfl rfl (wo_run rfl rfl (run_pickT rfl rfl rfl) ?_)
      refine wl_end rfl ?_
      refine nm_sub [(0, _), (1, _), (2, _), (7, _), (8, _), (44, _)] ⟨rfl, rfl, rfl, rfl, rfl, rfl, trivial⟩ ?_
      refine nm_thn ?_
      refine ws_condN Put_n32 Put_n33 rfl rfl rfl rfl (fun hb44 => ?_) (fun hb44 => ?_)
      ·have hb44 := of_decide_eq_true hb44
       refine ws_seqN Put_n34 Put_n35 rfl rfl rfl ?_
       refine ws_seqN Put_n36 Put_n37 rfl rfl rfl ?_
       refine ws_region rfl ?_
       refine wlm 0 1 rfl rfl rfl rfl rfl rfl rfl ?_
       refine wlm 1 2 rfl rfl rfl rfl rfl rfl rfl ?_
       refine wlo 2 3 rfl rfl rfl (wo_run rfl rfl (run_indexM (C := cdTm) k rfl rfl rfl sl22 (by first | rfl | omega) hl (by first | omega | (simp only [lens]; omega))) ?_)
       refine wlo 3 4 rfl rfl rfl (wo_run rfl rfl (run_fieldAddr rfl rfl Try.underlying86 rfl (ce3) (nf3)) ?_)
       refine wlo 4 5 rfl rfl rfl (wo_run rfl rfl (run_load1 rfl rfl Try.underlying3 rfl (hl.cell S3.m (i := k) (by first | omega | (simp only [lens]; omega)) 1 rfl rfl)) ?_)
       refine wlm 5 6 rfl rfl rfl rfl rfl rfl rfl ?_
       refine wlo 6 7 rfl rfl rfl (wo_run rfl rfl (run_addW rfl rfl rfl) ?_)
       refine wlo 7 8 rfl rfl rfl (wo_run rfl rfl (run_neq rfl rfl rfl) ?_)
       refine wl_end rfl ?_
       refine nm_sub [(0, _), (1, _), (2, _), (7, _), (8, _), (52, _)] ⟨rfl, rfl, rfl, rfl, rfl, rfl, trivial⟩ ?_
       refine nm_thn ?_
       refine ws_condN Put_n38 Put_n39 rfl rfl rfl rfl (fun hb52 => ?_) (fun hb52 => ?_)
       ·have hb52 := of_decide_eq_true hb52
        refine ws_region rfl ?_
        refine wlm 0 1 rfl rfl rfl rfl rfl rfl rfl ?_
        refine wlm 1 2 rfl rfl rfl rfl rfl rfl rfl ?_
        refine wlm 2 3 rfl rfl rfl rfl rfl rfl rfl ?_
        refine wlm 3 4 rfl rfl rfl rfl rfl rfl rfl ?_
        refine wlo 4 5 rfl rfl rfl (wo_run rfl rfl (run_indexM (C := cdTm) k rfl rfl rfl sl22 (by first | rfl | omega) hl (by first | omega | (simp only [lens]; omega))) ?_)
        refine wlo 5 6 rfl rfl rfl (wo_run rfl rfl (run_fieldAddr rfl rfl Try.underlying86 rfl (ce3) (nf3)) ?_)
        refine wlo 6 7 rfl rfl rfl (wo_run rfl rfl (run_load1 rfl rfl Try.underlying3 rfl (hl.cell S3.m (i := k) (by first | omega | (simp only [lens]; omega)) 1 rfl rfl)) ?_)
        refine wlm 7 8 rfl rfl rfl rfl rfl rfl rfl ?_
        refine wlo 8 9 rfl rfl rfl (wo_run rfl rfl (run_addW rfl rfl rfl) ?_)
        refine wlo 9 10 rfl rfl rfl (wo_run rfl rfl (run_build (l := [_, _]) rfl rfl st86 rfl rfl) ?_)
        refine wlo 10 11 rfl rfl rfl (wo_buildSlice1 (C := cdTm) (l := [_, _]) rfl rfl rfl rfl sl22 rfl rfl rfl rfl S3 ?_)
        intro gb1 w3 S4; clear S3
        refine wlo 11 12 rfl rfl rfl (wo_append1 (C := cdTm) (i := 1) (q := 0) (⟨e, wr (((ga l k).c) + c)⟩ : Tm) rfl rfl rfl rfl rfl rfl rfl rfl sl22 S4 rfl rfl rfl (by show (_ + 1) * 16 ≤ _; first | omega | (simp only [List.length_append, List.length_take, List.length_cons, List.length_nil, List.length_map]; omega)) ?_)
        intro vr3 w4 S5; clear S4
        have S6 := S5.pick [1] [_] (by decide) ⟨rfl, trivial⟩; clear S5
        refine wla 12 13 rfl rfl rfl rfl rfl rfl rfl ?_
        refine wl_end rfl ?_
        refine nm_sub [(0, _), (7, _), (8, _)] ⟨rfl, rfl, rfl, trivial⟩ ?_
        refine nm_thn ?_
        refine ws_region rfl ?_
        refine wlm 0 1 rfl rfl rfl rfl rfl rfl rfl ?_
        refine wlo 1 2 rfl rfl rfl (wo_run rfl rfl (run_add rfl rfl rfl (by first | omega | (simp only [lens]; omega))) ?_)
        refine wla 2 3 rfl rfl rfl rfl rfl rfl rfl ?_
        refine wl_end rfl ?_
        refine nm_sub [(0, _), (7, _), (8, _)] ⟨rfl, rfl, rfl, trivial⟩ ?_
        refine nm_thn ?_
        refine ws_seqN Put_n40 Put_n41 rfl rfl rfl ?_
        refine ws_region rfl ?_
        refine wlm 0 1 rfl rfl rfl rfl rfl rfl rfl ?_
        refine wlm 1 2 rfl rfl rfl rfl rfl rfl rfl ?_
        refine wlm 2 3 rfl rfl rfl rfl rfl rfl rfl ?_
        refine wlo 3 4 rfl rfl rfl (wo_sliceD (C := cdTm) (k + 1) rfl rfl rfl rfl rfl sl22 (by first | rfl | omega) (by first | omega | (simp only [lens]; omega)) hl ?_)
        intro A2 c2 hr2
        refine wlo 4 5 rfl rfl rfl (wo_appendM (C := cdTm) (i := 0) rfl rfl rfl rfl rfl rfl rfl rfl sl22 S6 rfl hr2 S6.m (by show (_ + _) * 16 ≤ _; simp only [List.length_append, List.length_take, List.length_drop, List.length_cons, List.length_nil]; omega) ?_)
        intro vr4 w5 S7; clear S6
        change SH _ _ _ [Rs.row cdTm vr4 (((l.take k) ++ [(⟨e, wr (((ga l k).c) + c)⟩ : Tm)]) ++ (l.drop (k + 1)))] at S7
        refine wla 5 6 rfl rfl rfl rfl rfl rfl rfl ?_
        refine wl_end rfl ?_
        refine nm_sub [(6, _)] ⟨rfl, trivial⟩ ?_
        refine nm_thn ?_
        obtain ⟨M1, hle2, S8, ⟨A3, c3, e1, hr3⟩⟩ := S7.pubrow (i := 0) (H' := [_]) rfl rfl (by have e1 : (l.take k).length = k := (by rw [List.length_take]; omega); have e2 := @List.length_drop _ k l; have e3 := @List.length_drop _ (k + 1) l; show _ * 16 ≤ _; simp only [List.length_append, List.length_cons, List.length_nil]; first | omega | (simp only [lens]; omega))
        clear S7; subst e1
        replace hl := hl.mono hle2
        replace hr1 := hr1.mono hle2
        replace hr2 := hr2.mono hle2
        refine ws_ret hC [_] rfl rfl ⟨rfl, trivial⟩ ?_
        refine ⟨_, rfl, _, hle2, (S8.pick [] [] (by decide) trivial), ?_⟩
        have hpe := put_eq (l := l) (e := e) (c := c) (k := k) (by omega) hlt hb10 (by omega)
        have e9 : put l e c = ((l.take k) ++ [(⟨e, wr (((ga l k).c) + c)⟩ : Tm)]) ++ (l.drop (k + 1)) := by
         rw [hpe]
         first
         | (exfalso; omega)
         | (rw [if_pos (show k < l.length ∧ (ga l k).e = e by omega)]; first | (rw [if_pos (show wr ((ga l k).c + c) = 0 by omega)]; simp) | (rw [if_neg (show ¬ wr ((ga l k).c + c) = 0 by omega)]; simp))
         | (rw [if_neg (show ¬ (k < l.length ∧ (ga l k).e = e) by omega)]; simp)
        rw [e9]
        exact ⟨_, _, rfl, hr3⟩
       ·have hb52 := of_decide_eq_false hb52
        refine ws_skip rfl ?_
        refine nm_sub [(0, _), (7, _), (8, _)] ⟨rfl, rfl, rfl, trivial⟩ ?_
        refine nm_thn ?_
        refine ws_region rfl ?_
        refine wlm 0 1 rfl rfl rfl rfl rfl rfl rfl ?_
        refine wlo 1 2 rfl rfl rfl (wo_run rfl rfl (run_add rfl rfl rfl (by first | omega | (simp only [lens]; omega))) ?_)
        refine wla 2 3 rfl rfl rfl rfl rfl rfl rfl ?_
        refine wl_end rfl ?_
        refine nm_sub [(0, _), (7, _), (8, _)] ⟨rfl, rfl, rfl, trivial⟩ ?_
        refine nm_thn ?_
        refine ws_seqN Put_n40 Put_n41 rfl rfl rfl ?_
        refine ws_region rfl ?_
        refine wlm 0 1 rfl rfl rfl rfl rfl rfl rfl ?_
        refine wlm 1 2 rfl rfl rfl rfl rfl rfl rfl ?_
        refine wlm 2 3 rfl rfl rfl rfl rfl rfl rfl ?_
        refine wlo 3 4 rfl rfl rfl (wo_sliceD (C := cdTm) (k + 1) rfl rfl rfl rfl rfl sl22 (by first | rfl | omega) (by first | omega | (simp only [lens]; omega)) hl ?_)
        intro A4 c4 hr4
        refine wlo 4 5 rfl rfl rfl (wo_appendM (C := cdTm) (i := 0) rfl rfl rfl rfl rfl rfl rfl rfl sl22 S3 rfl hr4 S3.m (by show (_ + _) * 16 ≤ _; simp only [List.length_append, List.length_take, List.length_drop, List.length_cons, List.length_nil]; omega) ?_)
        intro vr5 w6 S9; clear S3
        change SH _ _ _ [Rs.row cdTm vr5 ((l.take k) ++ (l.drop (k + 1)))] at S9
        refine wla 5 6 rfl rfl rfl rfl rfl rfl rfl ?_
        refine wl_end rfl ?_
        refine nm_sub [(6, _)] ⟨rfl, trivial⟩ ?_
        refine nm_thn ?_
        obtain ⟨M2, hle3, S10, ⟨A5, c5, e2, hr5⟩⟩ := S9.pubrow (i := 0) (H' := [_]) rfl rfl (by have e1 : (l.take k).length = k := (by rw [List.length_take]; omega); have e2 := @List.length_drop _ k l; have e3 := @List.length_drop _ (k + 1) l; show _ * 16 ≤ _; simp only [List.length_append, List.length_cons, List.length_nil]; first | omega | (simp only [lens]; omega))
        clear S9; subst e2
        replace hl := hl.mono hle3
        replace hr1 := hr1.mono hle3
        replace hr4 := hr4.mono hle3
        refine ws_ret hC [_] rfl rfl ⟨rfl, trivial⟩ ?_
        refine ⟨_, rfl, _, hle3, (S10.pick [] [] (by decide) trivial), ?_⟩
        have hpe := put_eq (l := l) (e := e) (c := c) (k := k) (by omega) hlt hb10 (by omega)
        have e9 : put l e c = (l.take k) ++ (l.drop (k + 1)) := by
         rw [hpe]
         first
         | (exfalso; omega)
         | (rw [if_pos (show k < l.length ∧ (ga l k).e = e by omega)]; first | (rw [if_pos (show wr ((ga l k).c + c) = 0 by omega)]; simp) | (rw [if_neg (show ¬ wr ((ga l k).c + c) = 0 by omega)]; simp))
         | (rw [if_neg (show ¬ (k < l.length ∧ (ga l k).e = e) by omega)]; simp)
        rw [e9]
        exact ⟨_, _, rfl, hr5⟩
      ·have hb44 := of_decide_eq_false hb44
       refine ws_region rfl ?_
       refine wlm 0 1 rfl rfl rfl rfl rfl rfl rfl ?_
       refine wlm 1 2 rfl rfl rfl rfl rfl rfl rfl ?_
       refine wlm 2 3 rfl rfl rfl rfl rfl rfl rfl ?_
       refine wlo 3 4 rfl rfl rfl (wo_run rfl rfl (run_build (l := [_, _]) rfl rfl st86 rfl rfl) ?_)
       refine wlo 4 5 rfl rfl rfl (wo_buildSlice1 (C := cdTm) (l := [_, _]) rfl rfl rfl rfl sl22 rfl rfl rfl rfl S3 ?_)
       intro gb2 w7 S11; clear S3
       refine wlo 5 6 rfl rfl rfl (wo_append1 (C := cdTm) (i := 1) (q := 0) (⟨e, c⟩ : Tm) rfl rfl rfl rfl rfl rfl rfl rfl sl22 S11 rfl rfl rfl (by show (_ + 1) * 16 ≤ _; first | omega | (simp only [List.length_append, List.length_take, List.length_cons, List.length_nil, List.length_map]; omega)) ?_)
       intro vr6 w8 S12; clear S11
       have S13 := S12.pick [1] [_] (by decide) ⟨rfl, trivial⟩; clear S12
       refine wla 6 7 rfl rfl rfl rfl rfl rfl rfl ?_
       refine wl_end rfl ?_
       refine nm_sub [(0, _), (7, _), (8, _)] ⟨rfl, rfl, rfl, trivial⟩ ?_
       refine nm_thn ?_
       refine ws_seqN Put_n40 Put_n41 rfl rfl rfl ?_
       refine ws_region rfl ?_
       refine wlm 0 1 rfl rfl rfl rfl rfl rfl rfl ?_
       refine wlm 1 2 rfl rfl rfl rfl rfl rfl rfl ?_
       refine wlm 2 3 rfl rfl rfl rfl rfl rfl rfl ?_
       refine wlo 3 4 rfl rfl rfl (wo_sliceD (C := cdTm) k rfl rfl rfl rfl rfl sl22 (by first | rfl | omega) (by first | omega | (simp only [lens]; omega)) hl ?_)
       intro A6 c6 hr6
       refine wlo 4 5 rfl rfl rfl (wo_appendM (C := cdTm) (i := 0) rfl rfl rfl rfl rfl rfl rfl rfl sl22 S13 rfl hr6 S13.m (by show (_ + _) * 16 ≤ _; simp only [List.length_append, List.length_take, List.length_drop, List.length_cons, List.length_nil]; omega) ?_)
       intro vr7 w9 S14; clear S13
       change SH _ _ _ [Rs.row cdTm vr7 (((l.take k) ++ [(⟨e, c⟩ : Tm)]) ++ (l.drop k))] at S14
       refine wla 5 6 rfl rfl rfl rfl rfl rfl rfl ?_
       refine wl_end rfl ?_
       refine nm_sub [(6, _)] ⟨rfl, trivial⟩ ?_
       refine nm_thn ?_
       obtain ⟨M3, hle4, S15, ⟨A7, c7, e3, hr7⟩⟩ := S14.pubrow (i := 0) (H' := [_]) rfl rfl (by have e1 : (l.take k).length = k := (by rw [List.length_take]; omega); have e2 := @List.length_drop _ k l; have e3 := @List.length_drop _ (k + 1) l; show _ * 16 ≤ _; simp only [List.length_append, List.length_cons, List.length_nil]; first | omega | (simp only [lens]; omega))
       clear S14; subst e3
       replace hl := hl.mono hle4
       replace hr1 := hr1.mono hle4
       replace hr6 := hr6.mono hle4
       refine ws_ret hC [_] rfl rfl ⟨rfl, trivial⟩ ?_
       refine ⟨_, rfl, _, hle4, (S15.pick [] [] (by decide) trivial), ?_⟩
       have hpe := put_eq (l := l) (e := e) (c := c) (k := k) (by omega) hlt hb10 (by omega)
       have e9 : put l e c = ((l.take k) ++ [(⟨e, c⟩ : Tm)]) ++ (l.drop k) := by
        rw [hpe]
        first
        | (exfalso; omega)
        | (rw [if_pos (show k < l.length ∧ (ga l k).e = e by omega)]; first | (rw [if_pos (show wr ((ga l k).c + c) = 0 by omega)]; simp) | (rw [if_neg (show ¬ wr ((ga l k).c + c) = 0 by omega)]; simp))
        | (rw [if_neg (show ¬ (k < l.length ∧ (ga l k).e = e) by omega)]; simp)
       rw [e9]
       exact ⟨_, _, rfl, hr7⟩
     ·have hg36 := of_decide_eq_false hg36
      refine wl_no (k := 5) (k' := 6) (d := 37) rfl rfl ⟨_, _, _, rfl, rfl, rfl, rfl⟩ rfl rfl ?_
      refine wl_no (k := 6) (k' := 7) (d := 38) rfl rfl ⟨_, _, _, rfl, rfl, rfl, rfl⟩ rfl rfl ?_
      refine wl_no (k := 7) (k' := 8) (d := 39) rfl rfl ⟨_, _, _, rfl, rfl, rfl, rfl⟩ rfl rfl ?_
      refine wl_no (k := 8) (k' := 9) (d := 40) rfl rfl ⟨_, _, _, rfl, rfl, rfl, rfl⟩ rfl rfl ?_
      refine wl_no (k := 9) (k' := 10) (d := 41) rfl rfl ⟨_, _, _, rfl, rfl, rfl, rfl⟩ rfl rfl ?_
      refine wl_no (k := 10) (k' := 11) (d := 42) rfl rfl ⟨_, _, _, rfl, rfl, rfl, rfl⟩ rfl rfl ?_
      refine wl_no (k := 11) (k' := 12) (d := 43) rfl rfl ⟨_, _, _, rfl, rfl, rfl, rfl⟩ rfl rfl ?_
      refine wlo 12 13 rfl rfl rfl (wo_run rfl rfl (run_pickF rfl rfl rfl) ?_)
      refine wl_end rfl ?_
      refine nm_sub [(0, _), (1, _), (2, _), (7, _), (8, _), (44, _)] ⟨rfl, rfl, rfl, rfl, rfl, rfl, trivial⟩ ?_
      refine nm_thn ?_
      refine ws_condFN Put_n33 rfl rfl rfl ?_
      refine ws_region rfl ?_
      refine wlm 0 1 rfl rfl rfl rfl rfl rfl rfl ?_
      refine wlm 1 2 rfl rfl rfl rfl rfl rfl rfl ?_
      refine wlm 2 3 rfl rfl rfl rfl rfl rfl rfl ?_
      refine wlo 3 4 rfl rfl rfl (wo_run rfl rfl (run_build (l := [_, _]) rfl rfl st86 rfl rfl) ?_)
      refine wlo 4 5 rfl rfl rfl (wo_buildSlice1 (C := cdTm) (l := [_, _]) rfl rfl rfl rfl sl22 rfl rfl rfl rfl S3 ?_)
      intro gb3 w10 S16; clear S3
      refine wlo 5 6 rfl rfl rfl (wo_append1 (C := cdTm) (i := 1) (q := 0) (⟨e, c⟩ : Tm) rfl rfl rfl rfl rfl rfl rfl rfl sl22 S16 rfl rfl rfl (by show (_ + 1) * 16 ≤ _; first | omega | (simp only [List.length_append, List.length_take, List.length_cons, List.length_nil, List.length_map]; omega)) ?_)
      intro vr8 w11 S17; clear S16
      have S18 := S17.pick [1] [_] (by decide) ⟨rfl, trivial⟩; clear S17
      refine wla 6 7 rfl rfl rfl rfl rfl rfl rfl ?_
      refine wl_end rfl ?_
      refine nm_sub [(0, _), (7, _), (8, _)] ⟨rfl, rfl, rfl, trivial⟩ ?_
      refine nm_thn ?_
      refine ws_seqN Put_n40 Put_n41 rfl rfl rfl ?_
      refine ws_region rfl ?_
      refine wlm 0 1 rfl rfl rfl rfl rfl rfl rfl ?_
      refine wlm 1 2 rfl rfl rfl rfl rfl rfl rfl ?_
      refine wlm 2 3 rfl rfl rfl rfl rfl rfl rfl ?_
      refine wlo 3 4 rfl rfl rfl (wo_sliceD (C := cdTm) k rfl rfl rfl rfl rfl sl22 (by first | rfl | omega) (by first | omega | (simp only [lens]; omega)) hl ?_)
      intro A8 c8 hr8
      refine wlo 4 5 rfl rfl rfl (wo_appendM (C := cdTm) (i := 0) rfl rfl rfl rfl rfl rfl rfl rfl sl22 S18 rfl hr8 S18.m (by show (_ + _) * 16 ≤ _; simp only [List.length_append, List.length_take, List.length_drop, List.length_cons, List.length_nil]; omega) ?_)
      intro vr9 w12 S19; clear S18
      change SH _ _ _ [Rs.row cdTm vr9 (((l.take k) ++ [(⟨e, c⟩ : Tm)]) ++ (l.drop k))] at S19
      refine wla 5 6 rfl rfl rfl rfl rfl rfl rfl ?_
      refine wl_end rfl ?_
      refine nm_sub [(6, _)] ⟨rfl, trivial⟩ ?_
      refine nm_thn ?_
      obtain ⟨M4, hle5, S20, ⟨A9, c9, e4, hr9⟩⟩ := S19.pubrow (i := 0) (H' := [_]) rfl rfl (by have e1 : (l.take k).length = k := (by rw [List.length_take]; omega); have e2 := @List.length_drop _ k l; have e3 := @List.length_drop _ (k + 1) l; show _ * 16 ≤ _; simp only [List.length_append, List.length_cons, List.length_nil]; first | omega | (simp only [lens]; omega))
      clear S19; subst e4
      replace hl := hl.mono hle5
      replace hr1 := hr1.mono hle5
      replace hr8 := hr8.mono hle5
      refine ws_ret hC [_] rfl rfl ⟨rfl, trivial⟩ ?_
      refine ⟨_, rfl, _, hle5, (S20.pick [] [] (by decide) trivial), ?_⟩
      have hpe := put_eq (l := l) (e := e) (c := c) (k := k) (by omega) hlt hb10 (by omega)
      have e9 : put l e c = ((l.take k) ++ [(⟨e, c⟩ : Tm)]) ++ (l.drop k) := by
       rw [hpe]
       first
       | (exfalso; omega)
       | (rw [if_pos (show k < l.length ∧ (ga l k).e = e by omega)]; first | (rw [if_pos (show wr ((ga l k).c + c) = 0 by omega)]; simp) | (rw [if_neg (show ¬ wr ((ga l k).c + c) = 0 by omega)]; simp))
       | (rw [if_neg (show ¬ (k < l.length ∧ (ga l k).e = e) by omega)]; simp)
      rw [e9]
      exact ⟨_, _, rfl, hr9⟩
   ·have hg16 := of_decide_eq_false hg16
    refine wl_no (k := 5) (k' := 6) (d := 17) rfl rfl ⟨_, _, _, rfl, rfl, rfl, rfl⟩ rfl rfl ?_
    refine wl_no (k := 6) (k' := 7) (d := 18) rfl rfl ⟨_, _, _, rfl, rfl, rfl, rfl⟩ rfl rfl ?_
    refine wl_no (k := 7) (k' := 8) (d := 19) rfl rfl ⟨_, _, _, rfl, rfl, rfl, rfl⟩ rfl rfl ?_
    refine wl_no (k := 8) (k' := 9) (d := 20) rfl rfl ⟨_, _, _, rfl, rfl, rfl, rfl⟩ rfl rfl ?_
    refine wl_no (k := 9) (k' := 10) (d := 21) rfl rfl ⟨_, _, _, rfl, rfl, rfl, rfl⟩ rfl rfl ?_
    refine wl_no (k := 10) (k' := 11) (d := 22) rfl rfl ⟨_, _, _, rfl, rfl, rfl, rfl⟩ rfl rfl ?_
    refine wl_no (k := 11) (k' := 12) (d := 23) rfl rfl ⟨_, _, _, rfl, rfl, rfl, rfl⟩ rfl rfl ?_
    refine wlo 12 13 rfl rfl rfl (wo_run rfl rfl (run_pickF rfl rfl rfl) ?_)
    refine wl_end rfl ?_
    refine nm_sub [(0, _), (1, _), (2, _), (7, _), (24, _)] ⟨rfl, rfl, rfl, rfl, rfl, trivial⟩ ?_
    refine nm_thn ?_
    refine ws_condFN Put_n22 rfl rfl rfl ?_
    refine ws_exit rfl rfl ?_
    refine nm_sub [(0, _), (1, _), (2, _), (7, _)] ⟨rfl, rfl, rfl, rfl, trivial⟩ ?_
    refine nm_thn ?_
    refine ws_seqN Put_n24 Put_n25 rfl rfl rfl ?_
    refine ws_region rfl ?_
    refine wla 0 1 rfl rfl rfl rfl rfl rfl rfl ?_
    refine wl_end rfl ?_
    refine nm_thn ?_
    refine ws_seqN Put_n26 Put_n27 rfl rfl rfl ?_
    refine ws_region rfl ?_
    refine wlm 0 1 rfl rfl rfl rfl rfl rfl rfl ?_
    refine wlm 1 2 rfl rfl rfl rfl rfl rfl rfl ?_
    refine wlm 2 3 rfl rfl rfl rfl rfl rfl rfl ?_
    refine wlo 3 4 rfl rfl rfl (wo_sliceT (C := cdTm) k rfl rfl rfl rfl rfl sl22 (by first | rfl | omega) (by first | omega | (simp only [lens]; omega)) hl ?_)
    intro A10 c10 hr10
    have S21 := S1.nilrow cdTm; clear S1
    refine wlo 4 5 rfl rfl rfl (wo_appendM (C := cdTm) (i := 0) rfl rfl rfl rfl rfl rfl rfl rfl sl22 S21 rfl hr10 S21.m (by show (0 + _) * 16 ≤ _; rw [List.length_take]; omega) ?_)
    intro vr11 w13 S22; clear S21
    change SH _ _ _ [Rs.row cdTm vr11 (l.take k)] at S22
    refine wla 5 6 rfl rfl rfl rfl rfl rfl rfl ?_
    refine wl_end rfl ?_
    refine nm_sub [(0, _), (1, _), (2, _), (7, _), (8, _)] ⟨rfl, rfl, rfl, rfl, rfl, trivial⟩ ?_
    refine nm_thn ?_
    refine ws_seqN Put_n28 Put_n29 rfl rfl rfl ?_
    refine ws_seqN Put_n30 Put_n31 rfl rfl rfl ?_
    refine ws_region rfl ?_
    refine wlm 0 1 rfl rfl rfl rfl rfl rfl rfl ?_
    refine wlm 1 2 rfl rfl rfl rfl rfl rfl rfl ?_
    refine wlo 2 3 rfl rfl rfl (wo_run rfl rfl (run_len rfl rfl rfl rfl rfl rfl Try.underlying22) ?_)
    refine wlo 3 4 rfl rfl rfl (wo_run rfl rfl (run_lss rfl rfl rfl) ?_)
    refine wlm 4 5 rfl rfl rfl rfl rfl rfl rfl ?_
    refine wl_split (t := 36) rfl (fun hg36 => ?_) (fun hg36 => ?_)
    ·have hg36 := of_decide_eq_true hg36
     refine wl_opG (k := 5) (k' := 6) rfl rfl ⟨_, _, _, rfl, rfl, rfl, rfl⟩ rfl (wo_run rfl rfl (run_move rfl rfl) ?_)
     refine wl_opG (k := 6) (k' := 7) rfl rfl ⟨_, _, _, rfl, rfl, rfl, rfl⟩ rfl (wo_run rfl rfl (run_move rfl rfl) ?_)
     refine wl_opG (k := 7) (k' := 8) rfl rfl ⟨_, _, _, rfl, rfl, rfl, rfl⟩ rfl (wo_run rfl rfl (run_indexM (C := cdTm) k rfl rfl rfl sl22 (by first | rfl | omega) hl (by first | omega | (simp only [lens]; omega))) ?_)
     refine wl_opG (k := 8) (k' := 9) rfl rfl ⟨_, _, _, rfl, rfl, rfl, rfl⟩ rfl (wo_run rfl rfl (run_fieldAddr rfl rfl Try.underlying86 rfl (ce3) (nf3)) ?_)
     refine wl_opG (k := 9) (k' := 10) rfl rfl ⟨_, _, _, rfl, rfl, rfl, rfl⟩ rfl (wo_run rfl rfl (run_load1 rfl rfl Try.underlying3 rfl (hl.cell S22.m (i := k) (by first | omega | (simp only [lens]; omega)) 0 rfl rfl)) ?_)
     refine wl_opG (k := 10) (k' := 11) rfl rfl ⟨_, _, _, rfl, rfl, rfl, rfl⟩ rfl (wo_run rfl rfl (run_move rfl rfl) ?_)
     refine wl_opG (k := 11) (k' := 12) rfl rfl ⟨_, _, _, rfl, rfl, rfl, rfl⟩ rfl (wo_run rfl rfl (run_eql rfl rfl rfl) ?_)
     refine wlo 12 13 rfl rfl rfl (wo_run rfl rfl (run_pickT rfl rfl rfl) ?_)
     refine wl_end rfl ?_
     refine nm_sub [(0, _), (1, _), (2, _), (7, _), (8, _), (44, _)] ⟨rfl, rfl, rfl, rfl, rfl, rfl, trivial⟩ ?_
     refine nm_thn ?_
     refine ws_condN Put_n32 Put_n33 rfl rfl rfl rfl (fun hb44 => ?_) (fun hb44 => ?_)
     ·have hb44 := of_decide_eq_true hb44
      refine ws_seqN Put_n34 Put_n35 rfl rfl rfl ?_
      refine ws_seqN Put_n36 Put_n37 rfl rfl rfl ?_
      refine ws_region rfl ?_
      refine wlm 0 1 rfl rfl rfl rfl rfl rfl rfl ?_
      refine wlm 1 2 rfl rfl rfl rfl rfl rfl rfl ?_
      refine wlo 2 3 rfl rfl rfl (wo_run rfl rfl (run_indexM (C := cdTm) k rfl rfl rfl sl22 (by first | rfl | omega) hl (by first | omega | (simp only [lens]; omega))) ?_)
      refine wlo 3 4 rfl rfl rfl (wo_run rfl rfl (run_fieldAddr rfl rfl Try.underlying86 rfl (ce3) (nf3)) ?_)
      refine wlo 4 5 rfl rfl rfl (wo_run rfl rfl (run_load1 rfl rfl Try.underlying3 rfl (hl.cell S22.m (i := k) (by first | omega | (simp only [lens]; omega)) 1 rfl rfl)) ?_)
      refine wlm 5 6 rfl rfl rfl rfl rfl rfl rfl ?_
      refine wlo 6 7 rfl rfl rfl (wo_run rfl rfl (run_addW rfl rfl rfl) ?_)
      refine wlo 7 8 rfl rfl rfl (wo_run rfl rfl (run_neq rfl rfl rfl) ?_)
      refine wl_end rfl ?_
      refine nm_sub [(0, _), (1, _), (2, _), (7, _), (8, _), (52, _)] ⟨rfl, rfl, rfl, rfl, rfl, rfl, trivial⟩ ?_
      refine nm_thn ?_
      refine ws_condN Put_n38 Put_n39 rfl rfl rfl rfl (fun hb52 => ?_) (fun hb52 => ?_)
      ·have hb52 := of_decide_eq_true hb52
       refine ws_region rfl ?_
       refine wlm 0 1 rfl rfl rfl rfl rfl rfl rfl ?_
       refine wlm 1 2 rfl rfl rfl rfl rfl rfl rfl ?_
       refine wlm 2 3 rfl rfl rfl rfl rfl rfl rfl ?_
       refine wlm 3 4 rfl rfl rfl rfl rfl rfl rfl ?_
       refine wlo 4 5 rfl rfl rfl (wo_run rfl rfl (run_indexM (C := cdTm) k rfl rfl rfl sl22 (by first | rfl | omega) hl (by first | omega | (simp only [lens]; omega))) ?_)
       refine wlo 5 6 rfl rfl rfl (wo_run rfl rfl (run_fieldAddr rfl rfl Try.underlying86 rfl (ce3) (nf3)) ?_)
       refine wlo 6 7 rfl rfl rfl (wo_run rfl rfl (run_load1 rfl rfl Try.underlying3 rfl (hl.cell S22.m (i := k) (by first | omega | (simp only [lens]; omega)) 1 rfl rfl)) ?_)
       refine wlm 7 8 rfl rfl rfl rfl rfl rfl rfl ?_
       refine wlo 8 9 rfl rfl rfl (wo_run rfl rfl (run_addW rfl rfl rfl) ?_)
       refine wlo 9 10 rfl rfl rfl (wo_run rfl rfl (run_build (l := [_, _]) rfl rfl st86 rfl rfl) ?_)
       refine wlo 10 11 rfl rfl rfl (wo_buildSlice1 (C := cdTm) (l := [_, _]) rfl rfl rfl rfl sl22 rfl rfl rfl rfl S22 ?_)
       intro gb4 w14 S23; clear S22
       refine wlo 11 12 rfl rfl rfl (wo_append1 (C := cdTm) (i := 1) (q := 0) (⟨e, wr (((ga l k).c) + c)⟩ : Tm) rfl rfl rfl rfl rfl rfl rfl rfl sl22 S23 rfl rfl rfl (by show (_ + 1) * 16 ≤ _; first | omega | (simp only [List.length_append, List.length_take, List.length_cons, List.length_nil, List.length_map]; omega)) ?_)
       intro vr12 w15 S24; clear S23
       have S25 := S24.pick [1] [_] (by decide) ⟨rfl, trivial⟩; clear S24
       refine wla 12 13 rfl rfl rfl rfl rfl rfl rfl ?_
       refine wl_end rfl ?_
       refine nm_sub [(0, _), (7, _), (8, _)] ⟨rfl, rfl, rfl, trivial⟩ ?_
       refine nm_thn ?_
       refine ws_region rfl ?_
       refine wlm 0 1 rfl rfl rfl rfl rfl rfl rfl ?_
       refine wlo 1 2 rfl rfl rfl (wo_run rfl rfl (run_add rfl rfl rfl (by first | omega | (simp only [lens]; omega))) ?_)
       refine wla 2 3 rfl rfl rfl rfl rfl rfl rfl ?_
       refine wl_end rfl ?_
       refine nm_sub [(0, _), (7, _), (8, _)] ⟨rfl, rfl, rfl, trivial⟩ ?_
       refine nm_thn ?_
       refine ws_seqN Put_n40 Put_n41 rfl rfl rfl ?_
       refine ws_region rfl ?_
       refine wlm 0 1 rfl rfl rfl rfl rfl rfl rfl ?_
       refine wlm 1 2 rfl rfl rfl rfl rfl rfl rfl ?_
       refine wlm 2 3 rfl rfl rfl rfl rfl rfl rfl ?_
       refine wlo 3 4 rfl rfl rfl (wo_sliceD (C := cdTm) (k + 1) rfl rfl rfl rfl rfl sl22 (by first | rfl | omega) (by first | omega | (simp only [lens]; omega)) hl ?_)
       intro A11 c11 hr11
       refine wlo 4 5 rfl rfl rfl (wo_appendM (C := cdTm) (i := 0) rfl rfl rfl rfl rfl rfl rfl rfl sl22 S25 rfl hr11 S25.m (by show (_ + _) * 16 ≤ _; simp only [List.length_append, List.length_take, List.length_drop, List.length_cons, List.length_nil]; omega) ?_)
       intro vr13 w16 S26; clear S25
       change SH _ _ _ [Rs.row cdTm vr13 (((l.take k) ++ [(⟨e, wr (((ga l k).c) + c)⟩ : Tm)]) ++ (l.drop (k + 1)))] at S26
       refine wla 5 6 rfl rfl rfl rfl rfl rfl rfl ?_
       refine wl_end rfl ?_
       refine nm_sub [(6, _)] ⟨rfl, trivial⟩ ?_
       refine nm_thn ?_
       obtain ⟨M5, hle6, S27, ⟨A12, c12, e5, hr12⟩⟩ := S26.pubrow (i := 0) (H' := [_]) rfl rfl (by have e1 : (l.take k).length = k := (by rw [List.length_take]; omega); have e2 := @List.length_drop _ k l; have e3 := @List.length_drop _ (k + 1) l; show _ * 16 ≤ _; simp only [List.length_append, List.length_cons, List.length_nil]; first | omega | (simp only [lens]; omega))
       clear S26; subst e5
       replace hl := hl.mono hle6
       replace hr10 := hr10.mono hle6
       replace hr11 := hr11.mono hle6
       refine ws_ret hC [_] rfl rfl ⟨rfl, trivial⟩ ?_
       refine ⟨_, rfl, _, hle6, (S27.pick [] [] (by decide) trivial), ?_⟩
       have hpe := put_eq (l := l) (e := e) (c := c) (k := k) (by omega) hlt hb10 (by omega)
       have e9 : put l e c = ((l.take k) ++ [(⟨e, wr (((ga l k).c) + c)⟩ : Tm)]) ++ (l.drop (k + 1)) := by
        rw [hpe]
        first
        | (exfalso; omega)
        | (rw [if_pos (show k < l.length ∧ (ga l k).e = e by omega)]; first | (rw [if_pos (show wr ((ga l k).c + c) = 0 by omega)]; simp) | (rw [if_neg (show ¬ wr ((ga l k).c + c) = 0 by omega)]; simp))
        | (rw [if_neg (show ¬ (k < l.length ∧ (ga l k).e = e) by omega)]; simp)
       rw [e9]
       exact ⟨_, _, rfl, hr12⟩
      ·have hb52 := of_decide_eq_false hb52
       refine ws_skip rfl ?_
       refine nm_sub [(0, _), (7, _), (8, _)] ⟨rfl, rfl, rfl, trivial⟩ ?_
       refine nm_thn ?_
       refine ws_region rfl ?_
       refine wlm 0 1 rfl rfl rfl rfl rfl rfl rfl ?_
       refine wlo 1 2 rfl rfl rfl (wo_run rfl rfl (run_add rfl rfl rfl (by first | omega | (simp only [lens]; omega))) ?_)
       refine wla 2 3 rfl rfl rfl rfl rfl rfl rfl ?_
       refine wl_end rfl ?_
       refine nm_sub [(0, _), (7, _), (8, _)] ⟨rfl, rfl, rfl, trivial⟩ ?_
       refine nm_thn ?_
       refine ws_seqN Put_n40 Put_n41 rfl rfl rfl ?_
       refine ws_region rfl ?_
       refine wlm 0 1 rfl rfl rfl rfl rfl rfl rfl ?_
       refine wlm 1 2 rfl rfl rfl rfl rfl rfl rfl ?_
       refine wlm 2 3 rfl rfl rfl rfl rfl rfl rfl ?_
       refine wlo 3 4 rfl rfl rfl (wo_sliceD (C := cdTm) (k + 1) rfl rfl rfl rfl rfl sl22 (by first | rfl | omega) (by first | omega | (simp only [lens]; omega)) hl ?_)
       intro A13 c13 hr13
       refine wlo 4 5 rfl rfl rfl (wo_appendM (C := cdTm) (i := 0) rfl rfl rfl rfl rfl rfl rfl rfl sl22 S22 rfl hr13 S22.m (by show (_ + _) * 16 ≤ _; simp only [List.length_append, List.length_take, List.length_drop, List.length_cons, List.length_nil]; omega) ?_)
       intro vr14 w17 S28; clear S22
       change SH _ _ _ [Rs.row cdTm vr14 ((l.take k) ++ (l.drop (k + 1)))] at S28
       refine wla 5 6 rfl rfl rfl rfl rfl rfl rfl ?_
       refine wl_end rfl ?_
       refine nm_sub [(6, _)] ⟨rfl, trivial⟩ ?_
       refine nm_thn ?_
       obtain ⟨M6, hle7, S29, ⟨A14, c14, e6, hr14⟩⟩ := S28.pubrow (i := 0) (H' := [_]) rfl rfl (by have e1 : (l.take k).length = k := (by rw [List.length_take]; omega); have e2 := @List.length_drop _ k l; have e3 := @List.length_drop _ (k + 1) l; show _ * 16 ≤ _; simp only [List.length_append, List.length_cons, List.length_nil]; first | omega | (simp only [lens]; omega))
       clear S28; subst e6
       replace hl := hl.mono hle7
       replace hr10 := hr10.mono hle7
       replace hr13 := hr13.mono hle7
       refine ws_ret hC [_] rfl rfl ⟨rfl, trivial⟩ ?_
       refine ⟨_, rfl, _, hle7, (S29.pick [] [] (by decide) trivial), ?_⟩
       have hpe := put_eq (l := l) (e := e) (c := c) (k := k) (by omega) hlt hb10 (by omega)
       have e9 : put l e c = (l.take k) ++ (l.drop (k + 1)) := by
        rw [hpe]
        first
        | (exfalso; omega)
        | (rw [if_pos (show k < l.length ∧ (ga l k).e = e by omega)]; first | (rw [if_pos (show wr ((ga l k).c + c) = 0 by omega)]; simp) | (rw [if_neg (show ¬ wr ((ga l k).c + c) = 0 by omega)]; simp))
        | (rw [if_neg (show ¬ (k < l.length ∧ (ga l k).e = e) by omega)]; simp)
       rw [e9]
       exact ⟨_, _, rfl, hr14⟩
     ·have hb44 := of_decide_eq_false hb44
      refine ws_region rfl ?_
      refine wlm 0 1 rfl rfl rfl rfl rfl rfl rfl ?_
      refine wlm 1 2 rfl rfl rfl rfl rfl rfl rfl ?_
      refine wlm 2 3 rfl rfl rfl rfl rfl rfl rfl ?_
      refine wlo 3 4 rfl rfl rfl (wo_run rfl rfl (run_build (l := [_, _]) rfl rfl st86 rfl rfl) ?_)
      refine wlo 4 5 rfl rfl rfl (wo_buildSlice1 (C := cdTm) (l := [_, _]) rfl rfl rfl rfl sl22 rfl rfl rfl rfl S22 ?_)
      intro gb5 w18 S30; clear S22
      refine wlo 5 6 rfl rfl rfl (wo_append1 (C := cdTm) (i := 1) (q := 0) (⟨e, c⟩ : Tm) rfl rfl rfl rfl rfl rfl rfl rfl sl22 S30 rfl rfl rfl (by show (_ + 1) * 16 ≤ _; first | omega | (simp only [List.length_append, List.length_take, List.length_cons, List.length_nil, List.length_map]; omega)) ?_)
      intro vr15 w19 S31; clear S30
      have S32 := S31.pick [1] [_] (by decide) ⟨rfl, trivial⟩; clear S31
      refine wla 6 7 rfl rfl rfl rfl rfl rfl rfl ?_
      refine wl_end rfl ?_
      refine nm_sub [(0, _), (7, _), (8, _)] ⟨rfl, rfl, rfl, trivial⟩ ?_
      refine nm_thn ?_
      refine ws_seqN Put_n40 Put_n41 rfl rfl rfl ?_
      refine ws_region rfl ?_
      refine wlm 0 1 rfl rfl rfl rfl rfl rfl rfl ?_
      refine wlm 1 2 rfl rfl rfl rfl rfl rfl rfl ?_
      refine wlm 2 3 rfl rfl rfl rfl rfl rfl rfl ?_
      refine wlo 3 4 rfl rfl rfl (wo_sliceD (C := cdTm) k rfl rfl rfl rfl rfl sl22 (by first | rfl | omega) (by first | omega | (simp only [lens]; omega)) hl ?_)
      intro A15 c15 hr15
      refine wlo 4 5 rfl rfl rfl (wo_appendM (C := cdTm) (i := 0) rfl rfl rfl rfl rfl rfl rfl rfl sl22 S32 rfl hr15 S32.m (by show (_ + _) * 16 ≤ _; simp only [List.length_append, List.length_take, List.length_drop, List.length_cons, List.length_nil]; omega) ?_)
      intro vr16 w20 S33; clear S32
      change SH _ _ _ [Rs.row cdTm vr16 (((l.take k) ++ [(⟨e, c⟩ : Tm)]) ++ (l.drop k))] at S33
      refine wla 5 6 rfl rfl rfl rfl rfl rfl rfl ?_
      refine wl_end rfl ?_
      refine nm_sub [(6, _)] ⟨rfl, trivial⟩ ?_
      refine nm_thn ?_
      obtain ⟨M7, hle8, S34, ⟨A16, c16, e7, hr16⟩⟩ := S33.pubrow (i := 0) (H' := [_]) rfl rfl (by have e1 : (l.take k).length = k := (by rw [List.length_take]; omega); have e2 := @List.length_drop _ k l; have e3 := @List.length_drop _ (k + 1) l; show _ * 16 ≤ _; simp only [List.length_append, List.length_cons, List.length_nil]; first | omega | (simp only [lens]; omega))
      clear S33; subst e7
      replace hl := hl.mono hle8
      replace hr10 := hr10.mono hle8
      replace hr15 := hr15.mono hle8
      refine ws_ret hC [_] rfl rfl ⟨rfl, trivial⟩ ?_
      refine ⟨_, rfl, _, hle8, (S34.pick [] [] (by decide) trivial), ?_⟩
      have hpe := put_eq (l := l) (e := e) (c := c) (k := k) (by omega) hlt hb10 (by omega)
      have e9 : put l e c = ((l.take k) ++ [(⟨e, c⟩ : Tm)]) ++ (l.drop k) := by
       rw [hpe]
       first
       | (exfalso; omega)
       | (rw [if_pos (show k < l.length ∧ (ga l k).e = e by omega)]; first | (rw [if_pos (show wr ((ga l k).c + c) = 0 by omega)]; simp) | (rw [if_neg (show ¬ wr ((ga l k).c + c) = 0 by omega)]; simp))
       | (rw [if_neg (show ¬ (k < l.length ∧ (ga l k).e = e) by omega)]; simp)
      rw [e9]
      exact ⟨_, _, rfl, hr16⟩
    ·have hg36 := of_decide_eq_false hg36
     refine wl_no (k := 5) (k' := 6) (d := 37) rfl rfl ⟨_, _, _, rfl, rfl, rfl, rfl⟩ rfl rfl ?_
     refine wl_no (k := 6) (k' := 7) (d := 38) rfl rfl ⟨_, _, _, rfl, rfl, rfl, rfl⟩ rfl rfl ?_
     refine wl_no (k := 7) (k' := 8) (d := 39) rfl rfl ⟨_, _, _, rfl, rfl, rfl, rfl⟩ rfl rfl ?_
     refine wl_no (k := 8) (k' := 9) (d := 40) rfl rfl ⟨_, _, _, rfl, rfl, rfl, rfl⟩ rfl rfl ?_
     refine wl_no (k := 9) (k' := 10) (d := 41) rfl rfl ⟨_, _, _, rfl, rfl, rfl, rfl⟩ rfl rfl ?_
     refine wl_no (k := 10) (k' := 11) (d := 42) rfl rfl ⟨_, _, _, rfl, rfl, rfl, rfl⟩ rfl rfl ?_
     refine wl_no (k := 11) (k' := 12) (d := 43) rfl rfl ⟨_, _, _, rfl, rfl, rfl, rfl⟩ rfl rfl ?_
     refine wlo 12 13 rfl rfl rfl (wo_run rfl rfl (run_pickF rfl rfl rfl) ?_)
     refine wl_end rfl ?_
     refine nm_sub [(0, _), (1, _), (2, _), (7, _), (8, _), (44, _)] ⟨rfl, rfl, rfl, rfl, rfl, rfl, trivial⟩ ?_
     refine nm_thn ?_
     refine ws_condFN Put_n33 rfl rfl rfl ?_
     refine ws_region rfl ?_
     refine wlm 0 1 rfl rfl rfl rfl rfl rfl rfl ?_
     refine wlm 1 2 rfl rfl rfl rfl rfl rfl rfl ?_
     refine wlm 2 3 rfl rfl rfl rfl rfl rfl rfl ?_
     refine wlo 3 4 rfl rfl rfl (wo_run rfl rfl (run_build (l := [_, _]) rfl rfl st86 rfl rfl) ?_)
     refine wlo 4 5 rfl rfl rfl (wo_buildSlice1 (C := cdTm) (l := [_, _]) rfl rfl rfl rfl sl22 rfl rfl rfl rfl S22 ?_)
     intro gb6 w21 S35; clear S22
     refine wlo 5 6 rfl rfl rfl (wo_append1 (C := cdTm) (i := 1) (q := 0) (⟨e, c⟩ : Tm) rfl rfl rfl rfl rfl rfl rfl rfl sl22 S35 rfl rfl rfl (by show (_ + 1) * 16 ≤ _; first | omega | (simp only [List.length_append, List.length_take, List.length_cons, List.length_nil, List.length_map]; omega)) ?_)
     intro vr17 w22 S36; clear S35
     have S37 := S36.pick [1] [_] (by decide) ⟨rfl, trivial⟩; clear S36
     refine wla 6 7 rfl rfl rfl rfl rfl rfl rfl ?_
     refine wl_end rfl ?_
     refine nm_sub [(0, _), (7, _), (8, _)] ⟨rfl, rfl, rfl, trivial⟩ ?_
     refine nm_thn ?_
     refine ws_seqN Put_n40 Put_n41 rfl rfl rfl ?_
     refine ws_region rfl ?_
     refine wlm 0 1 rfl rfl rfl rfl rfl rfl rfl ?_
     refine wlm 1 2 rfl rfl rfl rfl rfl rfl rfl ?_
     refine wlm 2 3 rfl rfl rfl rfl rfl rfl rfl ?_
     refine wlo 3 4 rfl rfl rfl (wo_sliceD (C := cdTm) k rfl rfl rfl rfl rfl sl22 (by first | rfl | omega) (by first | omega | (simp only [lens]; omega)) hl ?_)
     intro A17 c17 hr17
     refine wlo 4 5 rfl rfl rfl (wo_appendM (C := cdTm) (i := 0) rfl rfl rfl rfl rfl rfl rfl rfl sl22 S37 rfl hr17 S37.m (by show (_ + _) * 16 ≤ _; simp only [List.length_append, List.length_take, List.length_drop, List.length_cons, List.length_nil]; omega) ?_)
     intro vr18 w23 S38; clear S37
     change SH _ _ _ [Rs.row cdTm vr18 (((l.take k) ++ [(⟨e, c⟩ : Tm)]) ++ (l.drop k))] at S38
     refine wla 5 6 rfl rfl rfl rfl rfl rfl rfl ?_
     refine wl_end rfl ?_
     refine nm_sub [(6, _)] ⟨rfl, trivial⟩ ?_
     refine nm_thn ?_
     obtain ⟨M8, hle9, S39, ⟨A18, c18, e8, hr18⟩⟩ := S38.pubrow (i := 0) (H' := [_]) rfl rfl (by have e1 : (l.take k).length = k := (by rw [List.length_take]; omega); have e2 := @List.length_drop _ k l; have e3 := @List.length_drop _ (k + 1) l; show _ * 16 ≤ _; simp only [List.length_append, List.length_cons, List.length_nil]; first | omega | (simp only [lens]; omega))
     clear S38; subst e8
     replace hl := hl.mono hle9
     replace hr10 := hr10.mono hle9
     replace hr17 := hr17.mono hle9
     refine ws_ret hC [_] rfl rfl ⟨rfl, trivial⟩ ?_
     refine ⟨_, rfl, _, hle9, (S39.pick [] [] (by decide) trivial), ?_⟩
     have hpe := put_eq (l := l) (e := e) (c := c) (k := k) (by omega) hlt hb10 (by omega)
     have e9 : put l e c = ((l.take k) ++ [(⟨e, c⟩ : Tm)]) ++ (l.drop k) := by
      rw [hpe]
      first
      | (exfalso; omega)
      | (rw [if_pos (show k < l.length ∧ (ga l k).e = e by omega)]; first | (rw [if_pos (show wr ((ga l k).c + c) = 0 by omega)]; simp) | (rw [if_neg (show ¬ wr ((ga l k).c + c) = 0 by omega)]; simp))
      | (rw [if_neg (show ¬ (k < l.length ∧ (ga l k).e = e) by omega)]; simp)
     rw [e9]
     exact ⟨_, _, rfl, hr18⟩
noncomputable def Sum_n0 : Code := Try.f17.body.getD .skip
noncomputable def Sum_n1 : Code := cL Sum_n0
noncomputable def Sum_n2 : Code := cR Sum_n0
noncomputable def Sum_n3 : Code := cL Sum_n2
noncomputable def Sum_n4 : Code := cR Sum_n2
noncomputable def Sum_n5 : Code := cL Sum_n4
noncomputable def Sum_n6 : Code := cR Sum_n4
noncomputable def Sum_n7 : Code := cL Sum_n5
noncomputable def Sum_n8 : Code := cR Sum_n5
noncomputable def Sum_n9 : Code := cL Sum_n8
noncomputable def Sum_n10 : Code := cL Sum_n9
noncomputable def Sum_n11 : Code := cL Sum_n10
noncomputable def Sum_n12 : Code := cR Sum_n10
noncomputable def Sum_n13 : Code := cL Sum_n11
noncomputable def Sum_n14 : Code := cR Sum_n11
noncomputable def Sum_n15 : Code := cL Sum_n14
noncomputable def Sum_n16 : Code := cR Sum_n14
noncomputable def Sum_n17 : Code := cL Sum_n12
noncomputable def Sum_n18 : Code := cR Sum_n12
noncomputable def Sum_n19 : Code := cL Sum_n17
noncomputable def Sum_n20 : Code := cL Sum_n6
noncomputable def Sum_n21 : Code := cR Sum_n6
set_option maxRecDepth 10000 in
theorem Sum_t {w : World} {M : Hp} {X : Fr} (a : List Tm) {aA : Option Addr} {ac : Nat} (b : List Tm) {bA : Option Addr} {bc : Nat} (k : Int) (ha : RdA cdTm M aA ac a) (hb : RdA cdTm M bA bc b) (B : Nat) (hca : Can a) (hba : Bd a B) (hbb : Bd b B) (hB : B ≤ 1099511627776) (S : SH w M X []) : Ct Try.prog 17 [.slice aA a.length ac, .slice bA b.length bc, .int .i64 k] w M X (PT B (mk (pr a) + mk (pr b) * mono 0 k)) := by
 unfold Ct
 have rmha : a.length * 16 ≤ 140737488355328 := ha.room
 have rmhb : b.length * 16 ≤ 140737488355328 := hb.room
 refine calls_in (b := Sum_n0) Try.func17 rfl Try.ntmps17 rfl (fun C hC => ?_)
 refine ws_sub [(0, _), (1, _), (2, _)] ⟨rfl, rfl, rfl, trivial⟩ ?_
 refine ws_seqN Sum_n1 Sum_n2 rfl rfl rfl ?_
 refine ws_region rfl ?_
 refine wla 0 1 rfl rfl rfl rfl rfl rfl rfl ?_
 refine wl_end rfl ?_
 refine nm_sub [(0, _), (1, _), (2, _)] ⟨rfl, rfl, rfl, trivial⟩ ?_
 refine nm_thn ?_
 refine ws_seqN Sum_n3 Sum_n4 rfl rfl rfl ?_
 refine ws_region rfl ?_
 refine wlm 0 1 rfl rfl rfl rfl rfl rfl rfl ?_
 refine wla 1 2 rfl rfl rfl rfl rfl rfl rfl ?_
 refine wl_end rfl ?_
 refine nm_sub [(1, _), (2, _), (7, _)] ⟨rfl, rfl, rfl, trivial⟩ ?_
 refine nm_thn ?_
 refine ws_seqN Sum_n5 Sum_n6 rfl rfl rfl ?_
 refine ws_seqN Sum_n7 Sum_n8 rfl rfl rfl ?_
 refine ws_region rfl ?_
 refine wla 0 1 rfl rfl rfl rfl rfl rfl rfl ?_
 refine wl_end rfl ?_
 refine nm_thn ?_
 refine ws_blockN Sum_n9 0 rfl rfl rfl ?_
 refine ws_loopE (fun mx_ ax_ wx_ => ∃ (i : Nat) (acc : List Tm) (Ao : Option Addr) (co : Nat) (M1 : Hp), M.le M1 ∧ mx_ = b.length - i ∧ Env 31 [(1, .slice bA b.length bc), (2, .int .i64 k), (7, .slice Ao acc.length co), (8, .int .i64 (i : Int))] ax_ ∧ SH wx_ M1 X [] ∧ RdA cdTm M1 Ao co acc ∧ i ≤ b.length ∧ Can acc ∧ Bd acc B ∧ mk (pr acc) = mk (pr a) + mk (pr (b.take i)) * mono 0 k) rfl ?_ ?_
 ·intro ax_ hax_
  refine ⟨_, ⟨0, a, aA, ac, _, Hp.le_refl _, rfl, hax_.sub ⟨rfl, rfl, rfl, rfl, trivial⟩, S.pick [] [] (by decide) trivial, ?hq1f0, ?hq1f1, ?hq1f2, ?hq1f3, ?hq1f4⟩⟩
  case hq1f0 => exact ha
  case hq1f1 => omega
  case hq1f2 => exact hca
  case hq1f3 => exact hba
  case hq1f4 => (show _ = mk (pr a) + Pol.o * _; rw [Pol.zero_mul, Pol.add_zero])
 ·rintro m1 a1 w1 ⟨i, acc, Ao, co, M1, hle1, rfl, he1, S1, hacc, hi, hcc, hbc, hmc⟩
  clear S
  refine ws_in he1 (c := Sum_n10) rfl ?_
  clear he1 a1
  replace ha := ha.mono hle1
  replace hb := hb.mono hle1
  refine ws_seqN Sum_n11 Sum_n12 rfl rfl rfl ?_
  refine ws_seqN Sum_n13 Sum_n14 rfl rfl rfl ?_
  refine ws_region rfl ?_
  refine wlm 0 1 rfl rfl rfl rfl rfl rfl rfl ?_
  refine wlm 1 2 rfl rfl rfl rfl rfl rfl rfl ?_
  refine wlo 2 3 rfl rfl rfl (wo_run rfl rfl (run_len rfl rfl rfl rfl rfl rfl Try.underlying22) ?_)
  refine wlo 3 4 rfl rfl rfl (wo_run rfl rfl (run_lss rfl rfl rfl) ?_)
  refine wl_end rfl ?_
  refine nm_sub [(1, _), (2, _), (7, _), (8, _), (13, _)] ⟨rfl, rfl, rfl, rfl, rfl, trivial⟩ ?_
  refine nm_thn ?_
  refine ws_condN Sum_n15 Sum_n16 rfl rfl rfl rfl (fun hb13 => ?_) (fun hb13 => ?_)
  ·have hb13 := of_decide_eq_true hb13
   refine ws_skip rfl ?_
   refine nm_sub [(1, _), (2, _), (7, _), (8, _)] ⟨rfl, rfl, rfl, rfl, trivial⟩ ?_
   refine nm_thn ?_
   refine ws_seqN Sum_n17 Sum_n18 rfl rfl rfl ?_
   refine ws_blockN Sum_n19 1 rfl rfl rfl ?_
   refine ws_draw rfl (by kernel_rfl) S1 15 rfl ?_
   clear S1
   refine wa_takeP (i := 0) (d := 16) 14 rfl (by kernel_rfl) (by kernel_rfl) (by kernel_rfl) rfl rfl rfl (fun w2 => run_move rfl rfl) ?_
   refine wa_takeP (i := 1) (d := 17) 13 rfl (by kernel_rfl) (by kernel_rfl) (by kernel_rfl) rfl rfl rfl (fun w3 => run_move rfl rfl) ?_
   refine wa_takeP (i := 2) (d := 18) 12 rfl (by kernel_rfl) (by kernel_rfl) (by kernel_rfl) rfl rfl rfl (fun w4 => run_move rfl rfl) ?_
   refine wa_take (i := 3) (d := 19) 11 rfl (by kernel_rfl) (by kernel_rfl) (by kernel_rfl) rfl rfl rfl (fun M5 N4 w5 hle5 S5 => .inl (run_indexM (C := cdTm) i rfl rfl rfl sl22 (by first | rfl | omega) (hb.mono hle5) (by first | omega | (simp only [lens]; omega)))) ?_
   refine wa_takeP (i := 4) (d := 20) 10 rfl (by kernel_rfl) (by kernel_rfl) (by kernel_rfl) rfl rfl rfl (fun w6 => run_fieldAddr rfl rfl Try.underlying86 rfl (ce3) (nf3)) ?_
   refine wa_take (i := 5) (d := 21) 9 rfl (by kernel_rfl) (by kernel_rfl) (by kernel_rfl) rfl rfl rfl (fun M7 N6 w7 hle7 S7 => .inl (run_load1 rfl rfl Try.underlying3 rfl ((hb.mono hle7).cell S7.m (i := i) (by first | omega | (simp only [lens]; omega)) 0 rfl rfl))) ?_
   refine wa_takeP (i := 6) (d := 22) 8 rfl (by kernel_rfl) (by kernel_rfl) (by kernel_rfl) rfl rfl rfl (fun w8 => run_move rfl rfl) ?_
   refine wa_takeP (i := 7) (d := 23) 7 rfl (by kernel_rfl) (by kernel_rfl) (by kernel_rfl) rfl rfl rfl (fun w9 => run_move rfl rfl) ?_
   refine wa_takeP (i := 8) (d := 24) 6 rfl (by kernel_rfl) (by kernel_rfl) (by kernel_rfl) rfl rfl rfl (fun w10 => run_move rfl rfl) ?_
   refine wa_take (i := 9) (d := 25) 5 rfl (by kernel_rfl) (by kernel_rfl) (by kernel_rfl) rfl rfl rfl (fun M11 N10 w11 hle11 S11 => .inl (run_indexM (C := cdTm) i rfl rfl rfl sl22 (by first | rfl | omega) (hb.mono hle11) (by first | omega | (simp only [lens]; omega)))) ?_
   refine wa_takeP (i := 10) (d := 26) 4 rfl (by kernel_rfl) (by kernel_rfl) (by kernel_rfl) rfl rfl rfl (fun w12 => run_fieldAddr rfl rfl Try.underlying86 rfl (ce3) (nf3)) ?_
   refine wa_take (i := 11) (d := 27) 3 rfl (by kernel_rfl) (by kernel_rfl) (by kernel_rfl) rfl rfl rfl (fun M13 N12 w13 hle13 S13 => .inl (run_load1 rfl rfl Try.underlying3 rfl ((hb.mono hle13).cell S13.m (i := i) (by first | omega | (simp only [lens]; omega)) 1 rfl rfl))) ?_
   refine wa_takeP (i := 12) (d := 28) 2 rfl (by kernel_rfl) (by kernel_rfl) (by kernel_rfl) rfl rfl rfl (fun w14 => run_mulW rfl rfl rfl) ?_
   refine wa_only (i := 13) 1 rfl (by kernel_rfl) rfl rfl (fun w16 S16 => ?_)
   refine (wo_ct rfl rfl rfl rfl rfl rfl rfl cf58 S16 (Put_t acc ((ga b i).e) (wr (k * ((ga b i).c))) hacc ((by have := can_len hcc hbc; omega)) S16.lend) ?_)
   intro vw17 w17 M16 hle16 S17 hRw17; clear S16
   replace ha := ha.mono hle16
   replace hb := hb.mono hle16
   replace hacc := hacc.mono hle16
   obtain ⟨A1, c1, rfl, hr1⟩ := hRw17
   refine LeftW.grow [] (hle16) S17 ?_; clear S17
   change WA _ _ _ _ _ _ _ _ _ _ _ _ []
   refine wa_base ?_
   refine wa_takeP (i := 14) (d := 7) 0 rfl (by kernel_rfl) (by kernel_rfl) (by kernel_rfl) rfl rfl rfl (fun w18 => run_assign rfl rfl) ?_
   refine wa_end (by kernel_rfl) (fun w19 S19 => ?_)
   refine nm_blk ?_
   refine nm_sub [(1, _), (2, _), (7, _), (8, _)] ⟨rfl, rfl, rfl, rfl, trivial⟩ ?_
   refine nm_thn ?_
   refine ws_region rfl ?_
   refine wlm 0 1 rfl rfl rfl rfl rfl rfl rfl ?_
   refine wlo 1 2 rfl rfl rfl (wo_run rfl rfl (run_add rfl rfl rfl (by first | omega | (simp only [lens]; omega))) ?_)
   refine wla 2 3 rfl rfl rfl rfl rfl rfl rfl ?_
   refine wl_end rfl ?_
   refine nm_lp ?_
   have hbi := bd_at hbb (i := i) (by omega)
   intro ax_ hax_
   refine ⟨_, ?hq2m, ⟨i + 1, (put acc ((ga b i).e) (wr (k * ((ga b i).c)))), A1, c1, _, (hle1.trans hle16), rfl, hax_.sub ⟨rfl, rfl, rfl, rfl, trivial⟩, S19.pick [] [] (by decide) trivial, ?hq2f0, ?hq2f1, ?hq2f2, ?hq2f3, ?hq2f4⟩⟩
   case hq2f0 => exact hr1
   case hq2f1 => omega
   case hq2f2 => exact put_can hcc (wr_id (by omega)) (wr_idem _)
   case hq2f3 => exact put_bd hbc hbi
   case hq2f4 => exact sum_step (by omega) hmc
   case hq2m => omega
  ·have hb13 := of_decide_eq_false hb13
   refine ws_exit rfl rfl ?_
   refine nm_sub [(7, _)] ⟨rfl, trivial⟩ ?_
   refine nm_thn ?_
   refine ws_seqN Sum_n20 Sum_n21 rfl rfl rfl ?_
   refine ws_region rfl ?_
   refine wlm 0 1 rfl rfl rfl rfl rfl rfl rfl ?_
   refine wla 1 2 rfl rfl rfl rfl rfl rfl rfl ?_
   refine wl_end rfl ?_
   refine nm_sub [(6, _)] ⟨rfl, trivial⟩ ?_
   refine nm_thn ?_
   refine ws_ret hC [_] rfl rfl ⟨rfl, trivial⟩ ?_
   refine ⟨_, rfl, _, hle1, (S1.pick [] [] (by decide) trivial), ?_⟩
   obtain rfl : i = b.length := by omega
   rw [List.take_length] at hmc
   exact ⟨_, _, _, rfl, hacc, hcc, hbc, hmc⟩
noncomputable def Product_n0 : Code := Try.f18.body.getD .skip
noncomputable def Product_n1 : Code := cL Product_n0
noncomputable def Product_n2 : Code := cR Product_n0
noncomputable def Product_n3 : Code := cL Product_n2
noncomputable def Product_n4 : Code := cR Product_n2
noncomputable def Product_n5 : Code := cL Product_n4
noncomputable def Product_n6 : Code := cR Product_n4
noncomputable def Product_n7 : Code := cL Product_n5
noncomputable def Product_n8 : Code := cR Product_n5
noncomputable def Product_n9 : Code := cL Product_n8
noncomputable def Product_n10 : Code := cL Product_n9
noncomputable def Product_n11 : Code := cL Product_n10
noncomputable def Product_n12 : Code := cR Product_n10
noncomputable def Product_n13 : Code := cL Product_n11
noncomputable def Product_n14 : Code := cR Product_n11
noncomputable def Product_n15 : Code := cL Product_n14
noncomputable def Product_n16 : Code := cR Product_n14
noncomputable def Product_n17 : Code := cL Product_n12
noncomputable def Product_n18 : Code := cR Product_n12
noncomputable def Product_n19 : Code := cL Product_n17
noncomputable def Product_n20 : Code := cL Product_n19
noncomputable def Product_n21 : Code := cR Product_n19
noncomputable def Product_n22 : Code := cL Product_n21
noncomputable def Product_n23 : Code := cL Product_n22
noncomputable def Product_n24 : Code := cL Product_n23
noncomputable def Product_n25 : Code := cR Product_n23
noncomputable def Product_n26 : Code := cL Product_n24
noncomputable def Product_n27 : Code := cR Product_n24
noncomputable def Product_n28 : Code := cL Product_n27
noncomputable def Product_n29 : Code := cR Product_n27
noncomputable def Product_n30 : Code := cL Product_n25
noncomputable def Product_n31 : Code := cR Product_n25
noncomputable def Product_n32 : Code := cL Product_n30
noncomputable def Product_n33 : Code := cL Product_n6
noncomputable def Product_n34 : Code := cR Product_n6
set_option maxRecDepth 10000 in
theorem Product_t {w : World} {M : Hp} {X : Fr} (a : List Tm) {aA : Option Addr} {ac : Nat} (b : List Tm) {bA : Option Addr} {bc : Nat} (ha : RdA cdTm M aA ac a) (hb : RdA cdTm M bA bc b) (A B : Nat) (hba : Bd a A) (hbb : Bd b B) (hB : A + B ≤ 1099511627776) (S : SH w M X []) : Ct Try.prog 18 [.slice aA a.length ac, .slice bA b.length bc] w M X (PT (A + B) (mk (pr a) * mk (pr b))) := by
 unfold Ct
 have rmha : a.length * 16 ≤ 140737488355328 := ha.room
 have rmhb : b.length * 16 ≤ 140737488355328 := hb.room
 refine calls_in (b := Product_n0) Try.func18 rfl Try.ntmps18 rfl (fun C hC => ?_)
 refine ws_sub [(0, _), (1, _)] ⟨rfl, rfl, trivial⟩ ?_
 refine ws_seqN Product_n1 Product_n2 rfl rfl rfl ?_
 refine ws_region rfl ?_
 refine wla 0 1 rfl rfl rfl rfl rfl rfl rfl ?_
 refine wl_end rfl ?_
 refine nm_sub [(0, _), (1, _)] ⟨rfl, rfl, trivial⟩ ?_
 refine nm_thn ?_
 refine ws_seqN Product_n3 Product_n4 rfl rfl rfl ?_
 refine ws_region rfl ?_
 refine wla 0 1 rfl rfl rfl rfl rfl rfl rfl ?_
 refine wl_end rfl ?_
 refine nm_thn ?_
 refine ws_seqN Product_n5 Product_n6 rfl rfl rfl ?_
 refine ws_seqN Product_n7 Product_n8 rfl rfl rfl ?_
 refine ws_region rfl ?_
 refine wla 0 1 rfl rfl rfl rfl rfl rfl rfl ?_
 refine wl_end rfl ?_
 refine nm_thn ?_
 refine ws_blockN Product_n9 0 rfl rfl rfl ?_
 refine ws_loopE (fun mx_ ax_ wx_ => ∃ (i : Nat) (acc : List Tm) (Ao : Option Addr) (co : Nat) (M1 : Hp), M.le M1 ∧ mx_ = a.length - i ∧ Env 45 [(0, .slice aA a.length ac), (1, .slice bA b.length bc), (5, .slice Ao acc.length co), (6, .int .i64 (i : Int))] ax_ ∧ SH wx_ M1 X [] ∧ RdA cdTm M1 Ao co acc ∧ i ≤ a.length ∧ Can acc ∧ Bd acc (A + B) ∧ mk (pr acc) = mk (pr (a.take i)) * mk (pr b)) rfl ?_ ?_
 ·intro ax_ hax_
  refine ⟨_, ⟨0, [], none, 0, _, Hp.le_refl _, rfl, hax_.sub ⟨rfl, rfl, rfl, rfl, trivial⟩, S.pick [] [] (by decide) trivial, ?hq1f0, ?hq1f1, ?hq1f2, ?hq1f3, ?hq1f4⟩⟩
  case hq1f0 => exact RdA.nil_
  case hq1f1 => omega
  case hq1f2 => exact Can.nil_
  case hq1f3 => (intro t ht; simp at ht)
  case hq1f4 => exact (Pol.zero_mul _).symm
 ·rintro m1 a1 w1 ⟨i, acc, Ao, co, M1, hle1, rfl, he1, S1, hacc, hi, hcc, hbc, hmc⟩
  clear S
  refine ws_in he1 (c := Product_n10) rfl ?_
  clear he1 a1
  replace ha := ha.mono hle1
  replace hb := hb.mono hle1
  refine ws_seqN Product_n11 Product_n12 rfl rfl rfl ?_
  refine ws_seqN Product_n13 Product_n14 rfl rfl rfl ?_
  refine ws_region rfl ?_
  refine wlm 0 1 rfl rfl rfl rfl rfl rfl rfl ?_
  refine wlm 1 2 rfl rfl rfl rfl rfl rfl rfl ?_
  refine wlo 2 3 rfl rfl rfl (wo_run rfl rfl (run_len rfl rfl rfl rfl rfl rfl Try.underlying22) ?_)
  refine wlo 3 4 rfl rfl rfl (wo_run rfl rfl (run_lss rfl rfl rfl) ?_)
  refine wl_end rfl ?_
  refine nm_sub [(0, _), (1, _), (5, _), (6, _), (11, _)] ⟨rfl, rfl, rfl, rfl, rfl, trivial⟩ ?_
  refine nm_thn ?_
  refine ws_condN Product_n15 Product_n16 rfl rfl rfl rfl (fun hb11 => ?_) (fun hb11 => ?_)
  ·have hb11 := of_decide_eq_true hb11
   refine ws_skip rfl ?_
   refine nm_sub [(0, _), (1, _), (5, _), (6, _)] ⟨rfl, rfl, rfl, rfl, trivial⟩ ?_
   refine nm_thn ?_
   refine ws_seqN Product_n17 Product_n18 rfl rfl rfl ?_
   refine ws_blockN Product_n19 1 rfl rfl rfl ?_
   refine ws_seqN Product_n20 Product_n21 rfl rfl rfl ?_
   refine ws_region rfl ?_
   refine wla 0 1 rfl rfl rfl rfl rfl rfl rfl ?_
   refine wl_end rfl ?_
   refine nm_thn ?_
   refine ws_blockN Product_n22 2 rfl rfl rfl ?_
   refine ws_loopE (fun mx_ ax_ wx_ => ∃ (j : Nat) (acc2 : List Tm) (Ao2 : Option Addr) (co2 : Nat) (M2 : Hp), M1.le M2 ∧ mx_ = b.length - j ∧ Env 45 [(0, .slice aA a.length ac), (1, .slice bA b.length bc), (5, .slice Ao2 acc2.length co2), (6, .int .i64 (i : Int)), (7, .int .i64 (j : Int))] ax_ ∧ SH wx_ M2 X [] ∧ RdA cdTm M2 Ao2 co2 acc2 ∧ j ≤ b.length ∧ Can acc2 ∧ Bd acc2 (A + B) ∧ mk (pr acc2) = mk (pr (a.take i)) * mk (pr b) + mono (ga a i).e (ga a i).c * mk (pr (b.take j))) rfl ?_ ?_
   ·intro ax_ hax_
    refine ⟨_, ⟨0, acc, Ao, co, _, Hp.le_refl _, rfl, hax_.sub ⟨rfl, rfl, rfl, rfl, rfl, trivial⟩, S1.pick [] [] (by decide) trivial, ?hq2f0, ?hq2f1, ?hq2f2, ?hq2f3, ?hq2f4⟩⟩
    case hq2f0 => exact hacc
    case hq2f1 => omega
    case hq2f2 => exact hcc
    case hq2f3 => exact hbc
    case hq2f4 => (rw [hmc, List.take_zero]; show _ = _ + mono _ _ * Pol.o; rw [Pol.mul_zero, Pol.add_zero])
   ·rintro m2 a2 w2 ⟨j, acc2, Ao2, co2, M2, hle2, rfl, he2, S2, hacc2, hj, hcc2, hbc2, hmc2⟩
    clear S1
    refine ws_in he2 (c := Product_n23) rfl ?_
    clear he2 a2
    replace ha := ha.mono hle2
    replace hb := hb.mono hle2
    replace hacc := hacc.mono hle2
    have hai := bd_at hba (i := i) (by omega)
    refine ws_seqN Product_n24 Product_n25 rfl rfl rfl ?_
    refine ws_seqN Product_n26 Product_n27 rfl rfl rfl ?_
    refine ws_region rfl ?_
    refine wlm 0 1 rfl rfl rfl rfl rfl rfl rfl ?_
    refine wlm 1 2 rfl rfl rfl rfl rfl rfl rfl ?_
    refine wlo 2 3 rfl rfl rfl (wo_run rfl rfl (run_len rfl rfl rfl rfl rfl rfl Try.underlying22) ?_)
    refine wlo 3 4 rfl rfl rfl (wo_run rfl rfl (run_lss rfl rfl rfl) ?_)
    refine wl_end rfl ?_
    refine nm_sub [(0, _), (1, _), (5, _), (6, _), (7, _), (17, _)] ⟨rfl, rfl, rfl, rfl, rfl, rfl, trivial⟩ ?_
    refine nm_thn ?_
    refine ws_condN Product_n28 Product_n29 rfl rfl rfl rfl (fun hb17 => ?_) (fun hb17 => ?_)
    ·have hb17 := of_decide_eq_true hb17
     refine ws_skip rfl ?_
     refine nm_sub [(0, _), (1, _), (5, _), (6, _), (7, _)] ⟨rfl, rfl, rfl, rfl, rfl, trivial⟩ ?_
     refine nm_thn ?_
     refine ws_seqN Product_n30 Product_n31 rfl rfl rfl ?_
     refine ws_blockN Product_n32 3 rfl rfl rfl ?_
     refine ws_draw rfl (by kernel_rfl) S2 25 rfl ?_
     clear S2
     refine wa_takeP (i := 0) (d := 20) 24 rfl (by kernel_rfl) (by kernel_rfl) (by kernel_rfl) rfl rfl rfl (fun w3 => run_move rfl rfl) ?_
     refine wa_takeP (i := 1) (d := 21) 23 rfl (by kernel_rfl) (by kernel_rfl) (by kernel_rfl) rfl rfl rfl (fun w4 => run_move rfl rfl) ?_
     refine wa_takeP (i := 2) (d := 22) 22 rfl (by kernel_rfl) (by kernel_rfl) (by kernel_rfl) rfl rfl rfl (fun w5 => run_move rfl rfl) ?_
     refine wa_take (i := 3) (d := 23) 21 rfl (by kernel_rfl) (by kernel_rfl) (by kernel_rfl) rfl rfl rfl (fun M6 N4 w6 hle6 S6 => .inl (run_indexM (C := cdTm) i rfl rfl rfl sl22 (by first | rfl | omega) (ha.mono hle6) (by first | omega | (simp only [lens]; omega)))) ?_
     refine wa_takeP (i := 4) (d := 24) 20 rfl (by kernel_rfl) (by kernel_rfl) (by kernel_rfl) rfl rfl rfl (fun w7 => run_fieldAddr rfl rfl Try.underlying86 rfl (ce3) (nf3)) ?_
     refine wa_take (i := 5) (d := 25) 19 rfl (by kernel_rfl) (by kernel_rfl) (by kernel_rfl) rfl rfl rfl (fun M8 N6 w8 hle8 S8 => .inl (run_load1 rfl rfl Try.underlying3 rfl ((ha.mono hle8).cell S8.m (i := i) (by first | omega | (simp only [lens]; omega)) 0 rfl rfl))) ?_
     refine wa_takeP (i := 6) (d := 26) 18 rfl (by kernel_rfl) (by kernel_rfl) (by kernel_rfl) rfl rfl rfl (fun w9 => run_move rfl rfl) ?_
     refine wa_takeP (i := 7) (d := 27) 17 rfl (by kernel_rfl) (by kernel_rfl) (by kernel_rfl) rfl rfl rfl (fun w10 => run_move rfl rfl) ?_
     refine wa_take (i := 8) (d := 28) 16 rfl (by kernel_rfl) (by kernel_rfl) (by kernel_rfl) rfl rfl rfl (fun M11 N9 w11 hle11 S11 => .inl (run_indexM (C := cdTm) j rfl rfl rfl sl22 (by first | rfl | omega) (hb.mono hle11) (by first | omega | (simp only [lens]; omega)))) ?_
     refine wa_takeP (i := 9) (d := 29) 15 rfl (by kernel_rfl) (by kernel_rfl) (by kernel_rfl) rfl rfl rfl (fun w12 => run_fieldAddr rfl rfl Try.underlying86 rfl (ce3) (nf3)) ?_
     refine wa_take (i := 10) (d := 30) 14 rfl (by kernel_rfl) (by kernel_rfl) (by kernel_rfl) rfl rfl rfl (fun M13 N11 w13 hle13 S13 => .inl (run_load1 rfl rfl Try.underlying3 rfl ((hb.mono hle13).cell S13.m (i := j) (by first | omega | (simp only [lens]; omega)) 0 rfl rfl))) ?_
     refine wa_takeP (i := 11) (d := 31) 13 rfl (by kernel_rfl) (by kernel_rfl) (by kernel_rfl) rfl rfl rfl (fun w14 => run_add rfl rfl rfl (by have h8 := bd_at hbb (i := j) (by omega); omega)) ?_
     refine wa_takeP (i := 12) (d := 32) 12 rfl (by kernel_rfl) (by kernel_rfl) (by kernel_rfl) rfl rfl rfl (fun w15 => run_move rfl rfl) ?_
     refine wa_takeP (i := 13) (d := 33) 11 rfl (by kernel_rfl) (by kernel_rfl) (by kernel_rfl) rfl rfl rfl (fun w16 => run_move rfl rfl) ?_
     refine wa_take (i := 14) (d := 34) 10 rfl (by kernel_rfl) (by kernel_rfl) (by kernel_rfl) rfl rfl rfl (fun M17 N15 w17 hle17 S17 => .inl (run_indexM (C := cdTm) i rfl rfl rfl sl22 (by first | rfl | omega) (ha.mono hle17) (by first | omega | (simp only [lens]; omega)))) ?_
     refine wa_takeP (i := 15) (d := 35) 9 rfl (by kernel_rfl) (by kernel_rfl) (by kernel_rfl) rfl rfl rfl (fun w18 => run_fieldAddr rfl rfl Try.underlying86 rfl (ce3) (nf3)) ?_
     refine wa_take (i := 16) (d := 36) 8 rfl (by kernel_rfl) (by kernel_rfl) (by kernel_rfl) rfl rfl rfl (fun M19 N17 w19 hle19 S19 => .inl (run_load1 rfl rfl Try.underlying3 rfl ((ha.mono hle19).cell S19.m (i := i) (by first | omega | (simp only [lens]; omega)) 1 rfl rfl))) ?_
     refine wa_takeP (i := 17) (d := 37) 7 rfl (by kernel_rfl) (by kernel_rfl) (by kernel_rfl) rfl rfl rfl (fun w20 => run_move rfl rfl) ?_
     refine wa_takeP (i := 18) (d := 38) 6 rfl (by kernel_rfl) (by kernel_rfl) (by kernel_rfl) rfl rfl rfl (fun w21 => run_move rfl rfl) ?_
     refine wa_take (i := 19) (d := 39) 5 rfl (by kernel_rfl) (by kernel_rfl) (by kernel_rfl) rfl rfl rfl (fun M22 N20 w22 hle22 S22 => .inl (run_indexM (C := cdTm) j rfl rfl rfl sl22 (by first | rfl | omega) (hb.mono hle22) (by first | omega | (simp only [lens]; omega)))) ?_
     refine wa_takeP (i := 20) (d := 40) 4 rfl (by kernel_rfl) (by kernel_rfl) (by kernel_rfl) rfl rfl rfl (fun w23 => run_fieldAddr rfl rfl Try.underlying86 rfl (ce3) (nf3)) ?_
     refine wa_take (i := 21) (d := 41) 3 rfl (by kernel_rfl) (by kernel_rfl) (by kernel_rfl) rfl rfl rfl (fun M24 N22 w24 hle24 S24 => .inl (run_load1 rfl rfl Try.underlying3 rfl ((hb.mono hle24).cell S24.m (i := j) (by first | omega | (simp only [lens]; omega)) 1 rfl rfl))) ?_
     refine wa_takeP (i := 22) (d := 42) 2 rfl (by kernel_rfl) (by kernel_rfl) (by kernel_rfl) rfl rfl rfl (fun w25 => run_mulW rfl rfl rfl) ?_
     refine wa_only (i := 23) 1 rfl (by kernel_rfl) rfl rfl (fun w27 S27 => ?_)
     refine (wo_ct rfl rfl rfl rfl rfl rfl rfl cf58 S27 (Put_t acc2 (((ga a i).e) + ((ga b j).e)) (wr (((ga a i).c) * ((ga b j).c))) hacc2 ((by have := can_len hcc2 hbc2; omega)) S27.lend) ?_)
     intro vw28 w28 M27 hle27 S28 hRw28; clear S27
     replace ha := ha.mono hle27
     replace hb := hb.mono hle27
     replace hacc := hacc.mono hle27
     replace hacc2 := hacc2.mono hle27
     obtain ⟨A1, c1, rfl, hr1⟩ := hRw28
     refine LeftW.grow [] (hle27) S28 ?_; clear S28
     change WA _ _ _ _ _ _ _ _ _ _ _ _ []
     refine wa_base ?_
     refine wa_takeP (i := 24) (d := 5) 0 rfl (by kernel_rfl) (by kernel_rfl) (by kernel_rfl) rfl rfl rfl (fun w29 => run_assign rfl rfl) ?_
     refine wa_end (by kernel_rfl) (fun w30 S30 => ?_)
     refine nm_blk ?_
     refine nm_sub [(0, _), (1, _), (5, _), (6, _), (7, _)] ⟨rfl, rfl, rfl, rfl, rfl, trivial⟩ ?_
     refine nm_thn ?_
     refine ws_region rfl ?_
     refine wlm 0 1 rfl rfl rfl rfl rfl rfl rfl ?_
     refine wlo 1 2 rfl rfl rfl (wo_run rfl rfl (run_add rfl rfl rfl (by first | omega | (simp only [lens]; omega))) ?_)
     refine wla 2 3 rfl rfl rfl rfl rfl rfl rfl ?_
     refine wl_end rfl ?_
     refine nm_lp ?_
     have hbj := bd_at hbb (i := j) (by omega)
     intro ax_ hax_
     refine ⟨_, ?hq3m, ⟨j + 1, (put acc2 (((ga a i).e) + ((ga b j).e)) (wr (((ga a i).c) * ((ga b j).c)))), A1, c1, _, (hle2.trans hle27), rfl, hax_.sub ⟨rfl, rfl, rfl, rfl, rfl, trivial⟩, S30.pick [] [] (by decide) trivial, ?hq3f0, ?hq3f1, ?hq3f2, ?hq3f3, ?hq3f4⟩⟩
     case hq3f0 => exact hr1
     case hq3f1 => omega
     case hq3f2 => exact put_can hcc2 (wr_id (by omega)) (wr_idem _)
     case hq3f3 => exact put_bd hbc2 (by omega)
     case hq3f4 => exact prod_step (by omega) hmc2
     case hq3m => omega
    ·have hb17 := of_decide_eq_false hb17
     refine ws_exit rfl rfl ?_
     refine nm_blk ?_
     refine nm_sub [(0, _), (1, _), (5, _), (6, _)] ⟨rfl, rfl, rfl, rfl, trivial⟩ ?_
     refine nm_thn ?_
     refine ws_region rfl ?_
     refine wlm 0 1 rfl rfl rfl rfl rfl rfl rfl ?_
     refine wlo 1 2 rfl rfl rfl (wo_run rfl rfl (run_add rfl rfl rfl (by first | omega | (simp only [lens]; omega))) ?_)
     refine wla 2 3 rfl rfl rfl rfl rfl rfl rfl ?_
     refine wl_end rfl ?_
     refine nm_lp ?_
     intro ax_ hax_
     refine ⟨_, ?hq4m, ⟨i + 1, acc2, Ao2, co2, _, (hle1.trans hle2), rfl, hax_.sub ⟨rfl, rfl, rfl, rfl, trivial⟩, S2.pick [] [] (by decide) trivial, ?hq4f0, ?hq4f1, ?hq4f2, ?hq4f3, ?hq4f4⟩⟩
     case hq4f0 => exact hacc2
     case hq4f1 => omega
     case hq4f2 => exact hcc2
     case hq4f3 => exact hbc2
     case hq4f4 => (rw [hmc2, show b.take j = b by rw [show j = b.length by omega, List.take_length], mk_take (by omega), Pol.add_mul])
     case hq4m => omega
  ·have hb11 := of_decide_eq_false hb11
   refine ws_exit rfl rfl ?_
   refine nm_sub [(5, _)] ⟨rfl, trivial⟩ ?_
   refine nm_thn ?_
   refine ws_seqN Product_n33 Product_n34 rfl rfl rfl ?_
   refine ws_region rfl ?_
   refine wlm 0 1 rfl rfl rfl rfl rfl rfl rfl ?_
   refine wla 1 2 rfl rfl rfl rfl rfl rfl rfl ?_
   refine wl_end rfl ?_
   refine nm_sub [(4, _)] ⟨rfl, trivial⟩ ?_
   refine nm_thn ?_
   refine ws_ret hC [_] rfl rfl ⟨rfl, trivial⟩ ?_
   refine ⟨_, rfl, _, hle1, (S1.pick [] [] (by decide) trivial), ?_⟩
   obtain rfl : i = a.length := by omega
   rw [List.take_length] at hmc
   exact ⟨_, _, _, rfl, hacc, hcc, hbc, hmc⟩
end Go.Proofs.Ytkcighnochjlgaa
namespace Go.Proofs.Ytkcighnochjlgaa
open Go.ChangeShapes Go.WideShapes Go.ChangeAt Go.RowKit
def Rs.bun (H : List Rs) : Rs :=
  ⟨H.flatMap (·.bl), fun h => (∀ r ∈ H, r.ok h) ∧ ∀ (i j : Nat) r s, i ≠ j → H[i]? = some r → H[j]? = some s → ∀ b ∈ r.bl, b ∉ s.bl, fun h h' hb hk =>
    ⟨fun r hr => r.loc h h' (fun b hbr => hb b (List.mem_flatMap.2 ⟨r, hr, hbr⟩)) (hk.1 r hr), hk.2⟩⟩
section
variable {w w' : World} {M M' : Hp} {X : Fr} {H H' : List Rs} {r r' : Rs} {i : Nat}
theorem SH.bun (S : SH w M X H) : SH w M X [Rs.bun H] := by
  refine ⟨S.m, S.x, S.mx, fun s hs => ?_, fun s hs b hb => ?_, fun i j r s hij hi hj b hb => ?_, S.like⟩
  · rw [List.mem_singleton] at hs; subst hs; exact ⟨S.ok, S.ap⟩
  · rw [List.mem_singleton] at hs; subst hs
    obtain ⟨r, hr, hbr⟩ := List.mem_flatMap.1 hb
    exact S.bl r hr b hbr
  · have h1 := (List.getElem?_eq_some_iff.1 hi).1
    have h2 := (List.getElem?_eq_some_iff.1 hj).1
    simp at h1 h2; omega
theorem SH.unbun (S : SH w M X [Rs.bun H]) : SH w M X H := by
  obtain ⟨h1, h2⟩ := S.ok (Rs.bun H) (by simp)
  exact ⟨S.m, S.x, S.mx, h1, fun r hr b hb => S.bl (Rs.bun H) (by simp) b (List.mem_flatMap.2 ⟨r, hr, hb⟩), h2, S.like⟩
end
def Rs.lr (l D : Nat) (rc : Loop) : Rs :=
  ⟨[l, D], fun h => h l = some (.loop rc) ∧ h D = some (.deferred (some [])), fun h h' hb hk => ⟨by rw [hb l (by simp)]; exact hk.1, by rw [hb D (by simp)]; exact hk.2⟩⟩
namespace InF
structure Ctx where
  Q : Exit → Act → World → Prop
  r : Option Nat
def Ctx.F (C : Ctx) : Fence := match C.r with
  | none => Fence.wide
  | some l => Fence.wide.inRound l
theorem Ctx.F_fn (C : Ctx) (f : FuncId) : C.F.fn f := by
  unfold Ctx.F; split <;> trivial
theorem Ctx.F_depth (C : Ctx) : C.F.depth = none := by
  unfold Ctx.F; split <;> rfl
theorem Ctx.F_isSome (C : Ctx) {p : Prop} : C.F.depth.isSome = true → p := by rw [C.F_depth]; intro h; cases h
theorem callsF (C : Ctx) {m : Nat} {P : Program} {f : FuncId} {args : Array Value} {w : World} {R : Ending → World → Prop} (h : Calls P f args w R) : CallsIn C.F m P f args w R := by
  unfold Ctx.F
  split
  · exact callsIn_wide.2 h
  · exact (callsIn_wide.2 h).inRound _
theorem rowsF (C : Ctx) {m : Nat} {P : Program} {row : String} {args : Array Value} {w : World} {R : Value → World → Prop} (h : Rows P row args w R) : RowsIn C.F m P row args w R := by
  unfold Ctx.F
  split
  · exact fun c cs _ => let ⟨v, w', r, s⟩ := h c cs; ⟨v, w', r, stepsIn_wide.2 s⟩
  · exact fun c cs _ => let ⟨v, w', r, s⟩ := h c cs; ⟨v, w', r, stepsIn_wide.2 s⟩
theorem oper_in (C : Ctx) {P : Program} {o : Oper} {a : Act} {w : World} {next : Act → World → Prop} {Q : Exit → Act → World → Prop} (hnd : ∀ c, o.op ≠ .defer c) (h : o.wp P a w next Q) : o.wpIn C.F 0 P a w next Q := by
  refine ⟨fun f _ => C.F_fn f, ?_⟩
  rw [Oper.semAt_eq _ _ _ hnd]
  unfold Oper.wp at h
  generalize (execOp a.eval o).run P w = r at h
  cases r with
  | ok nx w' =>
    cases nx with
    | value v => exact h
    | skip => exact h
    | defer d => exact h
    | enter f args => exact ⟨C.F_isSome, callsF C h⟩
    | row row args => exact ⟨C.F_isSome, rowsF C h⟩
    | _ => exact h.elim
  | halt x w' =>
    cases x with
    | panic v => exact h
    | _ => exact h.elim
def post (P : Program) (C : Ctx) : List K → Exit → Act → World → Prop
  | [] => C.Q
  | .thn c :: s => Exit.then (c.wpIn C.F 0 P (post P C s)) (post P C s)
  | .blk id :: s => Exit.inBlock id (post P C s)
  | .lp I :: s => Exit.then I (post P C s)
def WS (P : Program) (n : Nat) (C : Ctx) (c : Code) (s : List K) (L : List (Nat × Value)) (w : World) : Prop := ∀ a, Env n L a → c.wpIn C.F 0 P (post P C s) a w
def NM (P : Program) (n : Nat) (C : Ctx) (s : List K) (L : List (Nat × Value)) (w : World) : Prop := ∀ a, Env n L a → post P C s .normal a w
def WL (P : Program) (n : Nat) (C : Ctx) (c : Code) (k : Nat) (s : List K) (L : List (Nat × Value)) (w : World) : Prop := ∀ a, Env n L a → wpListIn C.F 0 P (rg c) (post P C s) ((rg c).toList.drop k) a w
section
variable {P : Program} {n : Nat} {C : Ctx} {c : Code} {s : List K} {L : List (Nat × Value)} {w : World}
theorem ws_sub (L2 : List (Nat × Value)) (hs : Sub L L2) (h : WS P n C c s L2 w) : WS P n C c s L w := fun a ha => h a (ha.sub hs)
theorem nm_sub (L2 : List (Nat × Value)) (hs : Sub L L2) (h : NM P n C s L2 w) : NM P n C s L w := fun a ha => h a (ha.sub hs)
theorem ws_seqN (a b : Code) (hk : kind c = 1) (ha : cL c = a) (hb : cR c = b) (h : WS P n C a (.thn b :: s) L w) : WS P n C c s L w := by
  subst ha; subst hb
  intro a ha
  rw [kind_seq hk]
  exact wpIn_seq (h a ha)
theorem ws_blockN (a : Code) (i : Nat) (hk : kind c = 3) (ha : cL c = a) (hi : cId c = i) (h : WS P n C a (.blk i :: s) L w) : WS P n C c s L w := by
  subst ha; subst hi
  intro a ha
  rw [kind_block hk]
  exact wpIn_block (h a ha)
theorem ws_skip (hk : kind c = 9) (h : NM P n C s L w) : WS P n C c s L w := by
  intro a ha
  rw [kind_skip hk]
  exact wpIn_skip (h a ha)
theorem nm_thn (h : WS P n C c s L w) : NM P n C (.thn c :: s) L w := fun a ha => h a ha
theorem nm_blk {id : Nat} (h : NM P n C s L w) : NM P n C (.blk id :: s) L w := fun a ha => h a ha
theorem nm_lp {I : Act → World → Prop} (h : ∀ a, Env n L a → I a w) : NM P n C (.lp I :: s) L w := fun a ha => h a ha
theorem post_exit {id : Nat} : ∀ {s s' : List K}, popTo id s = some s' → ∀ a w, post P C s' .normal a w → post P C s (.exit id) a w
  | [], s', h, a, w, hq => by cases h
  | .thn c :: s, s', h, a, w, hq => post_exit (s := s) h a w hq
  | .lp I :: s, s', h, a, w, hq => post_exit (s := s) h a w hq
  | .blk i :: s, s', h, a, w, hq => by
    simp only [popTo] at h
    simp only [post, Exit.inBlock]
    by_cases hi : i = id
    · subst hi
      simp only [Nat.beq_refl, Option.some.injEq] at h
      subst h
      rw [if_pos rfl]
      exact hq
    · have h2 : Nat.beq i id = false := by
        cases hb : Nat.beq i id with
        | false => rfl
        | true => exact absurd (Nat.eq_of_beq_eq_true hb) hi
      simp only [h2] at h
      rw [if_neg (fun e => hi e.symm)]
      exact post_exit (s := s) h a w hq
theorem ws_exit {s' : List K} (hk : kind c = 5) (hp : popTo (cId c) s = some s') (h : NM P n C s' L w) : WS P n C c s L w := by
  intro a ha
  rw [kind_exit hk]
  exact wpIn_exit (post_exit hp a w (h a ha))
theorem ws_condN (x y : Code) {b : Bool} (hk : kind c = 2) (hb : oev L (cX c) = some (.bool b)) (hx : cL c = x) (hy : cR c = y) (ht : b = true → WS P n C x s L w) (hf : b = false → WS P n C y s L w) : WS P n C c s L w := by
  subst hx; subst hy
  intro a ha
  rw [kind_cond hk]
  exact wpIn_cond_split (ha.eval hb) (fun h => ht h a ha) (fun h => hf h a ha)
theorem ws_condTN (x : Code) (hk : kind c = 2) (hb : oev L (cX c) = some (.bool true)) (hx : cL c = x) (ht : WS P n C x s L w) : WS P n C c s L w := ws_condN x (cR c) hk hb hx rfl (fun _ => ht) (fun e => by cases e)
theorem ws_condFN (y : Code) (hk : kind c = 2) (hb : oev L (cX c) = some (.bool false)) (hy : cR c = y) (hf : WS P n C y s L w) : WS P n C c s L w := ws_condN (cL c) y hk hb rfl hy (fun e => by cases e) (fun _ => hf)
theorem ws_in {a : Act} {c' : Code} (ha : Env n L a) (hc : c' = c) (h : WS P n C c s L w) : c'.wpIn C.F 0 P (post P C s) a w := by subst hc; exact h a ha
theorem ws_loopE (I : Nat → Act → World → Prop) (hk : kind c = 4) (h0 : ∀ a, Env n L a → ∃ k, I k a w)
    (round : ∀ k a w, I k a w → (cL c).wpIn C.F 0 P (post P C (.lp (fun a' w' => ∃ k', k' < k ∧ I k' a' w') :: s)) a w) : WS P n C c s L w := by
  intro a ha
  rw [kind_loop hk]
  have key : ∀ m k, k < m → ∀ a w, I k a w → Code.roundsIn C.F 0 P (cL c) (post P C s) m a w := by
    intro m
    induction m with
    | zero => intro k hk; omega
    | succ m ih =>
      intro k hk a w hi
      rw [roundsIn_succ]
      refine wpIn_mono (round k a w hi) (fun e a w q => ?_)
      cases e with
      | normal =>
        obtain ⟨k', hlt, hi'⟩ := q
        exact ih k' (by omega) a w hi'
      | _ => exact q
  obtain ⟨k0, h1⟩ := h0 a ha
  exact wpIn_loop_rounds (k0 + 1) (key (k0 + 1) k0 (by omega) a w h1)
theorem ws_eq (t : Nat) {v : Value} (v' : Value) (hl : lk L t = some v) (e : v = v') (h : WS P n C c s ((t, v') :: L) w) : WS P n C c s L w := by
  subst e
  exact fun a ha => h a ⟨ha.sz, ha.df, fun u x hx => by
    rw [lk_cons] at hx
    split at hx
    · rename_i e; subst e; injection hx with hx; subst hx; exact ha.at_ _ _ hl
    · exact ha.at_ _ _ hx⟩
theorem wl_eq {k : Nat} (t : Nat) {v : Value} (v' : Value) (hl : lk L t = some v) (e : v = v') (h : WL P n C c k s ((t, v') :: L) w) : WL P n C c k s L w := by
  subst e
  exact fun a ha => h a ⟨ha.sz, ha.df, fun u x hx => by
    rw [lk_cons] at hx
    split at hx
    · rename_i e; subst e; injection hx with hx; subst hx; exact ha.at_ _ _ hl
    · exact ha.at_ _ _ hx⟩
theorem ws_region (hk : kind c = 7) (h : WL P n C c 0 s L w) : WS P n C c s L w := by
  intro a ha
  rw [kind_region hk]
  exact wpIn_region_list (h a ha)
theorem wl_end {k : Nat} (hk : op c k = none) (h : NM P n C s L w) : WL P n C c k s L w := by
  intro a ha
  have : ((rg c).toList.drop k) = [] := by
    unfold op at hk
    rw [nth_eq] at hk
    exact List.drop_eq_nil_of_le (by simpa using hk)
  rw [this]
  exact wpListIn_nil (h a ha)
/-- No defer statement; and no operation that asks for a row of the model's own. -/
def ndOp (o : Oper) : Bool := match o.op with
  | .defer _ => false
  | _ => true
theorem ndOp_spec {o : Oper} (h : ndOp o = true) : ∀ c, o.op ≠ .defer c := fun c e => by unfold ndOp at h; rw [e] at h; cases h
theorem wl_op {k k' : Nat} {o : Oper} (ho : op c k = some o) (hk : k' = k.succ) (hg : o.guard = none) (h : WO P n o L w (fun L' w' => WL P n C c k' s L' w')) (hnd : ndOp o = true := by rfl) : WL P n C c k s L w := by
  intro a ha
  rw [drop_op ho]
  subst hk
  refine wpListIn_plain hg fun K hK => ?_
  exact oper_in C (ndOp_spec hnd) (h a ha K _ fun L' a' w' he hw => hK _ _ (hw a' he))
theorem wl_opG {k k' : Nat} {o : Oper} (ho : op c k = some o) (hk : k' = k.succ) (hg : Wanted c L o.guard true) (hs : gslot c o n = true) (h : WO P n o L w (fun L' w' => WL P n C c k' s L' w')) (hnd : ndOp o = true := by rfl) : WL P n C c k s L w := by
  intro a ha
  rw [drop_op ho]
  subst hk
  refine wpListIn_step fun K hK => ?_
  rw [if_pos (wanted_eq ha hg (gslot_spec hs))]
  exact oper_in C (ndOp_spec hnd) (h a ha K _ fun L' a' w' he hw => hK _ _ (hw a' he))
theorem wl_no {k k' d : Nat} {o : Oper} (ho : op c k = some o) (hk : k' = k.succ) (hg : Wanted c L o.guard false) (hd : o.dst = some d) (hn : (Nat.blt d n && gslot c o n) = true) (h : WL P n C c k' s ((d, undef) :: L) w) : WL P n C c k s L w := by
  intro a ha
  rw [drop_op ho]
  subst hk
  simp only [Bool.and_eq_true] at hn
  refine wpListIn_step fun K hK => ?_
  rw [if_neg (by rw [wanted_eq ha hg (gslot_spec hn.2)]; simp), hd]
  exact ⟨fun f _ => C.F_fn f, hK _ _ (h _ (ha.put (d := d) (by simpa using hn.1) undef))⟩
theorem wl_split {k t : Nat} {b : Bool} (hl : lk L t = some (.bool b)) (ht : b = true → WL P n C c k s ((t, .bool true) :: L) w) (hf : b = false → WL P n C c k s ((t, .bool false) :: L) w) : WL P n C c k s L w := by
  have key : ∀ b', b = b' → WL P n C c k s ((t, .bool b') :: L) w → WL P n C c k s L w := by
    intro b' e h a ha
    refine h a ⟨ha.sz, ha.df, fun u v hv => ?_⟩
    rw [lk_cons] at hv
    split at hv
    · rename_i e2; subst e2; injection hv with hv; subst hv; subst e; exact ha.at_ _ _ hl
    · exact ha.at_ _ _ hv
  cases b
  · exact key false rfl (hf rfl)
  · exact key true rfl (ht rfl)
/-- A call of yield: a round. -/
theorem wl_yield {k k' d l : Nat} {o : Oper} {vs : List Value} {ca : Call} {fo : Operand} {xs : List Operand} (ho : op c k = some o) (hk : k' = k.succ) (hg : o.guard = none) (hd : o.dst = some d) (hop : o.op = .call ca) (hca : ca.callee = .value fo) (hfo : oev L fo = some (.func (.yield l) #[] #[]))
    (hxs : ca.args = xs.toArray) (hvs : oevs L xs = some vs) (hn : Nat.blt d n = true) {R : Value → World → Prop} (hy : YieldAt C.F 0 P l vs.toArray w fun e w' => ∃ v, e = .returned v ∧ R v w') (h : ∀ v w', R v w' → WL P n C c k' s ((d, v) :: L) w') : WL P n C c k s L w := by
  intro a ha
  rw [drop_op ho]
  subst hk
  refine wpListIn_plain hg fun K hK => ?_
  obtain ⟨fn, tmps, assign, body, hy1, hy2⟩ := hy
  have hr : (execOp a.eval o).run P w = .ok (.round l fn tmps assign body) w := by
    unfold execOp
    simp only [hop, resolve, hca, ha.eval hfo, hxs, List.map_toArray, ha.evals hvs, Deferred.ofValue, Sem.run_bind, Sem.run_pure, Result.andThen_ok, invoke, Array.empty_append]
    exact hy1
  refine ⟨fun f _ => C.F_fn f, ?_⟩
  rw [Oper.semAt_eq _ _ _ (fun c e => by rw [e] at hop; cases hop), hr, Oper.uponIn_round, hd]
  refine ⟨C.F_isSome, hy2.mono ?_⟩
  rintro e w' ⟨v, rfl, hR⟩
  exact hK _ _ (h v w' hR _ (ha.put (by simpa using hn) v))
theorem ws_ret {fn : Func} {R : Ending → World → Prop} (hC : C.Q = bodyPost P fn R) {rs : List ResultVar} (vs : List Value) (hr : fn.results = rs.toArray) (hk : kind c = 6) (h : ResIs P L w rs vs) (hR : R (.returned (tup vs)) w) : WS P n C c s L w := by
  have hpr : ∀ {s : List K} {a : Act} {w : World}, post P C [] .ret a w → post P C s .ret a w := by
    intro s
    induction s with
    | nil => exact fun h => h
    | cons x s ih => intro a w h; cases x <;> exact ih h
  intro a ha
  rw [kind_ret hk]
  refine wpIn_ret (hpr ?_)
  show C.Q .ret a w
  rw [hC]
  exact ⟨ha.df, tup vs, run_results ha hr h, hR⟩
theorem nm_end {fn : Func} {R : Ending → World → Prop} (hC : C.Q = bodyPost P fn R) {rs : List ResultVar} (vs : List Value) (hr : fn.results = rs.toArray) (h : ResIs P L w rs vs) (hR : R (.returned (tup vs)) w) : NM P n C [] L w := by
  intro a ha
  show C.Q .normal a w
  rw [hC]
  exact ⟨ha.df, tup vs, run_results ha hr h, hR⟩
/-- A function that is ranged over. -/
theorem calls_in {f : FuncId} {fn : Func} {b : Code} {args : List Value} {w : World} {R : Ending → World → Prop} (hf : P.funcs[f]? = some fn) (hb : fn.body = some b) {n : Nat} (hn : fn.ntmps = n) (hsz : Nat.ble args.length n = true)
    (h : ∀ C : Ctx, C.r = none → C.Q = bodyPost P fn R → WS P n C b [] (argL 0 args) w) : CallsIn Fence.wide 0 P f args.toArray w R := by
  have h1 := h ⟨bodyPost P fn R, none⟩ rfl rfl
  refine callsIn_of_wp hf hb trivial (h1 _ ⟨?_, rfl, fun t v hv => ?_⟩)
  · simp [hn]; have : args.length ≤ n := by simpa using hsz
    omega
  · have := (lk_argL args 0 t v hv).2
    rw [Nat.sub_zero] at this
    have hlt := (List.getElem?_eq_some_iff.1 this).1
    simp only [Array.getD_eq_getD_getElem?]
    rw [Array.getElem?_append_left (by simpa using hlt)]
    simp [this]
/-- A function that holds a loop over a function. -/
theorem calls_marks {f : FuncId} {fn : Func} {b : Code} {args : List Value} {w : World} {R : Ending → World → Prop} (hf : P.funcs[f]? = some fn) (hb : fn.body = some b) {n : Nat} (hn : fn.ntmps = n) (hsz : Nat.ble args.length n = true)
    (h : ∀ C : Ctx, C.r = none → C.Q = bodyPostM Fence.wide 0 P fn R → WS P n C b [] (argL 0 args) w) : Calls P f args.toArray w R := by
  have h1 := h ⟨bodyPostM Fence.wide 0 P fn R, none⟩ rfl rfl
  refine callsIn_wide.1 (callsIn_of_wp_marks hf hb trivial (h1 _ ⟨?_, rfl, fun t v hv => ?_⟩))
  · simp [hn]; have : args.length ≤ n := by simpa using hsz
    omega
  · have := (lk_argL args 0 t v hv).2
    rw [Nat.sub_zero] at this
    have hlt := (List.getElem?_eq_some_iff.1 this).1
    simp only [Array.getD_eq_getD_getElem?]
    rw [Array.getElem?_append_left (by simpa using hlt)]
    simp [this]
end
section
variable {P : Program} {n : Nat} {C : Ctx} {c : Code} {s : List K} {L : List (Nat × Value)} {w : World} {M : Hp} {X : Fr} {H : List Rs}
theorem lr_put {w : World} {l D : Nat} {rc rc' : Loop} {Hs : List Rs} (S : SH w M X (Rs.lr l D rc :: Hs)) : SH (w.putObj l (.loop rc')) M X (Rs.lr l D rc' :: Hs) := by
  obtain ⟨h1, h2⟩ := S.ok (Rs.lr l D rc) (by simp)
  have hne : D ≠ l := fun e => by subst e; rw [h1] at h2; cases h2
  have hlt := hp_lt h1
  have hlt2 := hp_lt h2
  refine S.step (i := 0) (r := Rs.lr l D rc) rfl rfl ⟨rfl, rfl, rfl, by simp [World.putObj]⟩ (fun b _ hb => ?_) ⟨World.putObj_heap_same hlt, (World.putObj_heap_other hne).trans h2⟩ (fun b hb => ⟨.inl hb, ?_⟩)
  · exact World.putObj_heap_other (fun e => hb (by rw [e]; simp [Rs.lr]))
  · simp only [Rs.lr, List.mem_cons, List.not_mem_nil, or_false] at hb
    rcases hb with rfl | rfl <;> simp [World.putObj, hlt, hlt2]
theorem env_start {a : Act} {p : Nat} {v : Value} (ha : Env n L a) (hp : p < n) : Env n ((p, v) :: L) { tmps := a.tmps.setIfInBounds p v, defers := [] } := by
  have := (ha.put hp v)
  exact ⟨by simpa [Act.put] using this.sz, rfl, fun t u hu => by have := this.at_ t u hu; simpa [Act.put] using this⟩
theorem lr_take {l D : Nat} {rc : Loop} {Hs : List Rs} (S : SH w M X (Rs.lr l D rc :: Hs)) : SH (w.putObj D (.deferred none)) M X Hs := by
  obtain ⟨h1, h2⟩ := S.ok (Rs.lr l D rc) (by simp)
  have S2 : SH (w.putObj D (.deferred none)) M X (Rs.emp :: Hs) := S.step (i := 0) (r := Rs.lr l D rc) rfl rfl ⟨rfl, rfl, rfl, by simp [World.putObj]⟩ (fun b _ hb => World.putObj_heap_other (fun e => hb (by rw [e]; simp [Rs.lr]))) trivial (fun b hb => by cases hb)
  exact S2.suf (N := [Rs.emp])
/-- The end of a function that holds such a loop: a variable is loaded and handed back. -/
theorem tail_la {fn : Func} {R : Ending → World → Prop} (hC : C.Q = bodyPostM Fence.wide 0 P fn R) {i : Nat} {o1 o2 : Oper} (hc : c = .seq (.region i #[o1, o2] false) .ret) {x : Operand} {T d1 d2 l D : Nat} {p : Addr} {v : Value} {dd : TypeDesc} {rc : Loop} {Hs : List Rs} {a : Act}
    (h1 : o1.op = .load T x) (g1 : o1.guard = none) (e1 : o1.dst = some d1) (h2 : o2.op = .assign (.tmp d1)) (g2 : o2.guard = none) (e2 : o2.dst = some d2) (ha : Env n L a) (hx : oev L x = some (.pointer (some p))) (hu : P.underlying T = some dd) (hd : flatD dd = true) (hn1 : Nat.blt d1 n = true) (hn2 : Nat.blt d2 n = true)
    (hres : fn.results = #[.tmp d2]) (S : SH w M X (Rs.lr l D rc :: Hs)) (hcell : w.cell? p = some v) (hR : ∀ w', SH w' M X Hs → R (.returned v) w') : c.wpIn C.F 0 P C.Q { a with defers := [{ target := .collected D, args := #[] }] } w := by
  subst hc
  obtain ⟨_, hD⟩ := S.ok (Rs.lr l D rc) (by simp)
  have r1 : (execOp a.eval o1).run P w = .ok (.value v) w := run_load1 h1 hx hu hd hcell n a ha
  have ha1 := ha.put (d := d1) (by simpa using hn1) v
  have r2 : (execOp (a.put (some d1) v).eval o2).run P w = .ok (.value v) w := run_assign h2 (by simp [oev, lk]) n _ ha1
  have ha2 := ha1.put (d := d2) (by simpa using hn2) v
  refine wpIn_seq ?_
  refine wpIn_region_list ?_
  show wpListIn C.F 0 P #[o1, o2] _ [o1, o2] _ w
  refine wpListIn_plain g1 fun K hK => ?_
  refine ⟨fun f _ => C.F_fn f, ?_⟩
  rw [Oper.semAt_eq _ _ _ (fun c e => by rw [e] at h1; cases h1), show (execOp ({ a with defers := [{ target := .collected D, args := #[] }] } : Act).eval o1).run P w = .ok (.value v) w from r1, Oper.uponIn_value, e1]
  refine hK _ _ ?_
  refine wpListIn_plain g2 fun K2 hK2 => ?_
  refine ⟨fun f _ => C.F_fn f, ?_⟩
  rw [Oper.semAt_eq _ _ _ (fun c e => by rw [e] at h2; cases h2), show (execOp (({ a with defers := [{ target := .collected D, args := #[] }] } : Act).put (some d1) v).eval o2).run P w = .ok (.value v) w from r2, Oper.uponIn_value, e2]
  refine hK2 _ _ ?_
  refine wpListIn_nil ?_
  refine wpIn_ret ?_
  rw [hC]
  refine ⟨by simp, .inl ⟨D, _, rfl, run_takeDeferred hD, ?_⟩⟩
  refine ⟨v, ?_, hR _ (lr_take S)⟩
  have hz := ha.sz
  have hd2 : d2 < n := by simpa using hn2
  simp only [Act.put]
  simp [results, hres]
  intro h
  omega
end
end InF
end Go.Proofs.Ytkcighnochjlgaa
namespace Go.Proofs.Ytkcighnochjlgaa
open Go.ChangeShapes Go.WideShapes Go.ChangeAt Go.RowKit
theorem SH.down {w : World} {M M' : Hp} {X : Fr} {H : List Rs} (S : SH w M' X H) (h : M.le M') : SH w M X H := by
  have hn : ∀ b, M' b = none → M b = none := fun b e => by
    cases hm : M b with
    | none => rfl
    | some o => rw [h b o hm] at e; cases e
  exact ⟨h.trans S.m, S.x, fun b o e => hn b (S.mx b o e), S.ok, fun r hr b hb => ⟨(S.bl r hr b hb).1, hn b (S.bl r hr b hb).2.1, (S.bl r hr b hb).2.2⟩, S.ap, S.like⟩
/-- No block stands in two things. -/
def apartL (H : List Rs) : Prop := H.Pairwise fun r s => ∀ b ∈ r.bl, b ∉ s.bl
theorem apart_iff {H : List Rs} : apartL H ↔ ∀ (i j : Nat) r s, i ≠ j → H[i]? = some r → H[j]? = some s → ∀ b ∈ r.bl, b ∉ s.bl := by
  unfold apartL
  rw [List.pairwise_iff_getElem]
  constructor
  · intro h i j r s hij hi hj b hb hbs
    obtain ⟨i1, e1⟩ := List.getElem?_eq_some_iff.1 hi
    obtain ⟨j1, e2⟩ := List.getElem?_eq_some_iff.1 hj
    rcases Nat.lt_or_ge i j with h1 | h1
    · exact h i j i1 j1 h1 b (by rw [e1]; exact hb) (by rw [e2]; exact hbs)
    · exact h j i j1 i1 (by omega) b (by rw [e2]; exact hbs) (by rw [e1]; exact hb)
  · intro h i j hi hj hij
    exact h i j _ _ (by omega) (List.getElem?_eq_getElem hi) (List.getElem?_eq_getElem hj)
section
variable {w : World} {M : Hp} {X : Fr} {A B H H' : List Rs}
theorem SH.perm (S : SH w M X H) (h : H.Perm H') : SH w M X H' :=
  ⟨S.m, S.x, S.mx, fun r hr => S.ok r (h.mem_iff.2 hr), fun r hr => S.bl r (h.mem_iff.2 hr), apart_iff.1 ((h.pairwise_iff (fun {_ _} hrs b hb hbr => hrs b hbr hb)).1 (apart_iff.2 S.ap)), S.like⟩
theorem SH.bunC (S : SH w M X (A ++ B)) : SH w M X (Rs.bun A :: B) := by
  have hap := apart_iff.2 S.ap
  obtain ⟨h1, h2, h3⟩ := List.pairwise_append.1 hap
  refine ⟨S.m, S.x, S.mx, fun r hr => ?_, fun r hr b hb => ?_, apart_iff.1 (List.pairwise_cons.2 ⟨fun s hs b hb => ?_, h2⟩), S.like⟩
  · rcases List.mem_cons.1 hr with rfl | hr
    · exact ⟨fun r hr => S.ok r (by simp [hr]), apart_iff.1 h1⟩
    · exact S.ok r (by simp [hr])
  · rcases List.mem_cons.1 hr with rfl | hr
    · obtain ⟨q, hq, hb⟩ := List.mem_flatMap.1 hb
      exact S.bl q (by simp [hq]) b hb
    · exact S.bl r (by simp [hr]) b hb
  · obtain ⟨q, hq, hb⟩ := List.mem_flatMap.1 hb
    exact h3 q hq s hs b hb
theorem SH.unbunC (S : SH w M X (Rs.bun A :: B)) : SH w M X (A ++ B) := by
  obtain ⟨hok, hap⟩ := S.ok (Rs.bun A) (by simp)
  obtain ⟨h1, h2⟩ := List.pairwise_cons.1 (apart_iff.2 S.ap)
  refine ⟨S.m, S.x, S.mx, fun r hr => ?_, fun r hr b hb => ?_, apart_iff.1 (List.pairwise_append.2 ⟨apart_iff.2 hap, h2, fun r hr s hs b hb => h1 s hs b (List.mem_flatMap.2 ⟨r, hr, hb⟩)⟩), S.like⟩
  · rcases List.mem_append.1 hr with hr | hr
    · exact hok r hr
    · exact S.ok r (by simp [hr])
  · rcases List.mem_append.1 hr with hr | hr
    · exact S.bl (Rs.bun A) (by simp) b (List.mem_flatMap.2 ⟨r, hr, hb⟩)
    · exact S.bl r (by simp [hr]) b hb
end
def rgA : Code → Code
  | .rangeFunc _ _ a _ => a
  | c => c
def rgB : Code → Code
  | .rangeFunc _ _ _ b => b
  | c => c
namespace InF
section
variable {P : Program} {n : Nat} {C : Ctx} {c : Code} {s : List K} {L : List (Nat × Value)} {w : World} {M : Hp} {X : Fr} {H : List Rs}
/-- What is asked of the function that is ranged over: from s0 on each value that it yields takes one step; in the end fin holds. -/
def IterX {σ : Type} (P : Program) (f : FuncId) (lb : List Value) (s0 : σ) (stp : σ → Value → σ → Prop) (fin : σ → Prop) (M : Hp) (X : Fr) : Prop :=
  ∀ (l : Nat) (J : σ → Hp → Rs → Prop) (w : World) (M1 : Hp) (B : Rs), M.le M1 →
    (∀ k v k' M' B' H0 w', stp k v k' → M1.le M' → SH w' M' X (B' :: H0) → J k M' B' → YieldAt Fence.wide 0 P l #[v] w' fun e w'' => ∃ u, e = .returned u ∧ u = .bool true ∧ ∃ M'' B'', M'.le M'' ∧ SH w'' M'' X (B'' :: H0) ∧ J k' M'' B'') →
    SH w M1 X [B] → J s0 M1 B → CallsIn Fence.wide 0 P f ((Value.func (.yield l) #[] #[]) :: lb).toArray w fun e w' => (∃ v, e = .returned v) ∧ ∃ k M' B', fin k ∧ M1.le M' ∧ SH w' M' X [B'] ∧ J k M' B'
theorem ws_rangeFuncX {σ : Type} {s0 : σ} {stp : σ → Value → σ → Prop} {fin : σ → Prop} {p : Nat} {g : Operand} {asg bd : Code} {f : FuncId} {lb : List Value} (hr : C.r = none) (hc : c = .rangeFunc g #[p] asg bd) (hp' : Nat.blt p n = true) (hg : oev L g = some (.func (.func f) #[] lb.toArray)) (hen : ∀ args w, (callFunc f args).run P w = .ok (.enter f args) w)
    (S : SH w M X H) (I : σ → Hp → List Rs → Prop) (I1 : σ → Act → Hp → List Rs → Prop) (h0 : I s0 M H) (hit : IterX P f lb s0 stp fin M X)
    (hassign : ∀ (k k' : σ) (v : Value) (M' : Hp) (H' : List Rs) (w' : World) (C' : Ctx) (R0 : Rs), stp k v k' → M.le M' → SH w' M' X (R0 :: H') → I k M' H' → WS P n C' asg [.lp (fun a w'' => ∃ M'' H'', M'.le M'' ∧ SH w'' M'' X (R0 :: H'') ∧ I1 k' a M'' H'')] ((p, v) :: L) w')
    (hbody : ∀ (k : σ) (M' : Hp) (H' : List Rs) (w' : World) (C' : Ctx) (R0 : Rs) (a : Act), M.le M' → SH w' M' X (R0 :: H') → I1 k a M' H' → bd.wpIn C'.F 0 P (post P C' [.lp (fun _ w'' => ∃ M'' H'', M'.le M'' ∧ SH w'' M'' X (R0 :: H'') ∧ I k M'' H'')]) a w')
    (hdone : ∀ (k : σ) (a : Act) (M' : Hp) (H' : List Rs) (w' : World) (D l : Nat) (rc : Loop), fin k → Env n L a → M.le M' → SH w' M' X (Rs.lr l D rc :: H') → I k M' H' → post P C s .normal { a with defers := [{ target := .collected D, args := #[] }] } w') : WS P n C c s L w := by
  have hF : C.F = Fence.wide := by unfold Ctx.F; rw [hr]
  intro a ha
  subst hc
  rw [hF]
  refine wpIn_rangeFunc ?_
  intro fn _
  rw [show Fence.wide.round = none from rfl]
  obtain ⟨rec, hrec⟩ : ∃ rec : LoopState → Loop, rec = fun st => { state := st, pending := none, fn, tmps := a.tmps, params := #[p], assign := asg, body := bd, defers := w.heap.size } := ⟨_, rfl⟩
  obtain ⟨W1, hW1⟩ : ∃ W1, (w.alloc (.deferred (some []))).alloc (.loop (rec .ready)) = W1 := ⟨_, rfl⟩
  have hL1 : W1.heap[w.heap.size + 1]? = some (.loop (rec .ready)) := by
    rw [← hW1]; have := World.alloc_heap_new (w.alloc (.deferred (some []))) (.loop (rec .ready)); rwa [World.size_alloc] at this
  have hK1 : W1.heap[w.heap.size]? = some (.deferred (some [])) := by
    rw [← hW1]; exact (Below.heap_alloc _ _ _ (by simp)).trans (World.alloc_heap_new w _)
  have hkeep : ∀ b, b < w.heap.size → hp W1 b = hp w b := fun b hb => by
    rw [← hW1]
    exact (keep_alloc (w.alloc (.deferred (some []))) _ b (by rw [size_al]; omega)).trans (keep_alloc w _ b hb)
  have S1 : SH W1 M X (Rs.lr (w.heap.size + 1) w.heap.size (rec .ready) :: H) := by
    have hl : Like w W1 := by rw [← hW1]; exact (like_alloc w _).trans (like_alloc _ _)
    refine S.cons hl hkeep ⟨hL1, hK1⟩ (fun b hb => ?_)
    have hsz : W1.heap.size = w.heap.size + 2 := by rw [← hW1, size_al, size_al]
    simp only [Rs.lr, List.mem_cons, List.not_mem_nil, or_false] at hb
    omega
  have hdf : a.defers = [] := ha.df
  refine ⟨w.heap.size + 1, [{ target := .collected w.heap.size, args := #[] }], W1, { target := .fn (.func f) lb.toArray, args := #[.func (.yield (w.heap.size + 1)) #[] #[]] }, W1, f,
    #[.func (.yield (w.heap.size + 1)) #[] #[]] ++ lb.toArray, W1, ?_, ?_, fun _ _ => trivial, ?_, fun h => (by cases h), ?_⟩
  · rw [← hW1, hrec]; exact run_enterLoop_outer _ _ _ _ _
  · simp only [resolve, ha.eval hg]
    simp [go_sem]
  · simp [invoke, go_sem, hen]
  · rw [show (#[.func (.yield (w.heap.size + 1)) #[] #[]] ++ lb.toArray : Array Value) = ((Value.func (.yield (w.heap.size + 1)) #[] #[]) :: lb).toArray from by simp]
    refine (hit (w.heap.size + 1) (fun k M' B => ∃ H', B = Rs.bun (Rs.lr (w.heap.size + 1) w.heap.size (rec .ready) :: H') ∧ I k M' H') W1 M _ (Hp.le_refl _) ?_ S1.bun ⟨H, rfl, h0⟩).mono ?_
    · rintro k v k' M' B' H0 w' hk hle SB ⟨H', rfl, hI⟩
      have sw : ∀ (q : Rs) (A : List Rs), (q :: A ++ H0).Perm (q :: H0 ++ A) := fun q A => by simpa using (List.perm_append_comm : (A ++ H0).Perm (H0 ++ A))
      have S' := SB.unbunC.perm (sw _ _)
      obtain ⟨hl, hD⟩ := S'.ok (Rs.lr (w.heap.size + 1) w.heap.size (rec .ready)) (by simp)
      have hy := run_yield (P := P) (args := #[v]) hl (by rw [hrec]; rfl)
      rw [hrec] at hy
      refine ⟨fn, _, asg, bd, hy, roundIn_of_wpIn trivial ?_⟩
      have hC' : (Ctx.mk (fun _ _ _ => False) (some (w.heap.size + 1))).F = Fence.wide.inRound (w.heap.size + 1) := rfl
      have e1 : ((#[p] : Array Tmp).zip #[v]).foldl (fun tmps (t, a) => tmps.setIfInBounds t a) a.tmps = a.tmps.setIfInBounds p v := by simp
      rw [← hC']
      have hA := hassign k k' v M' H' w' (Ctx.mk (fun _ _ _ => False) (some (w.heap.size + 1))) (Rs.bun (Rs.lr (w.heap.size + 1) w.heap.size (rec .ready) :: H0)) hk hle S'.bunC hI _ (env_start ha (by simpa using hp'))
      rw [e1]
      refine wpIn_mono hA ?_
      rintro e a2 w2 hq
      cases e with
      | normal =>
        obtain ⟨M2, H2, hle2, S2b, hI1⟩ := hq
        have S2 := S2b.unbunC
        obtain ⟨hl2, _⟩ := S2.ok (Rs.lr (w.heap.size + 1) w.heap.size (rec .ready)) (by simp)
        refine ⟨_, run_beginRound hl2 (by rw [hrec]), ?_⟩
        have S3 := lr_put (rc' := { rec .ready with state := .busy }) S2
        refine wpIn_mono (hbody k' M2 H2 _ (Ctx.mk (fun _ _ _ => False) (some (w.heap.size + 1))) _ a2 (hle.trans hle2) (SH.bunC (A := Rs.lr (w.heap.size + 1) w.heap.size { rec .ready with state := .busy } :: H0) (B := H2) S3) hI1) ?_
        rintro e a3 w3 hq3
        cases e with
        | normal =>
          obtain ⟨M4, H4, hle4, S4b, hI4⟩ := hq3
          have S4 := S4b.unbunC
          obtain ⟨hl4, _⟩ := S4.ok (Rs.lr (w.heap.size + 1) w.heap.size { rec .ready with state := .busy }) (by simp)
          have he := run_endRound (P := P) none hl4
          have S5 := lr_put (rc' := rec .ready) S4
          refine ⟨_, _, he, _, rfl, rfl, M4, Rs.bun (Rs.lr (w.heap.size + 1) w.heap.size (rec .ready) :: H4), hle2.trans hle4, ?_, H4, rfl, hI4⟩
          have e2 : ({ ({ rec .ready with state := .busy } : Loop) with state := (if (none : Option Code).isNone = true then LoopState.ready else LoopState.done), pending := none } : Loop) = rec .ready := by rw [hrec]; rfl
          rw [e2]
          exact SH.bunC (A := Rs.lr (w.heap.size + 1) w.heap.size (rec .ready) :: H4) (B := H0) (SH.perm (H := Rs.lr (w.heap.size + 1) w.heap.size (rec .ready) :: H0 ++ H4) S5 (sw (Rs.lr (w.heap.size + 1) w.heap.size (rec .ready)) H4).symm)
        | _ => exact hq3.elim
      | _ => exact hq.elim
    · rintro e w2 ⟨⟨v, rfl⟩, k, M', B', hfin, hle, SB, H', rfl, hI⟩
      have S' := SB.unbun
      obtain ⟨hl, hD⟩ := S'.ok (Rs.lr (w.heap.size + 1) w.heap.size (rec .ready)) (by simp)
      have he := run_endLoop (P := P) hl (by rw [hrec]; simp)
      refine ⟨none, w2.putObj (w.heap.size + 1) (.loop { rec .ready with state := .exhausted }), by rw [he, hrec], ?_⟩
      have := hdone k a M' H' _ w.heap.size (w.heap.size + 1) _ hfin ha hle (lr_put (rc' := { rec .ready with state := .exhausted }) S') hI
      rw [hdf]
      exact this
end
end InF
end Go.Proofs.Ytkcighnochjlgaa
namespace Go.Proofs.Ytkcighnochjlgaa
open Go.ChangeShapes Go.WideShapes Go.ChangeAt Go.RowKit
def KeysR (g : Nat) (u : Value) (M : Hp) : Prop := ∃ b, u = .func (.func 135) #[] [.pointer (some ⟨b, 0, none⟩)].toArray ∧ BxM M b 84 [.map (some g)]
theorem SH.pubB2 {w : World} {M : Hp} {X : Fr} {H H' : List Rs} {i g : Nat} {T : TypeId} {l : List Value} (S : SH w M X H) (hi : nth H i = some (Rs.box g T l)) (hH : H.set i Rs.emp = H') : ∃ M', M.le M' ∧ SH w M' X H' ∧ BxM M' g T l := by
 obtain ⟨h1, h2, h3⟩ := S.pub hi hH
 refine ⟨_, h1, h2, ?_⟩
 show (M.put w _) g = _
 rw [h3 g (by simp [Rs.box])]
 exact S.get hi
/-- One key more. -/
def stpK (s : List Int × List Int) (v : Value) (s' : List Int × List Int) : Prop := ∃ dn l1 x l2, s = (dn, l1 ++ x :: l2) ∧ v = .int .i64 x ∧ s' = (dn ++ [x], l1 ++ l2)
noncomputable def Keys_n0 : Code := Try.f100.body.getD .skip
noncomputable def Keys_n1 : Code := cL Keys_n0
noncomputable def Keys_n2 : Code := cR Keys_n0
noncomputable def Keys_n3 : Code := cL Keys_n2
noncomputable def Keys_n4 : Code := cR Keys_n2
set_option maxRecDepth 10000 in
theorem Keys_t {w : World} {M : Hp} {X : Fr} (es : List (Int × Int)) {ges : Nat} (hmes : MpOk (Value.int .i64) (Value.int .i64) ges es M) (S : SH w M X []) : Ct Try.prog 100 [.map (some ges)] w M X (KeysR ges) := by
 unfold Ct
 refine calls_in (b := Keys_n0) Try.func100 rfl Try.ntmps100 rfl (fun C hC => ?_)
 refine ws_sub [(0, _)] ⟨rfl, trivial⟩ ?_
 refine ws_seqN Keys_n1 Keys_n2 rfl rfl rfl ?_
 refine ws_region rfl ?_
 refine wl_op (k := 0) (k' := 1) rfl rfl rfl (wo_box (l := [_]) rfl rfl rfl rfl rfl S ?_)
 intro gb1 w1 S1; clear S
 refine wl_op (k := 1) (k' := 2) rfl rfl rfl (wo_run rfl rfl (run_assign rfl rfl) ?_)
 refine wl_end rfl ?_
 refine nm_sub [(1, _)] ⟨rfl, trivial⟩ ?_
 refine nm_thn ?_
 refine ws_seqN Keys_n3 Keys_n4 rfl rfl rfl ?_
 refine ws_region rfl ?_
 refine wl_op (k := 0) (k' := 1) rfl rfl rfl (wo_run rfl rfl (run_makeFunc (vs := [_]) rfl rfl rfl rfl) ?_)
 refine wl_op (k := 1) (k' := 2) rfl rfl rfl (wo_run rfl rfl (run_assign rfl rfl) ?_)
 refine wl_end rfl ?_
 refine nm_sub [(2, _)] ⟨rfl, trivial⟩ ?_
 refine nm_thn ?_
 obtain ⟨M1, hle1, S2, hbx1⟩ := S1.pubB2 (i := 0) (H' := [_]) rfl rfl
 clear S1
 replace hmes := hmes.mono hle1
 refine ws_ret hC [_] rfl rfl ⟨rfl, trivial⟩ ?_
 refine ⟨_, rfl, _, hle1, (S2.pick [] [] (by decide) trivial), ?_⟩
 exact ⟨_, rfl, hbx1⟩
namespace InF
noncomputable def Keys1_n0 : Code := Try.f135.body.getD .skip
noncomputable def Keys1_n1 : Code := cL Keys1_n0
noncomputable def Keys1_n2 : Code := cR Keys1_n0
noncomputable def Keys1_n3 : Code := cL Keys1_n2
noncomputable def Keys1_n4 : Code := cL Keys1_n3
noncomputable def Keys1_n5 : Code := cL Keys1_n4
noncomputable def Keys1_n6 : Code := cR Keys1_n4
noncomputable def Keys1_n7 : Code := cL Keys1_n6
noncomputable def Keys1_n8 : Code := cR Keys1_n6
noncomputable def Keys1_n9 : Code := cL Keys1_n7
noncomputable def Keys1_n10 : Code := cR Keys1_n7
noncomputable def Keys1_n11 : Code := cL Keys1_n8
noncomputable def Keys1_n12 : Code := cL Keys1_n11
noncomputable def Keys1_n13 : Code := cR Keys1_n11
noncomputable def Keys1_n14 : Code := cL Keys1_n13
noncomputable def Keys1_n15 : Code := cR Keys1_n13
noncomputable def Keys1_n17 : Code := cR Keys1_n15
set_option maxRecDepth 10000 in
theorem Keys1_iter {M : Hp} {X : Fr} {es : List (Int × Int)} {gm b : Nat} (hm : MpOk (Value.int .i64) (Value.int .i64) gm es M) (hbx : BxM M b 84 [.map (some gm)]) : IterX Try.prog 135 [.pointer (some ⟨b, 0, none⟩)] ([], es.map Prod.fst) stpK (fun s => s.2 = []) M X := by
 intro l J w M1 B hle0 hY S hJ0
 replace hm := hm.mono hle0
 replace hbx := hbx.mono hle0
 refine calls_in (b := Keys1_n0) Try.func135 rfl Try.ntmps135 rfl (fun C hCr hC => ?_)
 have hCF : C.F = Fence.wide := by unfold Ctx.F; rw [hCr]
 refine ws_sub [(0, _), (1, _)] ⟨rfl, rfl, trivial⟩ ?_
 refine ws_seqN Keys1_n1 Keys1_n2 rfl rfl rfl ?_
 refine ws_region rfl ?_
 refine wl_op (k := 0) (k' := 1) rfl rfl rfl (wo_run rfl rfl (run_load1 rfl rfl Try.underlying84 rfl (hbx.cell S.m rfl)) ?_)
 obtain ⟨arr1, clk1, hE1⟩ := hm.ents
 refine wl_op (k := 1) (k' := 2) rfl rfl rfl (wo_range rfl rfl rfl rfl Try.underlying84 S hE1 S.m ?_)
 intro r1 w1 S1; clear S
 refine wl_end rfl ?_
 refine nm_sub [(0, _), (5, _)] ⟨rfl, rfl, trivial⟩ ?_
 refine nm_thn ?_
 refine ws_blockN Keys1_n3 0 rfl rfl rfl ?_
 refine ws_loopE (fun mx_ ax_ wx_ => ∃ (sn : Array Nat) (dn : List (Int × Int)) (lf : List (Int × Int)) (B1 : Rs) (M2 : Hp), M1.le M2 ∧ mx_ = lf.length ∧ Env 14 [(0, .func (.yield l) #[] #[]), (5, .pointer (some ⟨r1, 0, none⟩))] ax_ ∧ SH wx_ M2 X [Rs.itr gm clk1 r1 sn, B1] ∧ Lft (Value.int .i64) (Value.int .i64) arr1 sn lf ∧ (dn ++ lf).Perm es ∧ J (dn.map Prod.fst, lf.map Prod.fst) M2 B1) rfl ?_ ?_
 ·intro ax_ hax_
  refine ⟨_, ⟨#[], [], es, _, _, Hp.le_refl _, rfl, hax_.sub ⟨rfl, rfl, trivial⟩, S1.pick [0, 1] [_, _] (by decide) ⟨rfl, rfl, trivial⟩, ?hq1f0, ?hq1f1, ?hq1f2⟩⟩
  case hq1f0 => exact hE1.lft
  case hq1f1 => exact List.Perm.refl _
  case hq1f2 => exact hJ0
 ·rintro m1 a1 w2 ⟨sn, dn, lf, B1, M2, hle1, rfl, he1, S2, hlf, hpm, hJa⟩
  clear S1
  refine ws_in he1 (c := Keys1_n4) rfl ?_
  clear he1 a1
  replace hbx := hbx.mono hle1
  replace hm := hm.mono hle1
  replace hE1 := hE1.mono hle1
  refine ws_seqN Keys1_n5 Keys1_n6 rfl rfl rfl ?_
  refine ws_region rfl ?_
  refine wl_op (k := 0) (k' := 1) rfl rfl rfl (wo_next (i := 0) rfl rfl rfl rfl S2 rfl hE1 S2.m hlf (fun hlf1 => ?_) (fun k1 v1 l1_1 l2_1 sn1 w3 hlf1 hlft1 hlst1 S3 => ?_))
  ·refine wl_op (k := 1) (k' := 2) rfl rfl rfl (wo_run rfl rfl (run_extract rfl rfl rfl) ?_)
   refine wl_end rfl ?_
   refine nm_sub [(0, _), (5, _), (7, _)] ⟨rfl, rfl, rfl, trivial⟩ ?_
   refine nm_thn ?_
   refine ws_seqN Keys1_n7 Keys1_n8 rfl rfl rfl ?_
   refine ws_condFN Keys1_n10 rfl rfl rfl ?_
   refine ws_exit rfl rfl ?_
   refine nm_end hC [] rfl trivial ?_
   obtain rfl : lf = [] := hlf1
   exact ⟨⟨_, rfl⟩, _, _, _, rfl, hle1, S2.pick [1] [_] (by decide) ⟨rfl, trivial⟩, hJa⟩
  ·clear S2
   change SH _ _ _ [Rs.itr gm clk1 r1 sn1, _] at S3
   refine wl_op (k := 1) (k' := 2) rfl rfl rfl (wo_run rfl rfl (run_extract rfl rfl rfl) ?_)
   refine wl_end rfl ?_
   refine nm_sub [(0, _), (5, _), (7, _)] ⟨rfl, rfl, rfl, trivial⟩ ?_
   refine nm_thn ?_
   refine ws_seqN Keys1_n7 Keys1_n8 rfl rfl rfl ?_
   refine ws_condTN Keys1_n9 rfl rfl rfl ?_
   refine ws_skip rfl ?_
   refine nm_sub [(0, _), (5, _)] ⟨rfl, rfl, trivial⟩ ?_
   refine nm_thn ?_
   refine ws_blockN Keys1_n11 1 rfl rfl rfl ?_
   refine ws_seqN Keys1_n12 Keys1_n13 rfl rfl rfl ?_
   refine ws_region rfl ?_
   refine wl_op (k := 0) (k' := 1) rfl rfl rfl (wo_run rfl rfl (run_entry (i := 0) rfl rfl S3 rfl hE1 S3.m hlst1) ?_)
   refine wl_op (k := 1) (k' := 2) rfl rfl rfl (wo_run rfl rfl (run_extract rfl rfl rfl) ?_)
   refine wl_op (k := 2) (k' := 3) rfl rfl rfl (wo_run rfl rfl (run_assign rfl rfl) ?_)
   refine wl_end rfl ?_
   refine nm_sub [(0, _), (5, _), (3, _)] ⟨rfl, rfl, rfl, trivial⟩ ?_
   refine nm_thn ?_
   refine ws_seqN Keys1_n14 Keys1_n15 rfl rfl rfl ?_
   refine ws_region rfl ?_
   refine wl_op (k := 0) (k' := 1) rfl rfl rfl (wo_run rfl rfl (run_move rfl rfl) ?_)
   refine wl_op (k := 1) (k' := 2) rfl rfl rfl (wo_run rfl rfl (run_move rfl rfl) ?_)
   have hst : stpK (dn.map Prod.fst, lf.map Prod.fst) (.int .i64 k1) ((dn ++ [(k1, v1)]).map Prod.fst, (l1_1 ++ l2_1).map Prod.fst) := ⟨dn.map Prod.fst, l1_1.map Prod.fst, k1, l2_1.map Prod.fst, by rw [hlf1]; simp, rfl, by simp⟩
   have S4 := S3.perm (List.Perm.swap _ _ _)
   refine wl_yield (k := 2) (k' := 3) rfl rfl rfl rfl rfl rfl rfl rfl rfl rfl (by rw [hCF]; exact hY _ _ _ _ _ [_] _ hst (hle1) S4 hJa) ?_
   rintro _ w4 ⟨rfl, M3, B6, hle2, S5, hJ1⟩; clear S3
   replace hbx := hbx.mono hle2
   replace hm := hm.mono hle2
   replace hE1 := hE1.mono hle2
   refine wl_op (k := 3) (k' := 4) rfl rfl rfl (wo_run rfl rfl (run_not rfl rfl) ?_)
   refine wl_end rfl ?_
   refine nm_sub [(0, _), (5, _), (13, _)] ⟨rfl, rfl, rfl, trivial⟩ ?_
   refine nm_thn ?_
   refine ws_condFN Keys1_n17 rfl rfl rfl ?_
   refine ws_skip rfl ?_
   refine nm_blk ?_
   refine nm_lp ?_
   intro ax_ hax_
   refine ⟨_, ?hq2m, ⟨sn1, dn ++ [(k1, v1)], l1_1 ++ l2_1, _, _, (hle1.trans hle2), rfl, hax_.sub ⟨rfl, rfl, trivial⟩, S5.pick [1, 0] [_, _] (by decide) ⟨rfl, rfl, trivial⟩, ?hq2f0, ?hq2f1, ?hq2f2⟩⟩
   case hq2f0 => assumption
   case hq2f1 => (refine List.Perm.trans ?_ hpm; simp only [*, List.append_assoc, List.cons_append, List.nil_append]; exact (List.perm_append_left_iff _).2 (List.perm_middle.symm))
   case hq2f2 => assumption
   case hq2m => (simp only [*, List.length_append, List.length_cons]; omega)
end InF
noncomputable def ASeq_rf : Code := cL (cR (cL (cR (Try.f151.body.getD .skip))))
/-- What holds between two rounds. -/
def ASeqI (ks : List Int) (g2 : Nat) (s : List Int × List Int) (M : Hp) (H : List Rs) : Prop := ∃ v, H = [Rs.row cdInt v s.1, Rs.box g2 36 [v]] ∧ (s.1 ++ s.2).Perm ks
def ASeqI1 (ks : List Int) (g2 : Nat) (s : List Int × List Int) (a : Act) (M : Hp) (H : List Rs) : Prop := ∃ v dn x, Env 13 [(2, .pointer (some ⟨g2, 0, none⟩)), (5, .int .i64 x)] a ∧ H = [Rs.row cdInt v dn, Rs.box g2 36 [v]] ∧ s.1 = dn ++ [x] ∧ (s.1 ++ s.2).Perm ks
namespace InF
set_option maxRecDepth 10000 in
theorem ASeq_assign {w : World} {M : Hp} {X : Fr} {ks : List Int} {gq2 : Nat} {C : Ctx} {R0 : Rs} {H : List Rs} {L : List (Nat × Value)} {k k1 : List Int × List Int} {u : Value} (hL : Sub L [(2, .pointer (some ⟨gq2, 0, none⟩)), (7, u)]) (hst : stpK k u k1) (S : SH w M X (R0 :: H)) (hI : ASeqI ks gq2 k M H) :
  WS Try.prog 13 C (rgA ASeq_rf) [.lp (fun a w2 => ∃ M2 H2, M.le M2 ∧ SH w2 M2 X (R0 :: H2) ∧ ASeqI1 ks gq2 k1 a M2 H2)] L w := by
 obtain ⟨dn, l1, x, l2, rfl, rfl, rfl⟩ := hst
 obtain ⟨vro, rfl, hpm⟩ := hI
 change SH w M X [R0, Rs.row cdInt vro dn, _] at S
 refine ws_sub _ hL ?_
 refine ws_region rfl ?_
 refine wl_op (k := 0) (k' := 1) rfl rfl rfl (wo_run rfl rfl (run_assign rfl rfl) ?_)
 refine wl_end rfl ?_
 refine nm_lp ?_
 intro ax_ hax_
 refine ⟨M, _, Hp.le_refl _, S.pick [0, 1, 2] [_, _, _] (by decide) ⟨rfl, rfl, rfl, trivial⟩, vro, dn, x, hax_.sub ⟨rfl, rfl, trivial⟩, rfl, rfl, ?_⟩
 refine List.Perm.trans ?_ hpm
 show ((dn ++ [x]) ++ (l1 ++ l2)).Perm (dn ++ (l1 ++ x :: l2))
 rw [List.append_assoc]
 exact (List.perm_append_left_iff _).2 (show (x :: (l1 ++ l2)).Perm (l1 ++ x :: l2) from List.perm_middle.symm)
noncomputable def ASeqB_n1 : Code := rgB ASeq_rf
noncomputable def ASeqB_n2 : Code := cL ASeqB_n1
set_option maxRecDepth 10000 in
theorem ASeq_body {w : World} {M : Hp} {X : Fr} {ks : List Int} {gq2 : Nat} (hks : ks.length ≤ 2199023255553) {C : Ctx} {R0 : Rs} {H : List Rs} {a : Act} {k : List Int × List Int} (S : SH w M X (R0 :: H)) (hI1 : ASeqI1 ks gq2 k a M H) :
  (rgB ASeq_rf).wpIn C.F 0 Try.prog (post Try.prog C [.lp (fun _ w2 => ∃ M2 H2, M.le M2 ∧ SH w2 M2 X (R0 :: H2) ∧ ASeqI ks gq2 k M2 H2)]) a w := by
 obtain ⟨vro, dn, x, ha, rfl, hd, hpm⟩ := hI1
 obtain ⟨k1, lf⟩ := k
 dsimp only at hd hpm
 subst hd
 have hlen := hpm.length_eq
 simp only [List.length_append, List.length_cons, List.length_nil] at hlen
 change SH w M X [R0, Rs.row cdInt vro dn, _] at S
 refine ws_in ha (c := rgB ASeq_rf) rfl ?_
 refine ws_blockN ASeqB_n2 1 rfl rfl rfl ?_
 refine ws_region rfl ?_
 refine wl_op (k := 0) (k' := 1) rfl rfl rfl (wo_run rfl rfl (run_load1 rfl rfl Try.underlying36 rfl (S.boxc (i := 2) rfl rfl)) ?_)
 refine wl_op (k := 1) (k' := 2) rfl rfl rfl (wo_run rfl rfl (run_move rfl rfl) ?_)
 refine wl_op (k := 2) (k' := 3) rfl rfl rfl (wo_buildSlice1 (C := cdInt) (l := [_]) rfl rfl rfl rfl sl36 rfl rfl rfl rfl S ?_)
 intro gb1 w1 S1; clear S
 refine wl_op (k := 3) (k' := 4) rfl rfl rfl (wo_append1 (C := cdInt) (i := 2) (q := 0) x rfl rfl rfl rfl rfl rfl rfl rfl sl36 S1 rfl rfl rfl (by show (_ + 1) * 8 ≤ _; first | omega | (simp only [lens]; omega)) ?_)
 intro vro1 w2 S2; clear S1
 have S3 := S2.pick [1, 2, 3] [_, _, _] (by decide) ⟨rfl, rfl, rfl, trivial⟩; clear S2
 refine wl_op (k := 4) (k' := 5) rfl rfl rfl (wo_storeB (i := 2) (us := [_]) (l' := [_]) (H' := [_, _, _]) rfl rfl S3 rfl rfl rfl (S3.cells1 (i := 1) rfl) sz36 rfl (ones_cons (S3.one (i := 1) rfl) rfl) rfl rfl ?_)
 intro w3 S4; clear S3
 refine wl_end rfl ?_
 refine nm_blk ?_
 refine nm_lp ?_
 intro ax_ hax_
 exact ⟨_, _, Hp.le_refl _, S4.pick [0, 1, 2] [_, _, _] (by decide) ⟨rfl, rfl, rfl, trivial⟩, _, rfl, hpm⟩
noncomputable def ASeq_n0 : Code := Try.f151.body.getD .skip
noncomputable def ASeq_n1 : Code := cL ASeq_n0
noncomputable def ASeq_n2 : Code := cR ASeq_n0
noncomputable def ASeq_n3 : Code := cL ASeq_n2
noncomputable def ASeq_n4 : Code := cR ASeq_n2
noncomputable def ASeq_n5 : Code := cL ASeq_n3
noncomputable def ASeq_n6 : Code := cR ASeq_n3
noncomputable def ASeq_n7 : Code := cL ASeq_n6
set_option maxRecDepth 10000 in
theorem AppendSeq_o {w : World} {M : Hp} {X : Fr} {es : List (Int × Int)} {gm b : Nat} (hm : MpOk (Value.int .i64) (Value.int .i64) gm es M) (hbx : BxM M b 84 [.map (some gm)]) (hks : (es.map Prod.fst).length ≤ 2199023255553) (S : SH w M X []) : Co Try.prog 151 [.slice none 0 0, .func (.func 135) #[] [.pointer (some ⟨b, 0, none⟩)].toArray] w M X fun u N => ∃ ks, ks.Perm (es.map Prod.fst) ∧ N = [Rs.row cdInt u ks] := by
 unfold Co
 refine calls_marks (b := ASeq_n0) Try.func151 rfl Try.ntmps151 rfl (fun C hCr hC => ?_)
 refine ws_sub [(0, _), (1, _)] ⟨rfl, rfl, trivial⟩ ?_
 refine ws_seqN ASeq_n1 ASeq_n2 rfl rfl rfl ?_
 refine ws_region rfl ?_
 refine wl_op (k := 0) (k' := 1) rfl rfl rfl (wo_box (l := [_]) rfl rfl rfl rfl rfl S ?_)
 intro gb1 w1 S1; clear S
 refine wl_op (k := 1) (k' := 2) rfl rfl rfl (wo_run rfl rfl (run_assign rfl rfl) ?_)
 refine wl_end rfl ?_
 refine nm_sub [(1, _), (2, _)] ⟨rfl, rfl, trivial⟩ ?_
 refine nm_thn ?_
 refine ws_seqN ASeq_n3 ASeq_n4 rfl rfl rfl ?_
 refine ws_seqN ASeq_n5 ASeq_n6 rfl rfl rfl ?_
 refine ws_region rfl ?_
 refine wl_op (k := 0) (k' := 1) rfl rfl rfl (wo_run rfl rfl (run_move rfl rfl) ?_)
 refine wl_end rfl ?_
 refine nm_sub [(2, _), (6, _)] ⟨rfl, rfl, trivial⟩ ?_
 refine nm_thn ?_
 refine ws_blockN ASeq_n7 0 rfl rfl rfl ?_
 have S9 := (S1.nilrow cdInt)
 refine ws_rangeFuncX (p := 7) (f := 135) (lb := [_]) (asg := rgA ASeq_rf) (bd := rgB ASeq_rf) hCr rfl rfl rfl cf135 S9 (ASeqI (es.map Prod.fst) gb1) (ASeqI1 (es.map Prod.fst) gb1) ?_ (Keys1_iter hm hbx) ?_ ?_ ?_
 ·exact ⟨.slice none 0 0, rfl, List.Perm.refl _⟩
 ·intro k k1 v M' H' w' C' R0 hk hle S' hI
  exact ASeq_assign ⟨rfl, rfl, trivial⟩ hk S' hI
 ·intro k M' H' w' C' R0 a hle S' hI1
  exact ASeq_body hks S' hI1
 ·intro k a M' H' w' D l rc hfin ha hle S' hI
  obtain ⟨dn, lf⟩ := k
  obtain rfl : lf = [] := hfin
  obtain ⟨vro, rfl, hpm⟩ := hI
  change SH w' M' X [Rs.lr l D rc, Rs.row cdInt vro dn, _] at S'
  refine tail_la (c := ASeq_n4) (i := 4) (d1 := 12) (d2 := 4) (v := vro) hC rfl rfl rfl rfl rfl rfl rfl ha rfl Try.underlying36 rfl rfl rfl rfl S' (S'.boxc (i := 2) rfl rfl) (fun w2 S2 => ?_)
  refine ⟨_, rfl, [Rs.row cdInt vro dn], (S2.down hle).pick [0] [_] (by decide) ⟨rfl, trivial⟩, dn, ?_, rfl⟩
  simpa using hpm
end InF
end Go.Proofs.Ytkcighnochjlgaa
namespace Go.Proofs.Ytkcighnochjlgaa
open Go.Shelf
def srtL_ren : Go.Shelf.Ren := ⟨fun | 189 => 134 | 125 => 153 | 257 => 152 | 128 => 165 | 129 => 166 | 294 => 156 | 295 => 157 | 296 => 158 | 297 => 159 | 298 => 160 | 299 => 161 | 216 => 162 | 300 => 163 | 301 => 164 | 328 => 167 | 329 => 168 | 330 => 169 | 331 => 170 | 332 => 171 | 215 => 172 | 343 => 173 | n => n, fun | 28 => 36 | 3 => 3 | 46 => 152 | 0 => 0 | 51 => 188 | 53 => 190 | 4 => 4 | 183 => 213 | 182 => 212 | 131 => 218 | 5 => 5 | 9 => 9 | 218 => 220 | 222 => 224 | 228 => 226 | 229 => 227 | n => n, fun | n => n⟩
theorem srtL : Go.Proofs.Lays.n189 Try.prog srtL_ren := {
  mixed := by kernel_rfl
  f125 := Try.func153.trans (congrArg some (by kernel_rfl))
  f128 := Try.func165.trans (congrArg some (by kernel_rfl))
  f129 := Try.func166.trans (congrArg some (by kernel_rfl))
  f189 := Try.func134.trans (congrArg some (by kernel_rfl))
  f215 := Try.func172.trans (congrArg some (by kernel_rfl))
  f216 := Try.func162.trans (congrArg some (by kernel_rfl))
  f257 := Try.func152.trans (congrArg some (by kernel_rfl))
  f294 := Try.func156.trans (congrArg some (by kernel_rfl))
  f295 := Try.func157.trans (congrArg some (by kernel_rfl))
  f296 := Try.func158.trans (congrArg some (by kernel_rfl))
  f297 := Try.func159.trans (congrArg some (by kernel_rfl))
  f298 := Try.func160.trans (congrArg some (by kernel_rfl))
  f299 := Try.func161.trans (congrArg some (by kernel_rfl))
  f300 := Try.func163.trans (congrArg some (by kernel_rfl))
  f301 := Try.func164.trans (congrArg some (by kernel_rfl))
  f328 := Try.func167.trans (congrArg some (by kernel_rfl))
  f329 := Try.func168.trans (congrArg some (by kernel_rfl))
  f330 := Try.func169.trans (congrArg some (by kernel_rfl))
  f331 := Try.func170.trans (congrArg some (by kernel_rfl))
  f332 := Try.func171.trans (congrArg some (by kernel_rfl))
  f343 := Try.func173.trans (congrArg some (by kernel_rfl))
  t0 := Try.underlying0
  a0 := Try.isAgg0
  z0 := Try.sizeOf0
  v0 := Try.zeroValue0
  t3 := Try.underlying3
  a3 := Try.isAgg3
  z3 := Try.sizeOf3
  v3 := Try.zeroValue3
  t4 := Try.underlying4
  a4 := Try.isAgg4
  z4 := Try.sizeOf4
  v4 := Try.zeroValue4
  t5 := Try.underlying5
  a5 := Try.isAgg5
  z5 := Try.sizeOf5
  v5 := Try.zeroValue5
  t9 := Try.underlying9
  a9 := Try.isAgg9
  z9 := Try.sizeOf9
  v9 := Try.zeroValue9
  t28 := Try.underlying36
  a28 := Try.isAgg36
  z28 := Try.sizeOf36
  v28 := Try.zeroValue36
  t46 := Try.underlying152
  a46 := Try.isAgg152
  z46 := Try.sizeOf152
  v46 := Try.zeroValue152
  t51 := Try.underlying188
  a51 := Try.isAgg188
  z51 := Try.sizeOf188
  v51 := Try.zeroValue188
  t53 := Try.underlying190
  a53 := Try.isAgg190
  z53 := Try.sizeOf190
  v53 := Try.zeroValue190
  t131 := Try.underlying218
  a131 := Try.isAgg218
  z131 := Try.sizeOf218
  v131 := Try.zeroValue218
  t182 := Try.underlying212
  a182 := Try.isAgg212
  z182 := Try.sizeOf212
  v182 := Try.zeroValue212
  t183 := Try.underlying213
  a183 := Try.isAgg213
  z183 := Try.sizeOf213
  v183 := Try.zeroValue213
  t218 := Try.underlying220
  a218 := Try.isAgg220
  z218 := Try.sizeOf220
  v218 := Try.zeroValue220
  t222 := Try.underlying224
  a222 := Try.isAgg224
  z222 := Try.sizeOf224
  v222 := Try.zeroValue224
  t228 := Try.underlying226
  a228 := Try.isAgg226
  z228 := Try.sizeOf226
  v228 := Try.zeroValue226
  t229 := Try.underlying227
  a229 := Try.isAgg227
  z229 := Try.sizeOf227
  v229 := Try.zeroValue227 }
theorem sort_w {w : World} {M : Hp} {X : Fr} {v : Value} {xs : List Int} (hsz : xs.length < 4611686018427387904) (S : SH w M X [Rs.row cdInt v xs]) :
    C1 Try.prog 134 [v] w M X fun u M' r' => u = .tuple #[] ∧ M' = M ∧ r' = Rs.row cdInt v (srt xs) := c1_sort srtL hsz S
end Go.Proofs.Ytkcighnochjlgaa
