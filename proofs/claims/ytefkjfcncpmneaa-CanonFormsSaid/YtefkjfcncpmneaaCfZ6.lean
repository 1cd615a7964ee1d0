/- Part 6 of the proof of the law CanonForms: the walks through its functions and the plain laws that they need. -/
import Derived.Test.YtefkjfcncpmneaaCfZ5
import Derived.Maps.RangeRun
import Derived.Lib.AppendZeros
set_option linter.unusedSimpArgs false
set_option linter.unusedVariables false
namespace Go.Proofs.Ytefkjfcncpmneaa
open Go.ChangeShapes Go.WideShapes Go.ChangeAt Go.RowKit
noncomputable def isNaN_n0 : Code := Try.f121.body.getD .skip
noncomputable def isNaN_n1 : Code := cL isNaN_n0
noncomputable def isNaN_n2 : Code := cR isNaN_n0
noncomputable def isNaN_n3 : Code := cL isNaN_n2
noncomputable def isNaN_n4 : Code := cR isNaN_n2
set_option maxRecDepth 10000 in
theorem isNaN_q {w : World} {M : Hp} {X : Fr} (x : Int) (S : SH w M X []) : Cq Try.prog 121 [.int .i64 x] w M X (fun u => u = .bool false) := by
 unfold Cq
 refine calls_in (b := isNaN_n0) Try.func121 rfl Try.ntmps121 rfl (fun C hC => ?_)
 refine ws_sub [(0, _)] ⟨rfl, trivial⟩ ?_
 refine ws_seqN isNaN_n1 isNaN_n2 rfl rfl rfl ?_
 refine ws_region rfl ?_
 refine wla 0 1 rfl rfl rfl rfl rfl rfl rfl ?_
 refine wl_end rfl ?_
 refine nm_sub [(0, _)] ⟨rfl, trivial⟩ ?_
 refine nm_thn ?_
 refine ws_seqN isNaN_n3 isNaN_n4 rfl rfl rfl ?_
 refine ws_region rfl ?_
 refine wlm 0 1 rfl rfl rfl rfl rfl rfl rfl ?_
 refine wlm 1 2 rfl rfl rfl rfl rfl rfl rfl ?_
 refine wlo 2 3 rfl rfl rfl (wo_run rfl rfl (run_neq rfl rfl rfl) ?_)
 refine wla 3 4 rfl rfl rfl rfl rfl rfl rfl ?_
 refine wl_end rfl ?_
 refine nm_sub [(2, _)] ⟨rfl, trivial⟩ ?_
 refine nm_thn ?_
 refine ws_ret hC [_] rfl rfl ⟨rfl, trivial⟩ ?_
 exact ⟨_, rfl, (S.pick [] [] (by decide) trivial), (by show Value.bool _ = _; simp)⟩
def cmpI (x y : Int) : Int := if x < y then -1 else if y < x then 1 else 0
noncomputable def CompareI_n0 : Code := Try.f98.body.getD .skip
noncomputable def CompareI_n1 : Code := cL CompareI_n0
noncomputable def CompareI_n2 : Code := cR CompareI_n0
noncomputable def CompareI_n3 : Code := cL CompareI_n2
noncomputable def CompareI_n4 : Code := cR CompareI_n2
noncomputable def CompareI_n5 : Code := cL CompareI_n4
noncomputable def CompareI_n6 : Code := cR CompareI_n4
noncomputable def CompareI_n7 : Code := cL CompareI_n6
noncomputable def CompareI_n8 : Code := cR CompareI_n6
noncomputable def CompareI_n9 : Code := cL CompareI_n7
noncomputable def CompareI_n10 : Code := cR CompareI_n7
noncomputable def CompareI_n12 : Code := cR CompareI_n10
noncomputable def CompareI_n13 : Code := cL CompareI_n8
noncomputable def CompareI_n14 : Code := cR CompareI_n8
noncomputable def CompareI_n15 : Code := cL CompareI_n13
noncomputable def CompareI_n16 : Code := cR CompareI_n13
noncomputable def CompareI_n18 : Code := cR CompareI_n16
noncomputable def CompareI_n19 : Code := cL CompareI_n14
noncomputable def CompareI_n20 : Code := cR CompareI_n14
noncomputable def CompareI_n21 : Code := cL CompareI_n19
noncomputable def CompareI_n22 : Code := cR CompareI_n19
noncomputable def CompareI_n23 : Code := cL CompareI_n22
noncomputable def CompareI_n24 : Code := cR CompareI_n22
noncomputable def CompareI_n25 : Code := cL CompareI_n23
noncomputable def CompareI_n26 : Code := cR CompareI_n23
noncomputable def CompareI_n27 : Code := cL CompareI_n20
noncomputable def CompareI_n28 : Code := cR CompareI_n20
noncomputable def CompareI_n29 : Code := cL CompareI_n27
noncomputable def CompareI_n30 : Code := cR CompareI_n27
noncomputable def CompareI_n31 : Code := cL CompareI_n30
noncomputable def CompareI_n32 : Code := cR CompareI_n30
noncomputable def CompareI_n33 : Code := cL CompareI_n31
noncomputable def CompareI_n34 : Code := cR CompareI_n31
noncomputable def CompareI_n35 : Code := cL CompareI_n28
noncomputable def CompareI_n36 : Code := cR CompareI_n28
set_option maxRecDepth 10000 in
theorem CompareI_q {w : World} {M : Hp} {X : Fr} (x : Int) (y : Int) (S : SH w M X []) : Cq Try.prog 98 [.int .i64 x, .int .i64 y] w M X (fun u => u = .int .i64 (cmpI x y)) := by
 unfold Cq
 refine calls_in (b := CompareI_n0) Try.func98 rfl Try.ntmps98 rfl (fun C hC => ?_)
 refine ws_sub [(0, _), (1, _)] ⟨rfl, rfl, trivial⟩ ?_
 refine ws_seqN CompareI_n1 CompareI_n2 rfl rfl rfl ?_
 refine ws_region rfl ?_
 refine wla 0 1 rfl rfl rfl rfl rfl rfl rfl ?_
 refine wl_end rfl ?_
 refine nm_sub [(0, _), (1, _)] ⟨rfl, rfl, trivial⟩ ?_
 refine nm_thn ?_
 refine ws_seqN CompareI_n3 CompareI_n4 rfl rfl rfl ?_
 refine ws_region rfl ?_
 refine wlm 0 1 rfl rfl rfl rfl rfl rfl rfl ?_
 refine wlo 1 2 rfl rfl rfl (wo_cq rfl rfl rfl rfl rfl rfl rfl cf121 S (isNaN_q x  S.lend) ?_)
 rintro _ w1 S1 rfl; clear S
 refine wla 2 3 rfl rfl rfl rfl rfl rfl rfl ?_
 refine wl_end rfl ?_
 refine nm_sub [(0, _), (1, _), (5, _)] ⟨rfl, rfl, rfl, trivial⟩ ?_
 refine nm_thn ?_
 refine ws_seqN CompareI_n5 CompareI_n6 rfl rfl rfl ?_
 refine ws_region rfl ?_
 refine wlm 0 1 rfl rfl rfl rfl rfl rfl rfl ?_
 refine wlo 1 2 rfl rfl rfl (wo_cq rfl rfl rfl rfl rfl rfl rfl cf121 S1 (isNaN_q y  S1.lend) ?_)
 rintro _ w2 S2 rfl; clear S1
 refine wla 2 3 rfl rfl rfl rfl rfl rfl rfl ?_
 refine wl_end rfl ?_
 refine nm_sub [(0, _), (1, _), (5, _), (6, _)] ⟨rfl, rfl, rfl, rfl, trivial⟩ ?_
 refine nm_thn ?_
 refine ws_seqN CompareI_n7 CompareI_n8 rfl rfl rfl ?_
 refine ws_seqN CompareI_n9 CompareI_n10 rfl rfl rfl ?_
 refine ws_region rfl ?_
 refine wlm 0 1 rfl rfl rfl rfl rfl rfl rfl ?_
 refine wl_end rfl ?_
 refine nm_sub [(0, _), (1, _), (6, _), (11, _)] ⟨rfl, rfl, rfl, rfl, trivial⟩ ?_
 refine nm_thn ?_
 refine ws_condFN CompareI_n12 rfl rfl rfl ?_
 refine ws_skip rfl ?_
 refine nm_sub [(0, _), (1, _), (6, _)] ⟨rfl, rfl, rfl, trivial⟩ ?_
 refine nm_thn ?_
 refine ws_seqN CompareI_n13 CompareI_n14 rfl rfl rfl ?_
 refine ws_seqN CompareI_n15 CompareI_n16 rfl rfl rfl ?_
 refine ws_region rfl ?_
 refine wlm 0 1 rfl rfl rfl rfl rfl rfl rfl ?_
 refine wl_end rfl ?_
 refine nm_sub [(0, _), (1, _), (13, _)] ⟨rfl, rfl, rfl, trivial⟩ ?_
 refine nm_thn ?_
 refine ws_condFN CompareI_n18 rfl rfl rfl ?_
 refine ws_skip rfl ?_
 refine nm_sub [(0, _), (1, _)] ⟨rfl, rfl, trivial⟩ ?_
 refine nm_thn ?_
 refine ws_seqN CompareI_n19 CompareI_n20 rfl rfl rfl ?_
 refine ws_seqN CompareI_n21 CompareI_n22 rfl rfl rfl ?_
 refine ws_region rfl ?_
 refine wlm 0 1 rfl rfl rfl rfl rfl rfl rfl ?_
 refine wlm 1 2 rfl rfl rfl rfl rfl rfl rfl ?_
 refine wlo 2 3 rfl rfl rfl (wo_run rfl rfl (run_lss rfl rfl rfl) ?_)
 refine wl_end rfl ?_
 refine nm_sub [(0, _), (1, _), (16, _)] ⟨rfl, rfl, rfl, trivial⟩ ?_
 refine nm_thn ?_
 refine ws_condN CompareI_n23 CompareI_n24 rfl rfl rfl rfl (fun hb16 => ?_) (fun hb16 => ?_)
 ·replace hb16 := of_decide_eq_true hb16
  refine ws_seqN CompareI_n25 CompareI_n26 rfl rfl rfl ?_
  refine ws_region rfl ?_
  refine wla 0 1 rfl rfl rfl rfl rfl rfl rfl ?_
  refine wl_end rfl ?_
  refine nm_sub [(4, _)] ⟨rfl, trivial⟩ ?_
  refine nm_thn ?_
  refine ws_ret hC [_] rfl rfl ⟨rfl, trivial⟩ ?_
  exact ⟨_, rfl, (S2.pick [] [] (by decide) trivial), (by show Value.int _ _ = _; unfold cmpI; first | (rw [if_pos (by omega)]) | (rw [if_neg (by omega), if_pos (by omega)]) | (rw [if_neg (by omega), if_neg (by omega)]))⟩
 ·replace hb16 := of_decide_eq_false hb16
  refine ws_skip rfl ?_
  refine nm_sub [(0, _), (1, _)] ⟨rfl, rfl, trivial⟩ ?_
  refine nm_thn ?_
  refine ws_seqN CompareI_n27 CompareI_n28 rfl rfl rfl ?_
  refine ws_seqN CompareI_n29 CompareI_n30 rfl rfl rfl ?_
  refine ws_region rfl ?_
  refine wlm 0 1 rfl rfl rfl rfl rfl rfl rfl ?_
  refine wlm 1 2 rfl rfl rfl rfl rfl rfl rfl ?_
  refine wlo 2 3 rfl rfl rfl (wo_run rfl rfl (run_gtr rfl rfl rfl) ?_)
  refine wl_end rfl ?_
  refine nm_sub [(19, _)] ⟨rfl, trivial⟩ ?_
  refine nm_thn ?_
  refine ws_condN CompareI_n31 CompareI_n32 rfl rfl rfl rfl (fun hb19 => ?_) (fun hb19 => ?_)
  ·replace hb19 := of_decide_eq_true hb19
   refine ws_seqN CompareI_n33 CompareI_n34 rfl rfl rfl ?_
   refine ws_region rfl ?_
   refine wla 0 1 rfl rfl rfl rfl rfl rfl rfl ?_
   refine wl_end rfl ?_
   refine nm_sub [(4, _)] ⟨rfl, trivial⟩ ?_
   refine nm_thn ?_
   refine ws_ret hC [_] rfl rfl ⟨rfl, trivial⟩ ?_
   exact ⟨_, rfl, (S2.pick [] [] (by decide) trivial), (by show Value.int _ _ = _; unfold cmpI; first | (rw [if_pos (by omega)]) | (rw [if_neg (by omega), if_pos (by omega)]) | (rw [if_neg (by omega), if_neg (by omega)]))⟩
  ·replace hb19 := of_decide_eq_false hb19
   refine ws_skip rfl ?_
   refine nm_sub [] trivial ?_
   refine nm_thn ?_
   refine ws_seqN CompareI_n35 CompareI_n36 rfl rfl rfl ?_
   refine ws_region rfl ?_
   refine wla 0 1 rfl rfl rfl rfl rfl rfl rfl ?_
   refine wl_end rfl ?_
   refine nm_thn ?_
   refine ws_ret hC [_] rfl rfl ⟨rfl, trivial⟩ ?_
   exact ⟨_, rfl, (S2.pick [] [] (by decide) trivial), (by show Value.int _ _ = _; unfold cmpI; first | (rw [if_pos (by omega)]) | (rw [if_neg (by omega), if_pos (by omega)]) | (rw [if_neg (by omega), if_neg (by omega)]))⟩
noncomputable def CompareL_n0 : Code := Try.f63.body.getD .skip
noncomputable def CompareL_n1 : Code := cL CompareL_n0
noncomputable def CompareL_n2 : Code := cR CompareL_n0
noncomputable def CompareL_n3 : Code := cL CompareL_n2
noncomputable def CompareL_n4 : Code := cR CompareL_n2
noncomputable def CompareL_n5 : Code := cL CompareL_n3
noncomputable def CompareL_n6 : Code := cR CompareL_n3
noncomputable def CompareL_n7 : Code := cL CompareL_n6
noncomputable def CompareL_n8 : Code := cL CompareL_n7
noncomputable def CompareL_n9 : Code := cL CompareL_n8
noncomputable def CompareL_n10 : Code := cR CompareL_n8
noncomputable def CompareL_n11 : Code := cL CompareL_n10
noncomputable def CompareL_n12 : Code := cR CompareL_n10
noncomputable def CompareL_n13 : Code := cL CompareL_n11
noncomputable def CompareL_n14 : Code := cR CompareL_n11
noncomputable def CompareL_n15 : Code := cL CompareL_n12
noncomputable def CompareL_n16 : Code := cR CompareL_n12
noncomputable def CompareL_n17 : Code := cL CompareL_n15
noncomputable def CompareL_n18 : Code := cL CompareL_n17
noncomputable def CompareL_n19 : Code := cR CompareL_n17
noncomputable def CompareL_n20 : Code := cL CompareL_n19
noncomputable def CompareL_n21 : Code := cR CompareL_n19
noncomputable def CompareL_n22 : Code := cL CompareL_n20
noncomputable def CompareL_n23 : Code := cR CompareL_n20
noncomputable def CompareL_n24 : Code := cL CompareL_n23
noncomputable def CompareL_n25 : Code := cR CompareL_n23
noncomputable def CompareL_n26 : Code := cL CompareL_n24
noncomputable def CompareL_n27 : Code := cR CompareL_n24
noncomputable def CompareL_n28 : Code := cL CompareL_n21
noncomputable def CompareL_n29 : Code := cR CompareL_n21
noncomputable def CompareL_n30 : Code := cL CompareL_n29
noncomputable def CompareL_n31 : Code := cR CompareL_n29
noncomputable def CompareL_n32 : Code := cL CompareL_n31
noncomputable def CompareL_n33 : Code := cR CompareL_n31
noncomputable def CompareL_n34 : Code := cL CompareL_n33
noncomputable def CompareL_n35 : Code := cR CompareL_n33
noncomputable def CompareL_n36 : Code := cL CompareL_n34
noncomputable def CompareL_n37 : Code := cR CompareL_n34
noncomputable def CompareL_n38 : Code := cL CompareL_n4
noncomputable def CompareL_n39 : Code := cR CompareL_n4
noncomputable def CompareL_n40 : Code := cL CompareL_n38
noncomputable def CompareL_n41 : Code := cR CompareL_n38
noncomputable def CompareL_n42 : Code := cL CompareL_n41
noncomputable def CompareL_n43 : Code := cR CompareL_n41
noncomputable def CompareL_n44 : Code := cL CompareL_n42
noncomputable def CompareL_n45 : Code := cR CompareL_n42
noncomputable def CompareL_n46 : Code := cL CompareL_n39
noncomputable def CompareL_n47 : Code := cR CompareL_n39
set_option maxRecDepth 10000 in
theorem CompareL_q {w : World} {M : Hp} {X : Fr} (a : List Int) {aA : Option Addr} {ac : Nat} (b : List Int) {bA : Option Addr} {bc : Nat} (ha : RdA cdInt (M.un X.h) aA ac a) (hb : RdA cdInt (M.un X.h) bA bc b) (S : SH w M X []) : Cq Try.prog 63 [.slice aA a.length ac, .slice bA b.length bc] w M X (fun u => u = .int .i64 (cmpL a b)) := by
 unfold Cq
 have rmha : a.length * 8 ≤ 140737488355328 := ha.room
 have rmhb : b.length * 8 ≤ 140737488355328 := hb.room
 refine calls_in (b := CompareL_n0) Try.func63 rfl Try.ntmps63 rfl (fun C hC => ?_)
 refine ws_sub [(0, _), (1, _)] ⟨rfl, rfl, trivial⟩ ?_
 refine ws_seqN CompareL_n1 CompareL_n2 rfl rfl rfl ?_
 refine ws_region rfl ?_
 refine wla 0 1 rfl rfl rfl rfl rfl rfl rfl ?_
 refine wl_end rfl ?_
 refine nm_sub [(0, _), (1, _)] ⟨rfl, rfl, trivial⟩ ?_
 refine nm_thn ?_
 refine ws_seqN CompareL_n3 CompareL_n4 rfl rfl rfl ?_
 refine ws_seqN CompareL_n5 CompareL_n6 rfl rfl rfl ?_
 refine ws_region rfl ?_
 refine wlm 0 1 rfl rfl rfl rfl rfl rfl rfl ?_
 refine wlo 1 2 rfl rfl rfl (wo_run rfl rfl (run_len rfl rfl rfl rfl rfl rfl Try.underlying33) ?_)
 refine wlm 2 3 rfl rfl rfl rfl rfl rfl rfl ?_
 refine wl_end rfl ?_
 refine nm_thn ?_
 refine ws_blockN CompareL_n7 0 rfl rfl rfl ?_
 refine ws_loopE (fun mx_ ax_ wx_ => ∃ (i : Nat), mx_ = a.length - i ∧ Env 36 [(0, .slice aA a.length ac), (1, .slice bA b.length bc), (9, .slice aA a.length ac), (10, .int .i64 (a.length : Int)), (11, .int .i64 (i : Int))] ax_ ∧ SH wx_ M X [] ∧ i ≤ a.length ∧ cmpL a b = cmpL (a.drop i) (b.drop i)) rfl ?_ ?_
 ·intro ax_ hax_
  refine ⟨_, ⟨0, rfl, hax_.sub ⟨rfl, rfl, rfl, rfl, rfl, trivial⟩, S.pick [] [] (by decide) trivial, ?hq1f0, ?hq1f1⟩⟩
  case hq1f0 => omega
  case hq1f1 => simp
 ·rintro m1 a1 w1 ⟨i, rfl, he1, S1, hi, hcm⟩
  clear S
  refine ws_in he1 (c := CompareL_n8) rfl ?_
  clear he1 a1
  refine ws_seqN CompareL_n9 CompareL_n10 rfl rfl rfl ?_
  refine ws_region rfl ?_
  refine wlo 0 1 rfl rfl rfl (wo_run rfl rfl (run_lss rfl rfl rfl) ?_)
  refine wl_end rfl ?_
  refine nm_thn ?_
  refine ws_seqN CompareL_n11 CompareL_n12 rfl rfl rfl ?_
  refine ws_condN CompareL_n13 CompareL_n14 rfl rfl rfl rfl (fun hb12 => ?_) (fun hb12 => ?_)
  ·replace hb12 := of_decide_eq_true hb12
   refine ws_skip rfl ?_
   refine nm_sub [(0, _), (1, _), (9, _), (10, _), (11, _)] ⟨rfl, rfl, rfl, rfl, rfl, trivial⟩ ?_
   refine nm_thn ?_
   refine ws_seqN CompareL_n15 CompareL_n16 rfl rfl rfl ?_
   refine ws_blockN CompareL_n17 1 rfl rfl rfl ?_
   refine ws_seqN CompareL_n18 CompareL_n19 rfl rfl rfl ?_
   refine ws_region rfl ?_
   refine wlm 0 1 rfl rfl rfl rfl rfl rfl rfl ?_
   refine wlo 1 2 rfl rfl rfl (wo_run rfl rfl (run_indexM (C := cdInt) i rfl rfl rfl sl33 (by first | rfl | omega) ha (by first | omega | (simp only [lens]; omega))) ?_)
   refine wlo 2 3 rfl rfl rfl (wo_run rfl rfl (run_load1 rfl rfl Try.underlying3 rfl (ha.cell S1.um (i := i) (by first | omega | (simp only [lens]; omega)) 0 rfl rfl)) ?_)
   refine wla 3 4 rfl rfl rfl rfl rfl rfl rfl ?_
   refine wla 4 5 rfl rfl rfl rfl rfl rfl rfl ?_
   refine wl_end rfl ?_
   refine nm_sub [(0, _), (1, _), (9, _), (10, _), (11, _), (5, _), (6, _)] ⟨rfl, rfl, rfl, rfl, rfl, rfl, rfl, trivial⟩ ?_
   refine nm_thn ?_
   refine ws_seqN CompareL_n20 CompareL_n21 rfl rfl rfl ?_
   refine ws_seqN CompareL_n22 CompareL_n23 rfl rfl rfl ?_
   refine ws_region rfl ?_
   refine wlm 0 1 rfl rfl rfl rfl rfl rfl rfl ?_
   refine wlm 1 2 rfl rfl rfl rfl rfl rfl rfl ?_
   refine wlo 2 3 rfl rfl rfl (wo_run rfl rfl (run_len rfl rfl rfl rfl rfl rfl Try.underlying33) ?_)
   refine wlo 3 4 rfl rfl rfl (wo_run rfl rfl (run_geq rfl rfl rfl) ?_)
   refine wl_end rfl ?_
   refine nm_sub [(0, _), (1, _), (9, _), (10, _), (11, _), (5, _), (6, _), (19, _)] ⟨rfl, rfl, rfl, rfl, rfl, rfl, rfl, rfl, trivial⟩ ?_
   refine nm_thn ?_
   refine ws_condN CompareL_n24 CompareL_n25 rfl rfl rfl rfl (fun hb19 => ?_) (fun hb19 => ?_)
   ·replace hb19 := of_decide_eq_true hb19
    refine ws_seqN CompareL_n26 CompareL_n27 rfl rfl rfl ?_
    refine ws_region rfl ?_
    refine wla 0 1 rfl rfl rfl rfl rfl rfl rfl ?_
    refine wl_end rfl ?_
    refine nm_sub [(4, _)] ⟨rfl, trivial⟩ ?_
    refine nm_thn ?_
    refine ws_ret hC [_] rfl rfl ⟨rfl, trivial⟩ ?_
    exact ⟨_, rfl, (S1.pick [] [] (by decide) trivial), (by show Value.int _ _ = _; rw [hcm, cmpL_drop_l (by omega) (by omega)])⟩
   ·replace hb19 := of_decide_eq_false hb19
    refine ws_skip rfl ?_
    refine nm_sub [(0, _), (1, _), (9, _), (10, _), (11, _), (5, _), (6, _)] ⟨rfl, rfl, rfl, rfl, rfl, rfl, rfl, trivial⟩ ?_
    refine nm_thn ?_
    refine ws_seqN CompareL_n28 CompareL_n29 rfl rfl rfl ?_
    refine ws_region rfl ?_
    refine wlm 0 1 rfl rfl rfl rfl rfl rfl rfl ?_
    refine wlm 1 2 rfl rfl rfl rfl rfl rfl rfl ?_
    refine wlo 2 3 rfl rfl rfl (wo_run rfl rfl (run_indexM (C := cdInt) i rfl rfl rfl sl33 (by first | rfl | omega) hb (by first | omega | (simp only [lens]; omega))) ?_)
    refine wlo 3 4 rfl rfl rfl (wo_run rfl rfl (run_load1 rfl rfl Try.underlying3 rfl (hb.cell S1.um (i := i) (by first | omega | (simp only [lens]; omega)) 0 rfl rfl)) ?_)
    refine wla 4 5 rfl rfl rfl rfl rfl rfl rfl ?_
    refine wl_end rfl ?_
    refine nm_sub [(0, _), (1, _), (9, _), (10, _), (11, _), (6, _), (7, _)] ⟨rfl, rfl, rfl, rfl, rfl, rfl, rfl, trivial⟩ ?_
    refine nm_thn ?_
    refine ws_seqN CompareL_n30 CompareL_n31 rfl rfl rfl ?_
    refine ws_region rfl ?_
    refine wlm 0 1 rfl rfl rfl rfl rfl rfl rfl ?_
    refine wlm 1 2 rfl rfl rfl rfl rfl rfl rfl ?_
    refine wlo 2 3 rfl rfl rfl (wo_cq rfl rfl rfl rfl rfl rfl rfl cf98 S1 (CompareI_q (ga a i) (ga b i)  S1.lend) ?_)
    rintro _ w2 S2 rfl; clear S1
    refine wla 3 4 rfl rfl rfl rfl rfl rfl rfl ?_
    refine wl_end rfl ?_
    refine nm_sub [(0, _), (1, _), (9, _), (10, _), (11, _), (8, _)] ⟨rfl, rfl, rfl, rfl, rfl, rfl, trivial⟩ ?_
    refine nm_thn ?_
    refine ws_seqN CompareL_n32 CompareL_n33 rfl rfl rfl ?_
    refine ws_region rfl ?_
    refine wlm 0 1 rfl rfl rfl rfl rfl rfl rfl ?_
    refine wlo 1 2 rfl rfl rfl (wo_run rfl rfl (run_neq rfl rfl rfl) ?_)
    refine wl_end rfl ?_
    refine nm_sub [(0, _), (1, _), (9, _), (10, _), (11, _), (8, _), (28, _)] ⟨rfl, rfl, rfl, rfl, rfl, rfl, rfl, trivial⟩ ?_
    refine nm_thn ?_
    refine ws_condN CompareL_n34 CompareL_n35 rfl rfl rfl rfl (fun hb28 => ?_) (fun hb28 => ?_)
    ·replace hb28 := of_decide_eq_true hb28
     refine ws_seqN CompareL_n36 CompareL_n37 rfl rfl rfl ?_
     refine ws_region rfl ?_
     refine wlm 0 1 rfl rfl rfl rfl rfl rfl rfl ?_
     refine wla 1 2 rfl rfl rfl rfl rfl rfl rfl ?_
     refine wl_end rfl ?_
     refine nm_sub [(4, _)] ⟨rfl, trivial⟩ ?_
     refine nm_thn ?_
     refine ws_ret hC [_] rfl rfl ⟨rfl, trivial⟩ ?_
     exact ⟨_, rfl, (S2.pick [] [] (by decide) trivial), (by show Value.int _ _ = _; rw [hcm, cmpL_drop (by omega) (by omega)]; unfold cmpI at *; split; rfl; split; rfl; (exfalso; apply hb28; rw [if_neg (by assumption), if_neg (by assumption)]))⟩
    ·replace hb28 := of_decide_eq_false hb28
     refine ws_skip rfl ?_
     refine nm_blk ?_
     refine nm_sub [(0, _), (1, _), (9, _), (10, _), (11, _)] ⟨rfl, rfl, rfl, rfl, rfl, trivial⟩ ?_
     refine nm_thn ?_
     refine ws_region rfl ?_
     refine wlo 0 1 rfl rfl rfl (wo_run rfl rfl (run_add rfl rfl rfl (by first | omega | (simp only [lens]; omega))) ?_)
     refine wlm 1 2 rfl rfl rfl rfl rfl rfl rfl ?_
     refine wl_end rfl ?_
     refine nm_lp ?_
     intro ax_ hax_
     refine ⟨_, ?hq2m, ⟨i + 1, rfl, hax_.sub ⟨rfl, rfl, rfl, rfl, rfl, trivial⟩, S2.pick [] [] (by decide) trivial, ?hq2f0, ?hq2f1⟩⟩
     case hq2f0 => omega
     case hq2f1 => (rw [hcm, cmpL_drop (by omega) (by omega), if_neg (by unfold cmpI at hb28; split at hb28; omega; omega), if_neg (by unfold cmpI at hb28; split at hb28; omega; split at hb28; omega; omega)])
     case hq2m => omega
  ·replace hb12 := of_decide_eq_false hb12
   refine ws_exit rfl rfl ?_
   refine nm_sub [(0, _), (1, _)] ⟨rfl, rfl, trivial⟩ ?_
   refine nm_thn ?_
   refine ws_seqN CompareL_n38 CompareL_n39 rfl rfl rfl ?_
   refine ws_seqN CompareL_n40 CompareL_n41 rfl rfl rfl ?_
   refine ws_region rfl ?_
   refine wlm 0 1 rfl rfl rfl rfl rfl rfl rfl ?_
   refine wlo 1 2 rfl rfl rfl (wo_run rfl rfl (run_len rfl rfl rfl rfl rfl rfl Try.underlying33) ?_)
   refine wlm 2 3 rfl rfl rfl rfl rfl rfl rfl ?_
   refine wlo 3 4 rfl rfl rfl (wo_run rfl rfl (run_len rfl rfl rfl rfl rfl rfl Try.underlying33) ?_)
   refine wlo 4 5 rfl rfl rfl (wo_run rfl rfl (run_lss rfl rfl rfl) ?_)
   refine wl_end rfl ?_
   refine nm_sub [(35, _)] ⟨rfl, trivial⟩ ?_
   refine nm_thn ?_
   refine ws_condN CompareL_n42 CompareL_n43 rfl rfl rfl rfl (fun hb35 => ?_) (fun hb35 => ?_)
   ·replace hb35 := of_decide_eq_true hb35
    refine ws_seqN CompareL_n44 CompareL_n45 rfl rfl rfl ?_
    refine ws_region rfl ?_
    refine wla 0 1 rfl rfl rfl rfl rfl rfl rfl ?_
    refine wl_end rfl ?_
    refine nm_sub [(4, _)] ⟨rfl, trivial⟩ ?_
    refine nm_thn ?_
    refine ws_ret hC [_] rfl rfl ⟨rfl, trivial⟩ ?_
    exact ⟨_, rfl, (S1.pick [] [] (by decide) trivial), (by show Value.int _ _ = _; rw [hcm, cmpL_drop_e (by omega), if_pos (by omega)])⟩
   ·replace hb35 := of_decide_eq_false hb35
    refine ws_skip rfl ?_
    refine nm_sub [] trivial ?_
    refine nm_thn ?_
    refine ws_seqN CompareL_n46 CompareL_n47 rfl rfl rfl ?_
    refine ws_region rfl ?_
    refine wla 0 1 rfl rfl rfl rfl rfl rfl rfl ?_
    refine wl_end rfl ?_
    refine nm_thn ?_
    refine ws_ret hC [_] rfl rfl ⟨rfl, trivial⟩ ?_
    exact ⟨_, rfl, (S1.pick [] [] (by decide) trivial), (by show Value.int _ _ = _; rw [hcm, cmpL_drop_e (by omega), if_neg (by omega)])⟩
noncomputable def lessCode_n0 : Code := Try.f34.body.getD .skip
noncomputable def lessCode_n1 : Code := cL lessCode_n0
noncomputable def lessCode_n2 : Code := cR lessCode_n0
noncomputable def lessCode_n3 : Code := cL lessCode_n2
noncomputable def lessCode_n4 : Code := cR lessCode_n2
noncomputable def lessCode_n5 : Code := cL lessCode_n3
noncomputable def lessCode_n6 : Code := cR lessCode_n3
noncomputable def lessCode_n7 : Code := cL lessCode_n6
noncomputable def lessCode_n8 : Code := cR lessCode_n6
noncomputable def lessCode_n9 : Code := cL lessCode_n7
noncomputable def lessCode_n10 : Code := cR lessCode_n7
noncomputable def lessCode_n11 : Code := cL lessCode_n4
noncomputable def lessCode_n12 : Code := cR lessCode_n4
noncomputable def lessCode_n13 : Code := cL lessCode_n11
noncomputable def lessCode_n14 : Code := cR lessCode_n11
noncomputable def lessCode_n15 : Code := cL lessCode_n14
noncomputable def lessCode_n16 : Code := cL lessCode_n15
noncomputable def lessCode_n17 : Code := cL lessCode_n16
noncomputable def lessCode_n18 : Code := cR lessCode_n16
noncomputable def lessCode_n19 : Code := cL lessCode_n17
noncomputable def lessCode_n20 : Code := cR lessCode_n17
noncomputable def lessCode_n21 : Code := cL lessCode_n20
noncomputable def lessCode_n22 : Code := cR lessCode_n20
noncomputable def lessCode_n23 : Code := cL lessCode_n18
noncomputable def lessCode_n24 : Code := cR lessCode_n18
noncomputable def lessCode_n25 : Code := cL lessCode_n23
noncomputable def lessCode_n26 : Code := cL lessCode_n25
noncomputable def lessCode_n27 : Code := cR lessCode_n25
noncomputable def lessCode_n28 : Code := cL lessCode_n27
noncomputable def lessCode_n29 : Code := cR lessCode_n27
noncomputable def lessCode_n30 : Code := cL lessCode_n28
noncomputable def lessCode_n31 : Code := cR lessCode_n28
noncomputable def lessCode_n32 : Code := cL lessCode_n12
noncomputable def lessCode_n33 : Code := cR lessCode_n12
set_option maxRecDepth 10000 in
theorem lessCode_q {w : World} {M : Hp} {X : Fr} (a : List Int) {aA : Option Addr} {ac : Nat} (b : List Int) {bA : Option Addr} {bc : Nat} (ha : RdA cdInt (M.un X.h) aA ac a) (hb : RdA cdInt (M.un X.h) bA bc b) (S : SH w M X []) : Cq Try.prog 34 [.slice aA a.length ac, .slice bA b.length bc] w M X (fun u => u = .bool (lessL a b)) := by
 unfold Cq
 have rmha : a.length * 8 ≤ 140737488355328 := ha.room
 have rmhb : b.length * 8 ≤ 140737488355328 := hb.room
 refine calls_in (b := lessCode_n0) Try.func34 rfl Try.ntmps34 rfl (fun C hC => ?_)
 refine ws_sub [(0, _), (1, _)] ⟨rfl, rfl, trivial⟩ ?_
 refine ws_seqN lessCode_n1 lessCode_n2 rfl rfl rfl ?_
 refine ws_region rfl ?_
 refine wla 0 1 rfl rfl rfl rfl rfl rfl rfl ?_
 refine wl_end rfl ?_
 refine nm_sub [(0, _), (1, _)] ⟨rfl, rfl, trivial⟩ ?_
 refine nm_thn ?_
 refine ws_seqN lessCode_n3 lessCode_n4 rfl rfl rfl ?_
 refine ws_seqN lessCode_n5 lessCode_n6 rfl rfl rfl ?_
 refine ws_region rfl ?_
 refine wlm 0 1 rfl rfl rfl rfl rfl rfl rfl ?_
 refine wlo 1 2 rfl rfl rfl (wo_run rfl rfl (run_len rfl rfl rfl rfl rfl rfl Try.underlying33) ?_)
 refine wlm 2 3 rfl rfl rfl rfl rfl rfl rfl ?_
 refine wlo 3 4 rfl rfl rfl (wo_run rfl rfl (run_len rfl rfl rfl rfl rfl rfl Try.underlying33) ?_)
 refine wlo 4 5 rfl rfl rfl (wo_run rfl rfl (run_neq rfl rfl rfl) ?_)
 refine wl_end rfl ?_
 refine nm_sub [(0, _), (1, _), (10, _)] ⟨rfl, rfl, rfl, trivial⟩ ?_
 refine nm_thn ?_
 refine ws_condN lessCode_n7 lessCode_n8 rfl rfl rfl rfl (fun hb10 => ?_) (fun hb10 => ?_)
 ·replace hb10 := of_decide_eq_true hb10
  refine ws_seqN lessCode_n9 lessCode_n10 rfl rfl rfl ?_
  refine ws_region rfl ?_
  refine wlm 0 1 rfl rfl rfl rfl rfl rfl rfl ?_
  refine wlo 1 2 rfl rfl rfl (wo_run rfl rfl (run_len rfl rfl rfl rfl rfl rfl Try.underlying33) ?_)
  refine wlm 2 3 rfl rfl rfl rfl rfl rfl rfl ?_
  refine wlo 3 4 rfl rfl rfl (wo_run rfl rfl (run_len rfl rfl rfl rfl rfl rfl Try.underlying33) ?_)
  refine wlo 4 5 rfl rfl rfl (wo_run rfl rfl (run_lss rfl rfl rfl) ?_)
  refine wla 5 6 rfl rfl rfl rfl rfl rfl rfl ?_
  refine wl_end rfl ?_
  refine nm_sub [(4, _)] ⟨rfl, trivial⟩ ?_
  refine nm_thn ?_
  refine ws_ret hC [_] rfl rfl ⟨rfl, trivial⟩ ?_
  exact ⟨_, rfl, (S.pick [] [] (by decide) trivial), (by show Value.bool _ = _; unfold lessL; rw [if_neg (by omega)]; refine congrArg Value.bool (decide_eq_decide.2 ?_); omega)⟩
 ·replace hb10 := of_decide_eq_false hb10
  refine ws_skip rfl ?_
  refine nm_sub [(0, _), (1, _)] ⟨rfl, rfl, trivial⟩ ?_
  refine nm_thn ?_
  refine ws_seqN lessCode_n11 lessCode_n12 rfl rfl rfl ?_
  refine ws_seqN lessCode_n13 lessCode_n14 rfl rfl rfl ?_
  refine ws_region rfl ?_
  refine wla 0 1 rfl rfl rfl rfl rfl rfl rfl ?_
  refine wl_end rfl ?_
  refine nm_thn ?_
  refine ws_blockN lessCode_n15 0 rfl rfl rfl ?_
  refine ws_loopE (fun mx_ ax_ wx_ => ∃ (i : Nat), mx_ = a.length - i ∧ Env 40 [(0, .slice aA a.length ac), (1, .slice bA b.length bc), (5, .int .i64 (i : Int))] ax_ ∧ SH wx_ M X [] ∧ i ≤ a.length ∧ cmpL a b = cmpL (a.drop i) (b.drop i)) rfl ?_ ?_
  ·intro ax_ hax_
   refine ⟨_, ⟨0, rfl, hax_.sub ⟨rfl, rfl, rfl, trivial⟩, S.pick [] [] (by decide) trivial, ?hq1f0, ?hq1f1⟩⟩
   case hq1f0 => omega
   case hq1f1 => simp
  ·rintro m1 a1 w1 ⟨i, rfl, he1, S1, hi, hcm⟩
   clear S
   refine ws_in he1 (c := lessCode_n16) rfl ?_
   clear he1 a1
   refine ws_seqN lessCode_n17 lessCode_n18 rfl rfl rfl ?_
   refine ws_seqN lessCode_n19 lessCode_n20 rfl rfl rfl ?_
   refine ws_region rfl ?_
   refine wlm 0 1 rfl rfl rfl rfl rfl rfl rfl ?_
   refine wlm 1 2 rfl rfl rfl rfl rfl rfl rfl ?_
   refine wlo 2 3 rfl rfl rfl (wo_run rfl rfl (run_len rfl rfl rfl rfl rfl rfl Try.underlying33) ?_)
   refine wlo 3 4 rfl rfl rfl (wo_run rfl rfl (run_lss rfl rfl rfl) ?_)
   refine wl_end rfl ?_
   refine nm_sub [(0, _), (1, _), (5, _), (19, _)] ⟨rfl, rfl, rfl, rfl, trivial⟩ ?_
   refine nm_thn ?_
   refine ws_condN lessCode_n21 lessCode_n22 rfl rfl rfl rfl (fun hb19 => ?_) (fun hb19 => ?_)
   ·replace hb19 := of_decide_eq_true hb19
    refine ws_skip rfl ?_
    refine nm_sub [(0, _), (1, _), (5, _)] ⟨rfl, rfl, rfl, trivial⟩ ?_
    refine nm_thn ?_
    refine ws_seqN lessCode_n23 lessCode_n24 rfl rfl rfl ?_
    refine ws_blockN lessCode_n25 1 rfl rfl rfl ?_
    refine ws_seqN lessCode_n26 lessCode_n27 rfl rfl rfl ?_
    refine ws_draw rfl (by kernel_rfl) S1 9 rfl ?_
    clear S1
    refine wa_takeP (i := 0) (d := 22) 8 rfl (by kernel_rfl) (by kernel_rfl) (by kernel_rfl) rfl rfl rfl (fun w2 => run_move rfl rfl) ?_
    refine wa_takeP (i := 1) (d := 23) 7 rfl (by kernel_rfl) (by kernel_rfl) (by kernel_rfl) rfl rfl rfl (fun w3 => run_move rfl rfl) ?_
    refine wa_take (i := 2) (d := 24) 6 rfl (by kernel_rfl) (by kernel_rfl) (by kernel_rfl) rfl rfl rfl (fun M3 N3 w4 hle4 S4 => .inl (run_indexM (C := cdInt) i rfl rfl rfl sl33 (by first | rfl | omega) (ha.mono (Hp.un_mono hle4 S4.mx)) (by first | omega | (simp only [lens]; omega)))) ?_
    refine wa_take (i := 3) (d := 25) 5 rfl (by kernel_rfl) (by kernel_rfl) (by kernel_rfl) rfl rfl rfl (fun M4 N4 w5 hle5 S5 => .inl (run_load1 rfl rfl Try.underlying3 rfl ((ha.mono (Hp.un_mono hle5 S5.mx)).cell S5.um (i := i) (by first | omega | (simp only [lens]; omega)) 0 rfl rfl))) ?_
    refine wa_takeP (i := 4) (d := 26) 4 rfl (by kernel_rfl) (by kernel_rfl) (by kernel_rfl) rfl rfl rfl (fun w6 => run_move rfl rfl) ?_
    refine wa_takeP (i := 5) (d := 27) 3 rfl (by kernel_rfl) (by kernel_rfl) (by kernel_rfl) rfl rfl rfl (fun w7 => run_move rfl rfl) ?_
    refine wa_take (i := 6) (d := 28) 2 rfl (by kernel_rfl) (by kernel_rfl) (by kernel_rfl) rfl rfl rfl (fun M7 N7 w8 hle8 S8 => .inl (run_indexM (C := cdInt) i rfl rfl rfl sl33 (by first | rfl | omega) (hb.mono (Hp.un_mono hle8 S8.mx)) (by first | omega | (simp only [lens]; omega)))) ?_
    refine wa_take (i := 7) (d := 29) 1 rfl (by kernel_rfl) (by kernel_rfl) (by kernel_rfl) rfl rfl rfl (fun M8 N8 w9 hle9 S9 => .inl (run_load1 rfl rfl Try.underlying3 rfl ((hb.mono (Hp.un_mono hle9 S9.mx)).cell S9.um (i := i) (by first | omega | (simp only [lens]; omega)) 0 rfl rfl))) ?_
    refine wa_takeP (i := 8) (d := 30) 0 rfl (by kernel_rfl) (by kernel_rfl) (by kernel_rfl) rfl rfl rfl (fun w10 => run_neq rfl rfl rfl) ?_
    refine wa_end (by kernel_rfl) (fun w11 S11 => ?_)
    refine nm_sub [(0, _), (1, _), (5, _), (30, _)] ⟨rfl, rfl, rfl, rfl, trivial⟩ ?_
    refine nm_thn ?_
    refine ws_condN lessCode_n28 lessCode_n29 rfl rfl rfl rfl (fun hb30 => ?_) (fun hb30 => ?_)
    ·replace hb30 := of_decide_eq_true hb30
     refine ws_seqN lessCode_n30 lessCode_n31 rfl rfl rfl ?_
     refine ws_draw rfl (by kernel_rfl) S11 10 rfl ?_
     clear S11
     refine wa_takeP (i := 0) (d := 31) 9 rfl (by kernel_rfl) (by kernel_rfl) (by kernel_rfl) rfl rfl rfl (fun w12 => run_move rfl rfl) ?_
     refine wa_takeP (i := 1) (d := 32) 8 rfl (by kernel_rfl) (by kernel_rfl) (by kernel_rfl) rfl rfl rfl (fun w13 => run_move rfl rfl) ?_
     refine wa_take (i := 2) (d := 33) 7 rfl (by kernel_rfl) (by kernel_rfl) (by kernel_rfl) rfl rfl rfl (fun M12 N12 w14 hle13 S14 => .inl (run_indexM (C := cdInt) i rfl rfl rfl sl33 (by first | rfl | omega) (ha.mono (Hp.un_mono hle13 S14.mx)) (by first | omega | (simp only [lens]; omega)))) ?_
     refine wa_take (i := 3) (d := 34) 6 rfl (by kernel_rfl) (by kernel_rfl) (by kernel_rfl) rfl rfl rfl (fun M13 N13 w15 hle14 S15 => .inl (run_load1 rfl rfl Try.underlying3 rfl ((ha.mono (Hp.un_mono hle14 S15.mx)).cell S15.um (i := i) (by first | omega | (simp only [lens]; omega)) 0 rfl rfl))) ?_
     refine wa_takeP (i := 4) (d := 35) 5 rfl (by kernel_rfl) (by kernel_rfl) (by kernel_rfl) rfl rfl rfl (fun w16 => run_move rfl rfl) ?_
     refine wa_takeP (i := 5) (d := 36) 4 rfl (by kernel_rfl) (by kernel_rfl) (by kernel_rfl) rfl rfl rfl (fun w17 => run_move rfl rfl) ?_
     refine wa_take (i := 6) (d := 37) 3 rfl (by kernel_rfl) (by kernel_rfl) (by kernel_rfl) rfl rfl rfl (fun M16 N16 w18 hle17 S18 => .inl (run_indexM (C := cdInt) i rfl rfl rfl sl33 (by first | rfl | omega) (hb.mono (Hp.un_mono hle17 S18.mx)) (by first | omega | (simp only [lens]; omega)))) ?_
     refine wa_take (i := 7) (d := 38) 2 rfl (by kernel_rfl) (by kernel_rfl) (by kernel_rfl) rfl rfl rfl (fun M17 N17 w19 hle18 S19 => .inl (run_load1 rfl rfl Try.underlying3 rfl ((hb.mono (Hp.un_mono hle18 S19.mx)).cell S19.um (i := i) (by first | omega | (simp only [lens]; omega)) 0 rfl rfl))) ?_
     refine wa_takeP (i := 8) (d := 39) 1 rfl (by kernel_rfl) (by kernel_rfl) (by kernel_rfl) rfl rfl rfl (fun w20 => run_lss rfl rfl rfl) ?_
     refine wa_takeP (i := 9) (d := 4) 0 rfl (by kernel_rfl) (by kernel_rfl) (by kernel_rfl) rfl rfl rfl (fun w21 => run_assign rfl rfl) ?_
     refine wa_end (by kernel_rfl) (fun w22 S22 => ?_)
     refine nm_sub [(4, _)] ⟨rfl, trivial⟩ ?_
     refine nm_thn ?_
     refine ws_ret hC [_] rfl rfl ⟨rfl, trivial⟩ ?_
     exact ⟨_, rfl, (S22.pick [] [] (by decide) trivial), (by show Value.bool _ = _; rw [lessL_eq (by omega), hcm, cmpL_drop (by omega) (by omega)]; refine congrArg Value.bool (decide_eq_decide.2 ?_); split; omega; split; omega; omega)⟩
    ·replace hb30 := of_decide_eq_false hb30
     refine ws_skip rfl ?_
     refine nm_blk ?_
     refine nm_sub [(0, _), (1, _), (5, _)] ⟨rfl, rfl, rfl, trivial⟩ ?_
     refine nm_thn ?_
     refine ws_region rfl ?_
     refine wlm 0 1 rfl rfl rfl rfl rfl rfl rfl ?_
     refine wlo 1 2 rfl rfl rfl (wo_run rfl rfl (run_add rfl rfl rfl (by first | omega | (simp only [lens]; omega))) ?_)
     refine wla 2 3 rfl rfl rfl rfl rfl rfl rfl ?_
     refine wl_end rfl ?_
     refine nm_lp ?_
     intro ax_ hax_
     refine ⟨_, ?hq2m, ⟨i + 1, rfl, hax_.sub ⟨rfl, rfl, rfl, trivial⟩, S11.pick [] [] (by decide) trivial, ?hq2f0, ?hq2f1⟩⟩
     case hq2f0 => omega
     case hq2f1 => (rw [hcm, cmpL_drop (by omega) (by omega), if_neg (by omega), if_neg (by omega)])
     case hq2m => omega
   ·replace hb19 := of_decide_eq_false hb19
    refine ws_exit rfl rfl ?_
    refine nm_sub [] trivial ?_
    refine nm_thn ?_
    refine ws_seqN lessCode_n32 lessCode_n33 rfl rfl rfl ?_
    refine ws_region rfl ?_
    refine wla 0 1 rfl rfl rfl rfl rfl rfl rfl ?_
    refine wl_end rfl ?_
    refine nm_thn ?_
    refine ws_ret hC [_] rfl rfl ⟨rfl, trivial⟩ ?_
    exact ⟨_, rfl, (S1.pick [] [] (by decide) trivial), (by show Value.bool _ = _; rw [lessL_eq (by omega), hcm, cmpL_drop_e (by omega), if_neg (by omega)]; rfl)⟩
def orL : List Int → Int
 | [] => 0
 | x :: xs => if x ≠ 0 then x else orL xs
def cmpV (ao ac bo bc : List Int) : Int := if (ao.length : Int) - (bo.length : Int) ≠ 0 then (ao.length : Int) - (bo.length : Int) else cmpL ac bc
theorem cmpV_or (ao ac bo bc : List Int) : orL [(ao.length : Int) - (bo.length : Int), cmpL ac bc] = cmpV ao ac bo bc := by
 unfold cmpV
 rw [orL]
 split
 ·rfl
 ·rw [orL, orL]; split
  ·rfl
  ·omega
theorem cmpV_less {ao ac bo bc : List Int} (h1 : ac.length = 9 * ao.length) (h2 : bc.length = 9 * bo.length) : cmpV ao ac bo bc < 0 ↔ lessL ac bc = true := by
 unfold cmpV lessL
 by_cases e : ao.length = bo.length
 ·rw [if_neg (by omega), if_pos (by omega), decide_eq_true_iff]
 ·rw [if_pos (by omega), if_neg (by omega), decide_eq_true_iff]; omega
noncomputable def Or_n0 : Code := Try.f66.body.getD .skip
noncomputable def Or_n1 : Code := cL Or_n0
noncomputable def Or_n2 : Code := cR Or_n0
noncomputable def Or_n3 : Code := cL Or_n2
noncomputable def Or_n4 : Code := cR Or_n2
noncomputable def Or_n5 : Code := cL Or_n4
noncomputable def Or_n6 : Code := cR Or_n4
noncomputable def Or_n7 : Code := cL Or_n5
noncomputable def Or_n8 : Code := cR Or_n5
noncomputable def Or_n9 : Code := cL Or_n8
noncomputable def Or_n10 : Code := cL Or_n9
noncomputable def Or_n11 : Code := cL Or_n10
noncomputable def Or_n12 : Code := cR Or_n10
noncomputable def Or_n13 : Code := cL Or_n12
noncomputable def Or_n14 : Code := cR Or_n12
noncomputable def Or_n15 : Code := cL Or_n13
noncomputable def Or_n16 : Code := cR Or_n13
noncomputable def Or_n17 : Code := cL Or_n14
noncomputable def Or_n18 : Code := cR Or_n14
noncomputable def Or_n19 : Code := cL Or_n17
noncomputable def Or_n20 : Code := cL Or_n19
noncomputable def Or_n21 : Code := cR Or_n19
noncomputable def Or_n22 : Code := cL Or_n21
noncomputable def Or_n23 : Code := cR Or_n21
noncomputable def Or_n24 : Code := cL Or_n23
noncomputable def Or_n25 : Code := cR Or_n23
noncomputable def Or_n26 : Code := cL Or_n24
noncomputable def Or_n27 : Code := cR Or_n24
noncomputable def Or_n28 : Code := cL Or_n6
noncomputable def Or_n29 : Code := cR Or_n6
set_option maxRecDepth 10000 in
theorem Or_q {w : World} {M : Hp} {X : Fr} (s : List Int) {sA : Option Addr} {sc : Nat} (hs : RdA cdInt (M.un X.h) sA sc s) (S : SH w M X []) : Cq Try.prog 66 [.slice sA s.length sc] w M X (fun u => u = .int .i64 (orL s)) := by
 unfold Cq
 have rmhs : s.length * 8 ≤ 140737488355328 := hs.room
 refine calls_in (b := Or_n0) Try.func66 rfl Try.ntmps66 rfl (fun C hC => ?_)
 refine ws_sub [(0, _)] ⟨rfl, trivial⟩ ?_
 refine ws_seqN Or_n1 Or_n2 rfl rfl rfl ?_
 refine ws_region rfl ?_
 refine wla 0 1 rfl rfl rfl rfl rfl rfl rfl ?_
 refine wl_end rfl ?_
 refine nm_sub [(0, _)] ⟨rfl, trivial⟩ ?_
 refine nm_thn ?_
 refine ws_seqN Or_n3 Or_n4 rfl rfl rfl ?_
 refine ws_region rfl ?_
 refine wla 0 1 rfl rfl rfl rfl rfl rfl rfl ?_
 refine wl_end rfl ?_
 refine nm_thn ?_
 refine ws_seqN Or_n5 Or_n6 rfl rfl rfl ?_
 refine ws_seqN Or_n7 Or_n8 rfl rfl rfl ?_
 refine ws_region rfl ?_
 refine wlm 0 1 rfl rfl rfl rfl rfl rfl rfl ?_
 refine wlo 1 2 rfl rfl rfl (wo_run rfl rfl (run_len rfl rfl rfl rfl rfl rfl Try.underlying33) ?_)
 refine wlm 2 3 rfl rfl rfl rfl rfl rfl rfl ?_
 refine wl_end rfl ?_
 refine nm_sub [(3, _), (6, _), (7, _), (8, _)] ⟨rfl, rfl, rfl, rfl, trivial⟩ ?_
 refine nm_thn ?_
 refine ws_blockN Or_n9 0 rfl rfl rfl ?_
 refine ws_loopE (fun mx_ ax_ wx_ => ∃ (i : Nat), mx_ = s.length - i ∧ Env 18 [(3, .int .i64 0), (6, .slice sA s.length sc), (7, .int .i64 (s.length : Int)), (8, .int .i64 (i : Int))] ax_ ∧ SH wx_ M X [] ∧ i ≤ s.length ∧ orL s = orL (s.drop i)) rfl ?_ ?_
 ·intro ax_ hax_
  refine ⟨_, ⟨0, rfl, hax_.sub ⟨rfl, rfl, rfl, rfl, trivial⟩, S.pick [] [] (by decide) trivial, ?hq1f0, ?hq1f1⟩⟩
  case hq1f0 => omega
  case hq1f1 => simp
 ·rintro m1 a1 w1 ⟨i, rfl, he1, S1, hi, hor⟩
  clear S
  refine ws_in he1 (c := Or_n10) rfl ?_
  clear he1 a1
  refine ws_seqN Or_n11 Or_n12 rfl rfl rfl ?_
  refine ws_region rfl ?_
  refine wlo 0 1 rfl rfl rfl (wo_run rfl rfl (run_lss rfl rfl rfl) ?_)
  refine wl_end rfl ?_
  refine nm_thn ?_
  refine ws_seqN Or_n13 Or_n14 rfl rfl rfl ?_
  refine ws_condN Or_n15 Or_n16 rfl rfl rfl rfl (fun hb9 => ?_) (fun hb9 => ?_)
  ·replace hb9 := of_decide_eq_true hb9
   refine ws_skip rfl ?_
   refine nm_sub [(3, _), (6, _), (7, _), (8, _)] ⟨rfl, rfl, rfl, rfl, trivial⟩ ?_
   refine nm_thn ?_
   refine ws_seqN Or_n17 Or_n18 rfl rfl rfl ?_
   refine ws_blockN Or_n19 1 rfl rfl rfl ?_
   refine ws_seqN Or_n20 Or_n21 rfl rfl rfl ?_
   refine ws_region rfl ?_
   refine wlo 0 1 rfl rfl rfl (wo_run rfl rfl (run_indexM (C := cdInt) i rfl rfl rfl sl33 (by first | rfl | omega) hs (by first | omega | (simp only [lens]; omega))) ?_)
   refine wlo 1 2 rfl rfl rfl (wo_run rfl rfl (run_load1 rfl rfl Try.underlying3 rfl (hs.cell S1.um (i := i) (by first | omega | (simp only [lens]; omega)) 0 rfl rfl)) ?_)
   refine wla 2 3 rfl rfl rfl rfl rfl rfl rfl ?_
   refine wl_end rfl ?_
   refine nm_sub [(3, _), (6, _), (7, _), (8, _), (5, _)] ⟨rfl, rfl, rfl, rfl, rfl, trivial⟩ ?_
   refine nm_thn ?_
   refine ws_seqN Or_n22 Or_n23 rfl rfl rfl ?_
   refine ws_region rfl ?_
   refine wlm 0 1 rfl rfl rfl rfl rfl rfl rfl ?_
   refine wlm 1 2 rfl rfl rfl rfl rfl rfl rfl ?_
   refine wlo 2 3 rfl rfl rfl (wo_run rfl rfl (run_neq rfl rfl rfl) ?_)
   refine wl_end rfl ?_
   refine nm_sub [(3, _), (6, _), (7, _), (8, _), (5, _), (14, _)] ⟨rfl, rfl, rfl, rfl, rfl, rfl, trivial⟩ ?_
   refine nm_thn ?_
   refine ws_condN Or_n24 Or_n25 rfl rfl rfl rfl (fun hb14 => ?_) (fun hb14 => ?_)
   ·replace hb14 := of_decide_eq_true hb14
    refine ws_seqN Or_n26 Or_n27 rfl rfl rfl ?_
    refine ws_region rfl ?_
    refine wlm 0 1 rfl rfl rfl rfl rfl rfl rfl ?_
    refine wla 1 2 rfl rfl rfl rfl rfl rfl rfl ?_
    refine wl_end rfl ?_
    refine nm_sub [(2, _)] ⟨rfl, trivial⟩ ?_
    refine nm_thn ?_
    refine ws_ret hC [_] rfl rfl ⟨rfl, trivial⟩ ?_
    exact ⟨_, rfl, (S1.pick [] [] (by decide) trivial), (by show Value.int _ _ = _; rw [hor, List.drop_eq_getElem_cons (show i < s.length by omega), orL, ← ga_eq (by omega), if_pos (by omega)])⟩
   ·replace hb14 := of_decide_eq_false hb14
    refine ws_skip rfl ?_
    refine nm_blk ?_
    refine nm_sub [(3, _), (6, _), (7, _), (8, _)] ⟨rfl, rfl, rfl, rfl, trivial⟩ ?_
    refine nm_thn ?_
    refine ws_region rfl ?_
    refine wlo 0 1 rfl rfl rfl (wo_run rfl rfl (run_add rfl rfl rfl (by first | omega | (simp only [lens]; omega))) ?_)
    refine wlm 1 2 rfl rfl rfl rfl rfl rfl rfl ?_
    refine wl_end rfl ?_
    refine nm_lp ?_
    intro ax_ hax_
    refine ⟨_, ?hq2m, ⟨i + 1, rfl, hax_.sub ⟨rfl, rfl, rfl, rfl, trivial⟩, S1.pick [] [] (by decide) trivial, ?hq2f0, ?hq2f1⟩⟩
    case hq2f0 => omega
    case hq2f1 => (rw [hor, List.drop_eq_getElem_cons (show i < s.length by omega), orL, ← ga_eq (by omega), if_neg (by omega)])
    case hq2m => omega
  ·replace hb9 := of_decide_eq_false hb9
   refine ws_exit rfl rfl ?_
   refine nm_sub [(3, _)] ⟨rfl, trivial⟩ ?_
   refine nm_thn ?_
   refine ws_seqN Or_n28 Or_n29 rfl rfl rfl ?_
   refine ws_region rfl ?_
   refine wlm 0 1 rfl rfl rfl rfl rfl rfl rfl ?_
   refine wla 1 2 rfl rfl rfl rfl rfl rfl rfl ?_
   refine wl_end rfl ?_
   refine nm_sub [(2, _)] ⟨rfl, trivial⟩ ?_
   refine nm_thn ?_
   refine ws_ret hC [_] rfl rfl ⟨rfl, trivial⟩ ?_
   exact ⟨_, rfl, (S1.pick [] [] (by decide) trivial), (by show Value.int _ _ = _; rw [hor, List.drop_eq_nil_of_le (by omega)]; rfl)⟩
noncomputable def FCmp_n0 : Code := Try.f65.body.getD .skip
noncomputable def FCmp_n1 : Code := cL FCmp_n0
noncomputable def FCmp_n2 : Code := cR FCmp_n0
noncomputable def FCmp_n3 : Code := cL FCmp_n2
noncomputable def FCmp_n4 : Code := cR FCmp_n2
set_option maxRecDepth 10000 in
theorem FCmp_q {w : World} {M : Hp} {X : Fr} (ao : List Int) {aoA : Option Addr} {aoc : Nat} (ak : List Int) {akA : Option Addr} {akc : Nat} (bo : List Int) {boA : Option Addr} {boc : Nat} (bk : List Int) {bkA : Option Addr} {bkc : Nat} (hao : RdA cdInt (M.un X.h) aoA aoc ao) (hak : RdA cdInt (M.un X.h) akA akc ak) (hbo : RdA cdInt (M.un X.h) boA boc bo) (hbk : RdA cdInt (M.un X.h) bkA bkc bk) (S : SH w M X []) : Cq Try.prog 65 [.agg [.slice aoA ao.length aoc, .slice akA ak.length akc].toArray, .agg [.slice boA bo.length boc, .slice bkA bk.length bkc].toArray] w M X (fun u => u = .int .i64 (cmpV ao ak bo bk)) := by
 unfold Cq
 have rmhao : ao.length * 8 ≤ 140737488355328 := hao.room
 have rmhak : ak.length * 8 ≤ 140737488355328 := hak.room
 have rmhbo : bo.length * 8 ≤ 140737488355328 := hbo.room
 have rmhbk : bk.length * 8 ≤ 140737488355328 := hbk.room
 refine calls_in (b := FCmp_n0) Try.func65 rfl Try.ntmps65 rfl (fun C hC => ?_)
 refine ws_sub [(0, _), (1, _)] ⟨rfl, rfl, trivial⟩ ?_
 refine ws_seqN FCmp_n1 FCmp_n2 rfl rfl rfl ?_
 refine ws_region rfl ?_
 refine wlo 0 1 rfl rfl rfl (wo_box (l := [_, _]) rfl rfl rfl rfl rfl S ?_)
 intro gb1 w1 S1; clear S
 refine wlo 1 2 rfl rfl rfl (wo_box (l := [_, _]) rfl rfl rfl rfl rfl S1 ?_)
 intro gb2 w2 S2; clear S1
 refine wla 2 3 rfl rfl rfl rfl rfl rfl rfl ?_
 refine wl_end rfl ?_
 refine nm_sub [(2, _), (3, _)] ⟨rfl, rfl, trivial⟩ ?_
 refine nm_thn ?_
 refine ws_seqN FCmp_n3 FCmp_n4 rfl rfl rfl ?_
 refine ws_draw rfl (by kernel_rfl) S2 15 rfl ?_
 clear S2
 refine wa_takeP (i := 0) (d := 5) 14 rfl (by kernel_rfl) (by kernel_rfl) (by kernel_rfl) rfl rfl rfl (fun w3 => run_fieldAddr rfl rfl Try.underlying108 rfl (ce33) (nf33)) ?_
 refine wa_take (i := 1) (d := 6) 13 rfl (by kernel_rfl) (by kernel_rfl) (by kernel_rfl) rfl rfl rfl (fun M2 N2 w4 hle2 S4 => .inl (run_load1 rfl rfl Try.underlying33 rfl (S4.suf.boxc (i := 1) rfl rfl))) ?_
 refine wa_take (i := 2) (d := 7) 12 rfl (by kernel_rfl) (by kernel_rfl) (by kernel_rfl) rfl rfl rfl (fun M3 N3 w5 hle3 S5 => .inl (run_len rfl rfl rfl rfl rfl rfl Try.underlying33)) ?_
 refine wa_takeP (i := 3) (d := 8) 11 rfl (by kernel_rfl) (by kernel_rfl) (by kernel_rfl) rfl rfl rfl (fun w6 => run_fieldAddr rfl rfl Try.underlying108 rfl (ce33) (nf33)) ?_
 refine wa_take (i := 4) (d := 9) 10 rfl (by kernel_rfl) (by kernel_rfl) (by kernel_rfl) rfl rfl rfl (fun M5 N5 w7 hle5 S7 => .inl (run_load1 rfl rfl Try.underlying33 rfl (S7.suf.boxc (i := 0) rfl rfl))) ?_
 refine wa_take (i := 5) (d := 10) 9 rfl (by kernel_rfl) (by kernel_rfl) (by kernel_rfl) rfl rfl rfl (fun M6 N6 w8 hle6 S8 => .inl (run_len rfl rfl rfl rfl rfl rfl Try.underlying33)) ?_
 refine wa_takeP (i := 6) (d := 11) 8 rfl (by kernel_rfl) (by kernel_rfl) (by kernel_rfl) rfl rfl rfl (fun w9 => run_sub rfl rfl rfl (by first | omega | (simp only [lens]; omega))) ?_
 refine wa_takeP (i := 7) (d := 12) 7 rfl (by kernel_rfl) (by kernel_rfl) (by kernel_rfl) rfl rfl rfl (fun w10 => run_fieldAddr rfl rfl Try.underlying108 rfl (ce33) (nf33)) ?_
 refine wa_take (i := 8) (d := 13) 6 rfl (by kernel_rfl) (by kernel_rfl) (by kernel_rfl) rfl rfl rfl (fun M9 N9 w11 hle9 S11 => .inl (run_load1 rfl rfl Try.underlying33 rfl (S11.suf.boxc (i := 1) rfl rfl))) ?_
 refine wa_takeP (i := 9) (d := 14) 5 rfl (by kernel_rfl) (by kernel_rfl) (by kernel_rfl) rfl rfl rfl (fun w12 => run_fieldAddr rfl rfl Try.underlying108 rfl (ce33) (nf33)) ?_
 refine wa_take (i := 10) (d := 15) 4 rfl (by kernel_rfl) (by kernel_rfl) (by kernel_rfl) rfl rfl rfl (fun M11 N11 w13 hle11 S13 => .inl (run_load1 rfl rfl Try.underlying33 rfl (S13.suf.boxc (i := 0) rfl rfl))) ?_
 refine wa_take (i := 11) (d := 16) 3 rfl (by kernel_rfl) (by kernel_rfl) (by kernel_rfl) rfl rfl rfl (fun M12 N12 w14 hle12 S14 => yield_cq rfl rfl rfl rfl rfl cf63 S14 (CompareL_q ak bk ((hak.mono (Hp.un_mono hle12 S14.mx)).mono S14.un_XH) ((hbk.mono (Hp.un_mono hle12 S14.mx)).mono S14.un_XH) S14.lend)) ?_
 refine wa_only (i := 12) 2 rfl (by kernel_rfl) rfl rfl (fun w16 S16 => ?_)
 refine (wo_buildSliceN (C := cdInt) (l := [_, _]) (pl := [(0, 1), (1, 1)]) rfl rfl rfl rfl sl33 rfl rfl rfl rfl rfl S16 ?_)
 intro gb3 w18 S18; clear S16
 refine LeftW.grow [_] (Hp.le_refl _) S18 ?_; clear S18
 change WA _ _ _ _ _ _ _ _ _ _ _ _ [_, _, _]
 refine wa_only (i := 13) 1 rfl (by kernel_rfl) rfl rfl (fun w20 S20 => ?_)
 have hr1 := S20.lendBoxN (C := cdInt) (zs := [(ao.length : Int) - (bo.length : Int), cmpL ak bk]) (i := 0) rfl rfl (by show 2 * _ ≤ _; decide)
 have hcall1 := Or_q ([(ao.length : Int) - (bo.length : Int), cmpL ak bk]) hr1 S20.lend
 refine (wo_cq rfl rfl rfl rfl rfl rfl rfl cf66 S20 (hcall1) ?_)
 rintro _ w21 S21 rfl; clear S20
 refine LeftW.grow [_] (Hp.le_refl _) S21 ?_; clear S21
 change WA _ _ _ _ _ _ _ _ _ _ _ _ [_, _, _]
 refine wa_takeP (i := 14) (d := 4) 0 rfl (by kernel_rfl) (by kernel_rfl) (by kernel_rfl) rfl rfl rfl (fun w22 => run_assign rfl rfl) ?_
 refine wa_end (by kernel_rfl) (fun w23 S23 => ?_)
 refine nm_sub [(4, _)] ⟨rfl, trivial⟩ ?_
 refine nm_thn ?_
 refine ws_ret hC [_] rfl rfl ⟨rfl, trivial⟩ ?_
 exact ⟨_, rfl, (S23.pick [] [] (by decide) trivial), (by show Value.int _ _ = _; rw [cmpV_or])⟩
instance : DecidableEq Cr := fun a b => decidable_of_iff (a.a = b.a ∧ a.b = b.b ∧ a.c = b.c ∧ a.d = b.d ∧ a.plus = b.plus) (by cases a; cases b; simp)
theorem cr_eq {x y : Cr} (h : ¬ ¬ (x.a = y.a ∧ x.b = y.b ∧ x.c = y.c ∧ x.d = y.d ∧ x.plus = y.plus)) : x = y := by
 have h := Classical.not_not.1 h
 cases x; cases y; simp_all
theorem cr_ne {x y : Cr} (h : ¬ (x.a = y.a ∧ x.b = y.b ∧ x.c = y.c ∧ x.d = y.d ∧ x.plus = y.plus)) : x ≠ y := fun e => by subst e; exact h ⟨rfl, rfl, rfl, rfl, rfl⟩
noncomputable def EqualC_n0 : Code := Try.f29.body.getD .skip
noncomputable def EqualC_n1 : Code := cL EqualC_n0
noncomputable def EqualC_n2 : Code := cR EqualC_n0
noncomputable def EqualC_n3 : Code := cL EqualC_n2
noncomputable def EqualC_n4 : Code := cR EqualC_n2
noncomputable def EqualC_n5 : Code := cL EqualC_n3
noncomputable def EqualC_n6 : Code := cR EqualC_n3
noncomputable def EqualC_n7 : Code := cL EqualC_n6
noncomputable def EqualC_n8 : Code := cR EqualC_n6
noncomputable def EqualC_n9 : Code := cL EqualC_n7
noncomputable def EqualC_n10 : Code := cR EqualC_n7
noncomputable def EqualC_n11 : Code := cL EqualC_n4
noncomputable def EqualC_n12 : Code := cR EqualC_n4
noncomputable def EqualC_n13 : Code := cL EqualC_n11
noncomputable def EqualC_n14 : Code := cR EqualC_n11
noncomputable def EqualC_n15 : Code := cL EqualC_n14
noncomputable def EqualC_n16 : Code := cL EqualC_n15
noncomputable def EqualC_n17 : Code := cL EqualC_n16
noncomputable def EqualC_n18 : Code := cR EqualC_n16
noncomputable def EqualC_n19 : Code := cL EqualC_n18
noncomputable def EqualC_n20 : Code := cR EqualC_n18
noncomputable def EqualC_n21 : Code := cL EqualC_n19
noncomputable def EqualC_n22 : Code := cR EqualC_n19
noncomputable def EqualC_n23 : Code := cL EqualC_n20
noncomputable def EqualC_n24 : Code := cR EqualC_n20
noncomputable def EqualC_n25 : Code := cL EqualC_n23
noncomputable def EqualC_n26 : Code := cL EqualC_n25
noncomputable def EqualC_n27 : Code := cR EqualC_n25
noncomputable def EqualC_n28 : Code := cL EqualC_n27
noncomputable def EqualC_n29 : Code := cR EqualC_n27
noncomputable def EqualC_n30 : Code := cL EqualC_n29
noncomputable def EqualC_n31 : Code := cR EqualC_n29
noncomputable def EqualC_n32 : Code := cL EqualC_n30
noncomputable def EqualC_n33 : Code := cR EqualC_n30
noncomputable def EqualC_n34 : Code := cL EqualC_n12
noncomputable def EqualC_n35 : Code := cR EqualC_n12
set_option maxRecDepth 10000 in
theorem EqualC_q {w : World} {M : Hp} {X : Fr} (a : List Cr) {aA : Option Addr} {ac : Nat} (b : List Cr) {bA : Option Addr} {bc : Nat} (ha : RdA cdCr (M.un X.h) aA ac a) (hb : RdA cdCr (M.un X.h) bA bc b) (S : SH w M X []) : Cq Try.prog 29 [.slice aA a.length ac, .slice bA b.length bc] w M X (fun u => u = .bool (decide (a = b))) := by
 unfold Cq
 have rmha : a.length * 40 ≤ 140737488355328 := ha.room
 have rmhb : b.length * 40 ≤ 140737488355328 := hb.room
 refine calls_in (b := EqualC_n0) Try.func29 rfl Try.ntmps29 rfl (fun C hC => ?_)
 refine ws_sub [(0, _), (1, _)] ⟨rfl, rfl, trivial⟩ ?_
 refine ws_seqN EqualC_n1 EqualC_n2 rfl rfl rfl ?_
 refine ws_region rfl ?_
 refine wla 0 1 rfl rfl rfl rfl rfl rfl rfl ?_
 refine wl_end rfl ?_
 refine nm_sub [(0, _), (1, _)] ⟨rfl, rfl, trivial⟩ ?_
 refine nm_thn ?_
 refine ws_seqN EqualC_n3 EqualC_n4 rfl rfl rfl ?_
 refine ws_seqN EqualC_n5 EqualC_n6 rfl rfl rfl ?_
 refine ws_region rfl ?_
 refine wlm 0 1 rfl rfl rfl rfl rfl rfl rfl ?_
 refine wlo 1 2 rfl rfl rfl (wo_run rfl rfl (run_len rfl rfl rfl rfl rfl rfl Try.underlying22) ?_)
 refine wlm 2 3 rfl rfl rfl rfl rfl rfl rfl ?_
 refine wlo 3 4 rfl rfl rfl (wo_run rfl rfl (run_len rfl rfl rfl rfl rfl rfl Try.underlying22) ?_)
 refine wlo 4 5 rfl rfl rfl (wo_run rfl rfl (run_neq rfl rfl rfl) ?_)
 refine wl_end rfl ?_
 refine nm_sub [(0, _), (1, _), (10, _)] ⟨rfl, rfl, rfl, trivial⟩ ?_
 refine nm_thn ?_
 refine ws_condN EqualC_n7 EqualC_n8 rfl rfl rfl rfl (fun hb10 => ?_) (fun hb10 => ?_)
 ·replace hb10 := of_decide_eq_true hb10
  refine ws_seqN EqualC_n9 EqualC_n10 rfl rfl rfl ?_
  refine ws_region rfl ?_
  refine wla 0 1 rfl rfl rfl rfl rfl rfl rfl ?_
  refine wl_end rfl ?_
  refine nm_sub [(4, _)] ⟨rfl, trivial⟩ ?_
  refine nm_thn ?_
  refine ws_ret hC [_] rfl rfl ⟨rfl, trivial⟩ ?_
  exact ⟨_, rfl, (S.pick [] [] (by decide) trivial), (by show Value.bool _ = _; refine congrArg Value.bool ?_; exact (decide_eq_false (fun e => by rw [e] at hb10; exact hb10 rfl)).symm)⟩
 ·replace hb10 := of_decide_eq_false hb10
  refine ws_skip rfl ?_
  refine nm_sub [(0, _), (1, _)] ⟨rfl, rfl, trivial⟩ ?_
  refine nm_thn ?_
  refine ws_seqN EqualC_n11 EqualC_n12 rfl rfl rfl ?_
  refine ws_seqN EqualC_n13 EqualC_n14 rfl rfl rfl ?_
  refine ws_region rfl ?_
  refine wlm 0 1 rfl rfl rfl rfl rfl rfl rfl ?_
  refine wlo 1 2 rfl rfl rfl (wo_run rfl rfl (run_len rfl rfl rfl rfl rfl rfl Try.underlying22) ?_)
  refine wlm 2 3 rfl rfl rfl rfl rfl rfl rfl ?_
  refine wl_end rfl ?_
  refine nm_sub [(0, _), (1, _), (12, _), (13, _)] ⟨rfl, rfl, rfl, rfl, trivial⟩ ?_
  refine nm_thn ?_
  refine ws_blockN EqualC_n15 0 rfl rfl rfl ?_
  refine ws_loopE (fun mx_ ax_ wx_ => ∃ (i : Nat), mx_ = a.length - i ∧ Env 26 [(0, .slice aA a.length ac), (1, .slice bA b.length bc), (12, .int .i64 (a.length : Int)), (13, .int .i64 (i : Int))] ax_ ∧ SH wx_ M X [] ∧ i ≤ a.length ∧ (∀ j, j < i → ga a j = ga b j)) rfl ?_ ?_
  ·intro ax_ hax_
   refine ⟨_, ⟨0, rfl, hax_.sub ⟨rfl, rfl, rfl, rfl, trivial⟩, S.pick [] [] (by decide) trivial, ?hq1f0, ?hq1f1⟩⟩
   case hq1f0 => omega
   case hq1f1 => (intro j hj; omega)
  ·rintro m1 a1 w1 ⟨i, rfl, he1, S1, hi, hq⟩
   clear S
   refine ws_in he1 (c := EqualC_n16) rfl ?_
   clear he1 a1
   refine ws_seqN EqualC_n17 EqualC_n18 rfl rfl rfl ?_
   refine ws_region rfl ?_
   refine wlo 0 1 rfl rfl rfl (wo_run rfl rfl (run_lss rfl rfl rfl) ?_)
   refine wl_end rfl ?_
   refine nm_thn ?_
   refine ws_seqN EqualC_n19 EqualC_n20 rfl rfl rfl ?_
   refine ws_condN EqualC_n21 EqualC_n22 rfl rfl rfl rfl (fun hb14 => ?_) (fun hb14 => ?_)
   ·replace hb14 := of_decide_eq_true hb14
    refine ws_skip rfl ?_
    refine nm_sub [(0, _), (1, _), (12, _), (13, _)] ⟨rfl, rfl, rfl, rfl, trivial⟩ ?_
    refine nm_thn ?_
    refine ws_seqN EqualC_n23 EqualC_n24 rfl rfl rfl ?_
    refine ws_blockN EqualC_n25 1 rfl rfl rfl ?_
    refine ws_seqN EqualC_n26 EqualC_n27 rfl rfl rfl ?_
    refine ws_region rfl ?_
    refine wlm 0 1 rfl rfl rfl rfl rfl rfl rfl ?_
    refine wla 1 2 rfl rfl rfl rfl rfl rfl rfl ?_
    refine wl_end rfl ?_
    refine nm_sub [(0, _), (1, _), (12, _), (13, _), (5, _)] ⟨rfl, rfl, rfl, rfl, rfl, trivial⟩ ?_
    refine nm_thn ?_
    refine ws_seqN EqualC_n28 EqualC_n29 rfl rfl rfl ?_
    refine ws_draw rfl (by kernel_rfl) S1 9 rfl ?_
    clear S1
    refine wa_takeP (i := 0) (d := 16) 8 rfl (by kernel_rfl) (by kernel_rfl) (by kernel_rfl) rfl rfl rfl (fun w2 => run_move rfl rfl) ?_
    refine wa_takeP (i := 1) (d := 17) 7 rfl (by kernel_rfl) (by kernel_rfl) (by kernel_rfl) rfl rfl rfl (fun w3 => run_move rfl rfl) ?_
    refine wa_take (i := 2) (d := 18) 6 rfl (by kernel_rfl) (by kernel_rfl) (by kernel_rfl) rfl rfl rfl (fun M3 N3 w4 hle4 S4 => .inl (run_indexM (C := cdCr) i rfl rfl rfl sl22 (by first | rfl | omega) (ha.mono (Hp.un_mono hle4 S4.mx)) (by first | omega | (simp only [lens]; omega)))) ?_
    refine wa_take (i := 3) (d := 19) 5 rfl (by kernel_rfl) (by kernel_rfl) (by kernel_rfl) rfl rfl rfl (fun M4 N4 w5 hle5 S5 => .inl (run_loadN (us := [_, _, _, _, _]) rfl rfl Try.underlying59 rfl sz59 ((ha.mono (Hp.un_mono hle5 S5.mx)).cellsAt S5.um (e := i) (by first | omega | (simp only [lens]; omega)) (j := 0) ⟨rfl, rfl, rfl, rfl, rfl, trivial⟩))) ?_
    refine wa_takeP (i := 4) (d := 20) 4 rfl (by kernel_rfl) (by kernel_rfl) (by kernel_rfl) rfl rfl rfl (fun w6 => run_move rfl rfl) ?_
    refine wa_takeP (i := 5) (d := 21) 3 rfl (by kernel_rfl) (by kernel_rfl) (by kernel_rfl) rfl rfl rfl (fun w7 => run_move rfl rfl) ?_
    refine wa_take (i := 6) (d := 22) 2 rfl (by kernel_rfl) (by kernel_rfl) (by kernel_rfl) rfl rfl rfl (fun M7 N7 w8 hle8 S8 => .inl (run_indexM (C := cdCr) i rfl rfl rfl sl22 (by first | rfl | omega) (hb.mono (Hp.un_mono hle8 S8.mx)) (by first | omega | (simp only [lens]; omega)))) ?_
    refine wa_take (i := 7) (d := 23) 1 rfl (by kernel_rfl) (by kernel_rfl) (by kernel_rfl) rfl rfl rfl (fun M8 N8 w9 hle9 S9 => .inl (run_loadN (us := [_, _, _, _, _]) rfl rfl Try.underlying59 rfl sz59 ((hb.mono (Hp.un_mono hle9 S9.mx)).cellsAt S9.um (e := i) (by first | omega | (simp only [lens]; omega)) (j := 0) ⟨rfl, rfl, rfl, rfl, rfl, trivial⟩))) ?_
    refine wa_takeP (i := 8) (d := 24) 0 rfl (by kernel_rfl) (by kernel_rfl) (by kernel_rfl) rfl rfl rfl (fun w10 => run_neSt (Q := ((ga a i).a) = ((ga b i).a) ∧ ((ga a i).b) = ((ga b i).b) ∧ ((ga a i).c) = ((ga b i).c) ∧ ((ga a i).d) = ((ga b i).d) ∧ ((ga a i).plus) = ((ga b i).plus)) rfl rfl rfl se59 ⟨_, _, _, _, rfl, rfl, ⟨_, _, _, _, rfl, rfl, ⟨_, _, _, _, rfl, rfl, ⟨_, _, _, _, rfl, rfl, ⟨_, _, rfl, rfl, rfl⟩, rfl⟩, rfl⟩, rfl⟩, rfl⟩) ?_
    refine wa_end (by kernel_rfl) (fun w11 S11 => ?_)
    refine nm_sub [(0, _), (1, _), (12, _), (13, _), (24, _)] ⟨rfl, rfl, rfl, rfl, rfl, trivial⟩ ?_
    refine nm_thn ?_
    refine ws_condN EqualC_n30 EqualC_n31 rfl rfl rfl rfl (fun hb24 => ?_) (fun hb24 => ?_)
    ·replace hb24 := of_decide_eq_true hb24
     refine ws_seqN EqualC_n32 EqualC_n33 rfl rfl rfl ?_
     refine ws_region rfl ?_
     refine wla 0 1 rfl rfl rfl rfl rfl rfl rfl ?_
     refine wl_end rfl ?_
     refine nm_sub [(4, _)] ⟨rfl, trivial⟩ ?_
     refine nm_thn ?_
     refine ws_ret hC [_] rfl rfl ⟨rfl, trivial⟩ ?_
     exact ⟨_, rfl, (S11.pick [] [] (by decide) trivial), (by show Value.bool _ = _; refine congrArg Value.bool ?_; exact (decide_eq_false (fun e => by rw [e] at hb24; exact cr_ne hb24 rfl)).symm)⟩
    ·replace hb24 := of_decide_eq_false hb24
     refine ws_skip rfl ?_
     refine nm_blk ?_
     refine nm_sub [(0, _), (1, _), (12, _), (13, _)] ⟨rfl, rfl, rfl, rfl, trivial⟩ ?_
     refine nm_thn ?_
     refine ws_region rfl ?_
     refine wlo 0 1 rfl rfl rfl (wo_run rfl rfl (run_add rfl rfl rfl (by first | omega | (simp only [lens]; omega))) ?_)
     refine wlm 1 2 rfl rfl rfl rfl rfl rfl rfl ?_
     refine wl_end rfl ?_
     refine nm_lp ?_
     intro ax_ hax_
     refine ⟨_, ?hq2m, ⟨i + 1, rfl, hax_.sub ⟨rfl, rfl, rfl, rfl, trivial⟩, S11.pick [] [] (by decide) trivial, ?hq2f0, ?hq2f1⟩⟩
     case hq2f0 => omega
     case hq2f1 => (intro j hj; by_cases e : j = i; (subst e; exact cr_eq hb24); exact hq j (by omega))
     case hq2m => omega
   ·replace hb14 := of_decide_eq_false hb14
    refine ws_exit rfl rfl ?_
    refine nm_sub [] trivial ?_
    refine nm_thn ?_
    refine ws_seqN EqualC_n34 EqualC_n35 rfl rfl rfl ?_
    refine ws_region rfl ?_
    refine wla 0 1 rfl rfl rfl rfl rfl rfl rfl ?_
    refine wl_end rfl ?_
    refine nm_thn ?_
    refine ws_ret hC [_] rfl rfl ⟨rfl, trivial⟩ ?_
    exact ⟨_, rfl, (S1.pick [] [] (by decide) trivial), (by show Value.bool _ = _; refine congrArg Value.bool ?_; exact (decide_eq_true (ga_ext (by omega) fun j hj => hq j (by omega))).symm)⟩
def sameB (a b : Dg) : Bool := decide (a.loops = b.loops) && decide (a.crs = b.crs)
noncomputable def SameDg_n0 : Code := Try.f12.body.getD .skip
noncomputable def SameDg_n1 : Code := cL SameDg_n0
noncomputable def SameDg_n2 : Code := cR SameDg_n0
noncomputable def SameDg_n3 : Code := cL SameDg_n2
noncomputable def SameDg_n4 : Code := cR SameDg_n2
noncomputable def SameDg_n5 : Code := cL SameDg_n3
noncomputable def SameDg_n6 : Code := cR SameDg_n3
noncomputable def SameDg_n7 : Code := cL SameDg_n6
noncomputable def SameDg_n8 : Code := cR SameDg_n6
noncomputable def SameDg_n9 : Code := cL SameDg_n7
noncomputable def SameDg_n10 : Code := cR SameDg_n7
noncomputable def SameDg_n11 : Code := cL SameDg_n4
noncomputable def SameDg_n12 : Code := cR SameDg_n4
noncomputable def SameDg_n13 : Code := cL SameDg_n11
noncomputable def SameDg_n14 : Code := cR SameDg_n11
noncomputable def SameDg_n15 : Code := cL SameDg_n14
noncomputable def SameDg_n16 : Code := cL SameDg_n15
noncomputable def SameDg_n17 : Code := cL SameDg_n16
noncomputable def SameDg_n18 : Code := cR SameDg_n16
noncomputable def SameDg_n19 : Code := cL SameDg_n17
noncomputable def SameDg_n20 : Code := cR SameDg_n17
noncomputable def SameDg_n21 : Code := cL SameDg_n20
noncomputable def SameDg_n22 : Code := cR SameDg_n20
noncomputable def SameDg_n23 : Code := cL SameDg_n18
noncomputable def SameDg_n24 : Code := cR SameDg_n18
noncomputable def SameDg_n25 : Code := cL SameDg_n23
noncomputable def SameDg_n26 : Code := cL SameDg_n25
noncomputable def SameDg_n27 : Code := cR SameDg_n25
noncomputable def SameDg_n28 : Code := cL SameDg_n27
noncomputable def SameDg_n29 : Code := cR SameDg_n27
noncomputable def SameDg_n30 : Code := cL SameDg_n28
noncomputable def SameDg_n31 : Code := cR SameDg_n28
noncomputable def SameDg_n32 : Code := cL SameDg_n12
noncomputable def SameDg_n33 : Code := cR SameDg_n12
set_option maxRecDepth 10000 in
theorem SameDg_q {w : World} {M : Hp} {X : Fr} (a : Dg) {acrsA : Option Addr} {acrsc : Nat} (b : Dg) {bcrsA : Option Addr} {bcrsc : Nat} (hacrs : RdA cdCr (M.un X.h) acrsA acrsc a.crs) (hbcrs : RdA cdCr (M.un X.h) bcrsA bcrsc b.crs) (S : SH w M X []) : Cq Try.prog 12 [.agg [.slice acrsA a.crs.length acrsc, .int .i64 a.loops].toArray, .agg [.slice bcrsA b.crs.length bcrsc, .int .i64 b.loops].toArray] w M X (fun u => u = .bool (sameB a b)) := by
 unfold Cq
 have rmhacrs : a.crs.length * 40 ≤ 140737488355328 := hacrs.room
 have rmhbcrs : b.crs.length * 40 ≤ 140737488355328 := hbcrs.room
 refine calls_in (b := SameDg_n0) Try.func12 rfl Try.ntmps12 rfl (fun C hC => ?_)
 refine ws_sub [(0, _), (1, _)] ⟨rfl, rfl, trivial⟩ ?_
 refine ws_seqN SameDg_n1 SameDg_n2 rfl rfl rfl ?_
 refine ws_region rfl ?_
 refine wlo 0 1 rfl rfl rfl (wo_box (l := [_, _]) rfl rfl rfl rfl rfl S ?_)
 intro gb1 w1 S1; clear S
 refine wlo 1 2 rfl rfl rfl (wo_box (l := [_, _]) rfl rfl rfl rfl rfl S1 ?_)
 intro gb2 w2 S2; clear S1
 refine wla 2 3 rfl rfl rfl rfl rfl rfl rfl ?_
 refine wl_end rfl ?_
 refine nm_sub [(2, _), (3, _)] ⟨rfl, rfl, trivial⟩ ?_
 refine nm_thn ?_
 refine ws_seqN SameDg_n3 SameDg_n4 rfl rfl rfl ?_
 refine ws_seqN SameDg_n5 SameDg_n6 rfl rfl rfl ?_
 refine ws_region rfl ?_
 refine wlo 0 1 rfl rfl rfl (wo_run rfl rfl (run_fieldAddr rfl rfl Try.underlying24 rfl (ce3) (nf3)) ?_)
 refine wlo 1 2 rfl rfl rfl (wo_run rfl rfl (run_load1 rfl rfl Try.underlying3 rfl (S2.boxc (i := 1) rfl rfl)) ?_)
 refine wlo 2 3 rfl rfl rfl (wo_run rfl rfl (run_fieldAddr rfl rfl Try.underlying24 rfl (ce3) (nf3)) ?_)
 refine wlo 3 4 rfl rfl rfl (wo_run rfl rfl (run_load1 rfl rfl Try.underlying3 rfl (S2.boxc (i := 0) rfl rfl)) ?_)
 refine wlo 4 5 rfl rfl rfl (wo_run rfl rfl (run_neq rfl rfl rfl) ?_)
 refine wlm 5 6 rfl rfl rfl rfl rfl rfl rfl ?_
 refine wl_split (t := 11) rfl (fun hg11 => ?_) (fun hg11 => ?_)
 ·replace hg11 := of_decide_eq_true hg11
  refine wl_no (k := 6) (k' := 7) (d := 12) rfl rfl ⟨_, _, _, rfl, rfl, rfl, rfl⟩ rfl rfl ?_
  refine wl_no (k := 7) (k' := 8) (d := 13) rfl rfl ⟨_, _, _, rfl, rfl, rfl, rfl⟩ rfl rfl ?_
  refine wl_no (k := 8) (k' := 9) (d := 14) rfl rfl ⟨_, _, _, rfl, rfl, rfl, rfl⟩ rfl rfl ?_
  refine wl_no (k := 9) (k' := 10) (d := 15) rfl rfl ⟨_, _, _, rfl, rfl, rfl, rfl⟩ rfl rfl ?_
  refine wl_no (k := 10) (k' := 11) (d := 16) rfl rfl ⟨_, _, _, rfl, rfl, rfl, rfl⟩ rfl rfl ?_
  refine wl_no (k := 11) (k' := 12) (d := 17) rfl rfl ⟨_, _, _, rfl, rfl, rfl, rfl⟩ rfl rfl ?_
  refine wl_no (k := 12) (k' := 13) (d := 18) rfl rfl ⟨_, _, _, rfl, rfl, rfl, rfl⟩ rfl rfl ?_
  refine wlo 13 14 rfl rfl rfl (wo_run rfl rfl (run_pickT rfl rfl rfl) ?_)
  refine wl_end rfl ?_
  refine nm_sub [(2, _), (3, _), (19, _)] ⟨rfl, rfl, rfl, trivial⟩ ?_
  refine nm_thn ?_
  refine ws_condTN SameDg_n7 rfl rfl rfl ?_
  refine ws_seqN SameDg_n9 SameDg_n10 rfl rfl rfl ?_
  refine ws_region rfl ?_
  refine wla 0 1 rfl rfl rfl rfl rfl rfl rfl ?_
  refine wl_end rfl ?_
  refine nm_sub [(4, _)] ⟨rfl, trivial⟩ ?_
  refine nm_thn ?_
  refine ws_ret hC [_] rfl rfl ⟨rfl, trivial⟩ ?_
  exact ⟨_, rfl, (S2.pick [] [] (by decide) trivial), (by show Value.bool _ = _; refine congrArg Value.bool ?_; unfold sameB; rw [Eq.comm, Bool.and_eq_false_iff, decide_eq_false_iff_not, decide_eq_false_iff_not]; first | exact .inr (fun e => by rw [e] at hb37; exact cr_ne hb37 rfl) | exact .inl (by omega) | exact .inr (fun e => by have := congrArg List.length e; omega))⟩
 ·replace hg11 := of_decide_eq_false hg11
  refine wl_opG (k := 6) (k' := 7) rfl rfl ⟨_, _, _, rfl, rfl, rfl, rfl⟩ rfl (wo_run rfl rfl (run_fieldAddr rfl rfl Try.underlying24 rfl (ce22) (nf22)) ?_)
  refine wl_opG (k := 7) (k' := 8) rfl rfl ⟨_, _, _, rfl, rfl, rfl, rfl⟩ rfl (wo_run rfl rfl (run_load1 rfl rfl Try.underlying22 rfl (S2.boxc (i := 1) rfl rfl)) ?_)
  refine wl_opG (k := 8) (k' := 9) rfl rfl ⟨_, _, _, rfl, rfl, rfl, rfl⟩ rfl (wo_run rfl rfl (run_len rfl rfl rfl rfl rfl rfl Try.underlying22) ?_)
  refine wl_opG (k := 9) (k' := 10) rfl rfl ⟨_, _, _, rfl, rfl, rfl, rfl⟩ rfl (wo_run rfl rfl (run_fieldAddr rfl rfl Try.underlying24 rfl (ce22) (nf22)) ?_)
  refine wl_opG (k := 10) (k' := 11) rfl rfl ⟨_, _, _, rfl, rfl, rfl, rfl⟩ rfl (wo_run rfl rfl (run_load1 rfl rfl Try.underlying22 rfl (S2.boxc (i := 0) rfl rfl)) ?_)
  refine wl_opG (k := 11) (k' := 12) rfl rfl ⟨_, _, _, rfl, rfl, rfl, rfl⟩ rfl (wo_run rfl rfl (run_len rfl rfl rfl rfl rfl rfl Try.underlying22) ?_)
  refine wl_opG (k := 12) (k' := 13) rfl rfl ⟨_, _, _, rfl, rfl, rfl, rfl⟩ rfl (wo_run rfl rfl (run_neq rfl rfl rfl) ?_)
  refine wlo 13 14 rfl rfl rfl (wo_run rfl rfl (run_pickF rfl rfl rfl) ?_)
  refine wl_end rfl ?_
  refine nm_sub [(2, _), (3, _), (19, _)] ⟨rfl, rfl, rfl, trivial⟩ ?_
  refine nm_thn ?_
  refine ws_condN SameDg_n7 SameDg_n8 rfl rfl rfl rfl (fun hb19 => ?_) (fun hb19 => ?_)
  ·replace hb19 := of_decide_eq_true hb19
   refine ws_seqN SameDg_n9 SameDg_n10 rfl rfl rfl ?_
   refine ws_region rfl ?_
   refine wla 0 1 rfl rfl rfl rfl rfl rfl rfl ?_
   refine wl_end rfl ?_
   refine nm_sub [(4, _)] ⟨rfl, trivial⟩ ?_
   refine nm_thn ?_
   refine ws_ret hC [_] rfl rfl ⟨rfl, trivial⟩ ?_
   exact ⟨_, rfl, (S2.pick [] [] (by decide) trivial), (by show Value.bool _ = _; refine congrArg Value.bool ?_; unfold sameB; rw [Eq.comm, Bool.and_eq_false_iff, decide_eq_false_iff_not, decide_eq_false_iff_not]; first | exact .inr (fun e => by rw [e] at hb37; exact cr_ne hb37 rfl) | exact .inl (by omega) | exact .inr (fun e => by have := congrArg List.length e; omega))⟩
  ·replace hb19 := of_decide_eq_false hb19
   refine ws_skip rfl ?_
   refine nm_sub [(2, _), (3, _)] ⟨rfl, rfl, trivial⟩ ?_
   refine nm_thn ?_
   refine ws_seqN SameDg_n11 SameDg_n12 rfl rfl rfl ?_
   refine ws_seqN SameDg_n13 SameDg_n14 rfl rfl rfl ?_
   refine ws_region rfl ?_
   refine wla 0 1 rfl rfl rfl rfl rfl rfl rfl ?_
   refine wl_end rfl ?_
   refine nm_thn ?_
   refine ws_blockN SameDg_n15 0 rfl rfl rfl ?_
   refine ws_loopE (fun mx_ ax_ wx_ => ∃ (k : Nat), mx_ = a.crs.length - k ∧ Env 38 [(2, .pointer (some ⟨gb1, 0, none⟩)), (3, .pointer (some ⟨gb2, 0, none⟩)), (5, .int .i64 (k : Int))] ax_ ∧ SH wx_ M X [Rs.box gb2 24 [.slice bcrsA b.crs.length bcrsc, .int .i64 b.loops], Rs.box gb1 24 [.slice acrsA a.crs.length acrsc, .int .i64 a.loops]] ∧ k ≤ a.crs.length ∧ (∀ j, j < k → ga a.crs j = ga b.crs j)) rfl ?_ ?_
   ·intro ax_ hax_
    refine ⟨_, ⟨0, rfl, hax_.sub ⟨rfl, rfl, rfl, trivial⟩, S2.pick [0, 1] [_, _] (by decide) ⟨rfl, rfl, trivial⟩, ?hq1f0, ?hq1f1⟩⟩
    case hq1f0 => omega
    case hq1f1 => (intro j hj; omega)
   ·rintro m1 a1 w3 ⟨k, rfl, he1, S3, hk, hq⟩
    clear S2
    refine ws_in he1 (c := SameDg_n16) rfl ?_
    clear he1 a1
    refine ws_seqN SameDg_n17 SameDg_n18 rfl rfl rfl ?_
    refine ws_seqN SameDg_n19 SameDg_n20 rfl rfl rfl ?_
    refine ws_region rfl ?_
    refine wlm 0 1 rfl rfl rfl rfl rfl rfl rfl ?_
    refine wlo 1 2 rfl rfl rfl (wo_run rfl rfl (run_fieldAddr rfl rfl Try.underlying24 rfl (ce22) (nf22)) ?_)
    refine wlo 2 3 rfl rfl rfl (wo_run rfl rfl (run_load1 rfl rfl Try.underlying22 rfl (S3.boxc (i := 1) rfl rfl)) ?_)
    refine wlo 3 4 rfl rfl rfl (wo_run rfl rfl (run_len rfl rfl rfl rfl rfl rfl Try.underlying22) ?_)
    refine wlo 4 5 rfl rfl rfl (wo_run rfl rfl (run_lss rfl rfl rfl) ?_)
    refine wl_end rfl ?_
    refine nm_sub [(2, _), (3, _), (5, _), (24, _)] ⟨rfl, rfl, rfl, rfl, trivial⟩ ?_
    refine nm_thn ?_
    refine ws_condN SameDg_n21 SameDg_n22 rfl rfl rfl rfl (fun hb24 => ?_) (fun hb24 => ?_)
    ·replace hb24 := of_decide_eq_true hb24
     refine ws_skip rfl ?_
     refine nm_sub [(2, _), (3, _), (5, _)] ⟨rfl, rfl, rfl, trivial⟩ ?_
     refine nm_thn ?_
     refine ws_seqN SameDg_n23 SameDg_n24 rfl rfl rfl ?_
     refine ws_blockN SameDg_n25 1 rfl rfl rfl ?_
     refine ws_seqN SameDg_n26 SameDg_n27 rfl rfl rfl ?_
     refine ws_draw rfl (by kernel_rfl) S3 11 rfl ?_
     clear S3
     refine wa_takeP (i := 0) (d := 27) 10 rfl (by kernel_rfl) (by kernel_rfl) (by kernel_rfl) rfl rfl rfl (fun w4 => run_fieldAddr rfl rfl Try.underlying24 rfl (ce22) (nf22)) ?_
     refine wa_take (i := 1) (d := 28) 9 rfl (by kernel_rfl) (by kernel_rfl) (by kernel_rfl) rfl rfl rfl (fun M2 N2 w5 hle3 S5 => .inl (run_load1 rfl rfl Try.underlying22 rfl (S5.suf.boxc (i := 1) rfl rfl))) ?_
     refine wa_takeP (i := 2) (d := 29) 8 rfl (by kernel_rfl) (by kernel_rfl) (by kernel_rfl) rfl rfl rfl (fun w6 => run_move rfl rfl) ?_
     refine wa_take (i := 3) (d := 30) 7 rfl (by kernel_rfl) (by kernel_rfl) (by kernel_rfl) rfl rfl rfl (fun M4 N4 w7 hle5 S7 => .inl (run_indexM (C := cdCr) k rfl rfl rfl sl22 (by first | rfl | omega) (hacrs.mono (Hp.un_mono hle5 S7.mx)) (by first | omega | (simp only [lens]; omega)))) ?_
     refine wa_take (i := 4) (d := 31) 6 rfl (by kernel_rfl) (by kernel_rfl) (by kernel_rfl) rfl rfl rfl (fun M5 N5 w8 hle6 S8 => .inl (run_loadN (us := [_, _, _, _, _]) rfl rfl Try.underlying59 rfl sz59 ((hacrs.mono (Hp.un_mono hle6 S8.mx)).cellsAt S8.um (e := k) (by first | omega | (simp only [lens]; omega)) (j := 0) ⟨rfl, rfl, rfl, rfl, rfl, trivial⟩))) ?_
     refine wa_takeP (i := 5) (d := 32) 5 rfl (by kernel_rfl) (by kernel_rfl) (by kernel_rfl) rfl rfl rfl (fun w9 => run_fieldAddr rfl rfl Try.underlying24 rfl (ce22) (nf22)) ?_
     refine wa_take (i := 6) (d := 33) 4 rfl (by kernel_rfl) (by kernel_rfl) (by kernel_rfl) rfl rfl rfl (fun M7 N7 w10 hle8 S10 => .inl (run_load1 rfl rfl Try.underlying22 rfl (S10.suf.boxc (i := 0) rfl rfl))) ?_
     refine wa_takeP (i := 7) (d := 34) 3 rfl (by kernel_rfl) (by kernel_rfl) (by kernel_rfl) rfl rfl rfl (fun w11 => run_move rfl rfl) ?_
     refine wa_take (i := 8) (d := 35) 2 rfl (by kernel_rfl) (by kernel_rfl) (by kernel_rfl) rfl rfl rfl (fun M9 N9 w12 hle10 S12 => .inl (run_indexM (C := cdCr) k rfl rfl rfl sl22 (by first | rfl | omega) (hbcrs.mono (Hp.un_mono hle10 S12.mx)) (by first | omega | (simp only [lens]; omega)))) ?_
     refine wa_take (i := 9) (d := 36) 1 rfl (by kernel_rfl) (by kernel_rfl) (by kernel_rfl) rfl rfl rfl (fun M10 N10 w13 hle11 S13 => .inl (run_loadN (us := [_, _, _, _, _]) rfl rfl Try.underlying59 rfl sz59 ((hbcrs.mono (Hp.un_mono hle11 S13.mx)).cellsAt S13.um (e := k) (by first | omega | (simp only [lens]; omega)) (j := 0) ⟨rfl, rfl, rfl, rfl, rfl, trivial⟩))) ?_
     refine wa_takeP (i := 10) (d := 37) 0 rfl (by kernel_rfl) (by kernel_rfl) (by kernel_rfl) rfl rfl rfl (fun w14 => run_neSt (Q := ((ga a.crs k).a) = ((ga b.crs k).a) ∧ ((ga a.crs k).b) = ((ga b.crs k).b) ∧ ((ga a.crs k).c) = ((ga b.crs k).c) ∧ ((ga a.crs k).d) = ((ga b.crs k).d) ∧ ((ga a.crs k).plus) = ((ga b.crs k).plus)) rfl rfl rfl se59 ⟨_, _, _, _, rfl, rfl, ⟨_, _, _, _, rfl, rfl, ⟨_, _, _, _, rfl, rfl, ⟨_, _, _, _, rfl, rfl, ⟨_, _, rfl, rfl, rfl⟩, rfl⟩, rfl⟩, rfl⟩, rfl⟩) ?_
     refine wa_end (by kernel_rfl) (fun w15 S15 => ?_)
     refine nm_sub [(2, _), (3, _), (5, _), (37, _)] ⟨rfl, rfl, rfl, rfl, trivial⟩ ?_
     refine nm_thn ?_
     refine ws_condN SameDg_n28 SameDg_n29 rfl rfl rfl rfl (fun hb37 => ?_) (fun hb37 => ?_)
     ·replace hb37 := of_decide_eq_true hb37
      refine ws_seqN SameDg_n30 SameDg_n31 rfl rfl rfl ?_
      refine ws_region rfl ?_
      refine wla 0 1 rfl rfl rfl rfl rfl rfl rfl ?_
      refine wl_end rfl ?_
      refine nm_sub [(4, _)] ⟨rfl, trivial⟩ ?_
      refine nm_thn ?_
      refine ws_ret hC [_] rfl rfl ⟨rfl, trivial⟩ ?_
      exact ⟨_, rfl, (S15.pick [] [] (by decide) trivial), (by show Value.bool _ = _; refine congrArg Value.bool ?_; unfold sameB; rw [Eq.comm, Bool.and_eq_false_iff, decide_eq_false_iff_not, decide_eq_false_iff_not]; first | exact .inr (fun e => by rw [e] at hb37; exact cr_ne hb37 rfl) | exact .inl (by omega) | exact .inr (fun e => by have := congrArg List.length e; omega))⟩
     ·replace hb37 := of_decide_eq_false hb37
      refine ws_skip rfl ?_
      refine nm_blk ?_
      refine nm_sub [(2, _), (3, _), (5, _)] ⟨rfl, rfl, rfl, trivial⟩ ?_
      refine nm_thn ?_
      refine ws_region rfl ?_
      refine wlm 0 1 rfl rfl rfl rfl rfl rfl rfl ?_
      refine wlo 1 2 rfl rfl rfl (wo_run rfl rfl (run_add rfl rfl rfl (by first | omega | (simp only [lens]; omega))) ?_)
      refine wla 2 3 rfl rfl rfl rfl rfl rfl rfl ?_
      refine wl_end rfl ?_
      refine nm_lp ?_
      intro ax_ hax_
      refine ⟨_, ?hq2m, ⟨k + 1, rfl, hax_.sub ⟨rfl, rfl, rfl, trivial⟩, S15.pick [0, 1] [_, _] (by decide) ⟨rfl, rfl, trivial⟩, ?hq2f0, ?hq2f1⟩⟩
      case hq2f0 => omega
      case hq2f1 => (intro j hj; by_cases e : j = k; (subst e; exact cr_eq hb37); exact hq j (by omega))
      case hq2m => omega
    ·replace hb24 := of_decide_eq_false hb24
     refine ws_exit rfl rfl ?_
     refine nm_sub [] trivial ?_
     refine nm_thn ?_
     refine ws_seqN SameDg_n32 SameDg_n33 rfl rfl rfl ?_
     refine ws_region rfl ?_
     refine wla 0 1 rfl rfl rfl rfl rfl rfl rfl ?_
     refine wl_end rfl ?_
     refine nm_thn ?_
     refine ws_ret hC [_] rfl rfl ⟨rfl, trivial⟩ ?_
     exact ⟨_, rfl, (S3.pick [] [] (by decide) trivial), (by show Value.bool _ = _; refine congrArg Value.bool ?_; unfold sameB; rw [decide_eq_true (by omega), decide_eq_true (ga_ext (by omega) fun j hj => hq j (by omega))]; rfl)⟩
end Go.Proofs.Ytefkjfcncpmneaa
namespace Go.Proofs.Ytefkjfcncpmneaa
open Go.ChangeShapes Go.WideShapes Go.ChangeAt Go.RowKit
structure Vw where
 o : SlV
 k : SlV
instance : Inhabited Vw := ⟨⟨default, default⟩⟩
def cdVw : Cd Vw := ⟨fun x => [.slice x.o.A x.o.n x.o.c, .slice x.k.A x.k.n x.k.c], 2, 48, 108, ⟨⟨none, 0, 0⟩, ⟨none, 0, 0⟩⟩, fun _ => rfl, by
 intro x u hu; simp at hu; rcases hu with rfl | rfl <;> rfl⟩
theorem sl105 : SlOf Try.prog 105 cdVw := ⟨.agg [.slice none 0 0, .slice none 0 0].toArray, Try.underlying105, by kernel_rfl, rfl, by decide, by decide⟩
abbrev OK := List Int × List Int
def VwOk (N : Hp) (vs : List Vw) (ks : List OK) : Prop := vs.length = ks.length ∧ ∀ i, i < ks.length → (ga vs i).o.n = (ga ks i).1.length ∧ RdA cdInt N (ga vs i).o.A (ga vs i).o.c (ga ks i).1 ∧ (ga vs i).k.n = (ga ks i).2.length ∧ RdA cdInt N (ga vs i).k.A (ga vs i).k.c (ga ks i).2
theorem VwOk.mono {N N' : Hp} {vs : List Vw} {ks : List OK} (h : VwOk N vs ks) (k : N.le N') : VwOk N' vs ks := ⟨h.1, fun i hi => ⟨(h.2 i hi).1, (h.2 i hi).2.1.mono k, (h.2 i hi).2.2.1, (h.2 i hi).2.2.2.mono k⟩⟩
theorem VwOk.nil_ {N : Hp} : VwOk N [] [] := ⟨rfl, fun i hi => absurd hi (Nat.not_lt_zero _)⟩
theorem VwOk.snoc {N : Hp} {vs : List Vw} {ks : List OK} (h : VwOk N vs ks) {A B : Option Addr} {a b : Nat} {xs ys : List Int} (hx : RdA cdInt N A a xs) (hy : RdA cdInt N B b ys) : VwOk N (vs ++ [⟨⟨A, xs.length, a⟩, ⟨B, ys.length, b⟩⟩]) (ks ++ [(xs, ys)]) := by
 refine ⟨by simp [h.1], fun i hi => ?_⟩
 rw [List.length_append, List.length_singleton] at hi
 have hl := h.1
 by_cases e : i < ks.length
 ·rw [ga_append_left _ _ _ e, ga_append_left _ _ _ (by omega)]; exact h.2 i e
 ·obtain rfl : i = ks.length := by omega
  rw [ga_append_right _ _ _ (Nat.le_refl _), ga_append_right _ _ _ (by omega), hl, Nat.sub_self]
  exact ⟨rfl, hx, rfl, hy⟩
theorem VwOk.set_ {N : Hp} {vs : List Vw} {ks : List OK} (h : VwOk N vs ks) (e : Nat) (he : e < ks.length) {A B : Option Addr} {a b : Nat} {xs ys : List Int} (hx : RdA cdInt N A a xs) (hy : RdA cdInt N B b ys) : VwOk N (vs.set e ⟨⟨A, xs.length, a⟩, ⟨B, ys.length, b⟩⟩) (ks.set e (xs, ys)) := by
 have hl := h.1
 refine ⟨by simp [h.1], fun i hi => ?_⟩
 rw [List.length_set] at hi
 rw [ga_set _ _ _ _ he, ga_set _ _ _ _ (by omega)]
 by_cases e2 : e = i
 ·rw [if_pos e2, if_pos e2]; exact ⟨rfl, hx, rfl, hy⟩
 ·rw [if_neg e2, if_neg e2]; exact h.2 i hi
def kO (ks : List OK) (i : Nat) : List Int := (ga ks i).2
def rst (i m : Nat) : List Nat := List.range' i (m - i)
theorem rst_cons {i m : Nat} (h : i < m) : rst i m = i :: rst (i + 1) m := by
 unfold rst
 rw [show m - i = (m - (i + 1)) + 1 by omega, List.range'_succ]
theorem rst_end {i m : Nat} (h : m ≤ i) : rst i m = [] := by unfold rst; rw [show m - i = 0 by omega]; rfl
theorem ins_start (ks : List OK) : ks = List.map (ga ks) (List.range (min 1 ks.length) ++ rst (min 1 ks.length) ks.length) := by
 have e : List.range (min 1 ks.length) ++ rst (min 1 ks.length) ks.length = List.range ks.length := by
  rcases Nat.eq_zero_or_pos ks.length with h | h
  ·rw [h]; rfl
  ·rw [Nat.min_eq_left h, List.range_eq_range', List.range_eq_range']
   unfold rst
   rw [List.range'_append_1 (s := 0) (m := 1) (n := ks.length - 1), show 1 + (ks.length - 1) = ks.length by omega]
 rw [e]
 exact ga_ext (by simp) fun i hi => by rw [ga_map _ _ _ (by simpa using hi), ga_eq (show i < (List.range ks.length).length by simpa using hi), List.getElem_range]
theorem last_ {α : Type} [Inhabited α] {p : List α} {j : Nat} (h : p.length = j + 1) : p = p.dropLast ++ [ga p j] := by
 have hne : p ≠ [] := fun e => by rw [e] at h; cases h
 have e := List.dropLast_concat_getLast hne
 rw [List.getLast_eq_getElem] at e
 rw [ga_eq (by omega)]
 have e2 : p.length - 1 = j := by omega
 simp only [e2] at e
 exact e.symm
theorem ins_swap {ks : List OK} {p q r : List Nat} {i j : Nat} {kz : List OK} (hk : kz = List.map (ga ks) (p ++ i :: (q ++ r))) (hp : p.length = j + 1) :
  (kz.set (j + 1) ((ga kz j).1, (ga kz j).2)).set j ((ga kz (j + 1)).1, (ga kz (j + 1)).2) = List.map (ga ks) (p.dropLast ++ i :: ((ga p j :: q) ++ r)) ∧
  (kz.set j ((ga kz (j + 1)).1, (ga kz (j + 1)).2)).set (j + 1) ((ga kz j).1, (ga kz j).2) = List.map (ga ks) (p.dropLast ++ i :: ((ga p j :: q) ++ r)) := by
 have e := last_ hp
 generalize ga p j = y at e
 generalize hq : p.dropLast = p' at e ⊢
 have hl : p'.length = j := by rw [← hq, List.length_dropLast]; omega
 have e2 : kz = List.map (ga ks) p' ++ (ga ks y :: ga ks i :: List.map (ga ks) (q ++ r)) := by rw [hk, e]; simp
 have l1 : (List.map (ga ks) p').length = j := by simp [hl]
 have g1 : ga kz j = ga ks y := by rw [e2, ga_append_right _ _ _ (by omega), l1, Nat.sub_self]; rfl
 have g2 : ga kz (j + 1) = ga ks i := by rw [e2, ga_append_right _ _ _ (by omega), l1, show j + 1 - j = 1 by omega]; rfl
 rw [g1, g2, e2]
 constructor
 ·rw [List.set_append_right _ _ (by omega), l1, show j + 1 - j = 1 by omega, List.set_cons_succ, List.set_cons_zero, List.set_append_right _ _ (by omega), l1, Nat.sub_self, List.set_cons_zero]; simp
 ·rw [List.set_append_right _ _ (by omega), l1, Nat.sub_self, List.set_cons_zero, List.set_append_right _ _ (by omega), l1, show j + 1 - j = 1 by omega, List.set_cons_succ, List.set_cons_zero]; simp
theorem ins_ga {ks : List OK} {p q r : List Nat} {i j : Nat} {kz : List OK} (hk : kz = List.map (ga ks) (p ++ i :: (q ++ r))) (hp : p.length = j + 1) : ga kz j = ga ks (ga p j) ∧ ga kz (j + 1) = ga ks i := by
 rw [hk, List.map_append]
 refine ⟨by rw [ga_append_left _ _ _ (by simp; omega), ga_map _ _ _ (by omega)], by rw [ga_append_right _ _ _ (by simp; omega), List.length_map, hp, Nat.sub_self]; rfl⟩
theorem ins_step {K : Nat → List Int} {p q : List Nat} {i j : Nat} (hp : p.length = j + 1) (h : (p ++ q).Pairwise (bef K)) (hq : ∀ x, x ∈ q → bef K i x) (hl : lessL (K i) (K (ga p j)) = true) :
  (p.dropLast ++ (ga p j :: q)).Pairwise (bef K) ∧ ∀ x, x ∈ ga p j :: q → bef K i x := by
 have e := last_ hp
 refine ⟨by rw [e] at h; simpa using h, fun x hx => ?_⟩
 rcases List.mem_cons.1 hx with rfl | hx
 ·exact .inl hl
 ·exact hq x hx
theorem ins_perm {p q : List Nat} {i j : Nat} (hp : p.length = j + 1) (h : (p ++ q).Perm (List.range i)) : (p.dropLast ++ (ga p j :: q)).Perm (List.range i) := by
 have e := last_ hp
 rw [e] at h; simpa using h
theorem ins_done {K : Nat → List Int} {p q : List Nat} {i : Nat} (hpm : (p ++ q).Perm (List.range i)) (h : (p ++ q).Pairwise (bef K)) (hq : ∀ x, x ∈ q → bef K i x) (hl : ∀ j, p.length = j + 1 → lessL (K i) (K (ga p j)) = false) :
  (p ++ i :: q).Perm (List.range (i + 1)) ∧ (p ++ i :: q).Pairwise (bef K) := by
 have h2 := List.pairwise_append.1 h
 have hpi : ∀ x, x ∈ p → bef K x i := fun x hx => by
  rcases hj : p.length with _ | j
  ·have := List.length_eq_zero_iff.1 hj; rw [this] at hx; cases hx
  ·have e := last_ hj
   have hyi : ga p j < i := List.mem_range.1 (hpm.subset (List.mem_append_left _ (ga_mem (by omega))))
   have hb : bef K (ga p j) i := .inr ⟨hl j hj, hyi⟩
   rw [e] at hx
   rcases List.mem_append.1 hx with hx | hx
   ·have h3 := h2.1
    rw [e] at h3
    exact bef_trans ((List.pairwise_append.1 h3).2.2 x hx _ (List.mem_singleton.2 rfl)) hb
   ·rw [List.mem_singleton] at hx; rw [hx]; exact hb
 refine ⟨?_, ?_⟩
 ·rw [List.range_succ]
  exact (List.perm_middle.trans (List.Perm.cons i hpm)).trans (List.perm_append_singleton i _).symm
 ·refine List.pairwise_append.2 ⟨h2.1, List.pairwise_cons.2 ⟨hq, h2.2.1⟩, fun x hx y hy => ?_⟩
  rcases List.mem_cons.1 hy with rfl | hy
  ·exact hpi x hx
  ·exact h2.2.2 x hx y hy
noncomputable def insSort_n0 : Code := Try.f122.body.getD .skip
noncomputable def insSort_n1 : Code := cL insSort_n0
noncomputable def insSort_n2 : Code := cR insSort_n0
noncomputable def insSort_n3 : Code := cL insSort_n2
noncomputable def insSort_n4 : Code := cL insSort_n3
noncomputable def insSort_n5 : Code := cL insSort_n4
noncomputable def insSort_n6 : Code := cR insSort_n4
noncomputable def insSort_n7 : Code := cL insSort_n5
noncomputable def insSort_n8 : Code := cR insSort_n5
noncomputable def insSort_n9 : Code := cL insSort_n8
noncomputable def insSort_n10 : Code := cR insSort_n8
noncomputable def insSort_n11 : Code := cL insSort_n6
noncomputable def insSort_n12 : Code := cR insSort_n6
noncomputable def insSort_n13 : Code := cL insSort_n11
noncomputable def insSort_n14 : Code := cL insSort_n13
noncomputable def insSort_n15 : Code := cR insSort_n13
noncomputable def insSort_n16 : Code := cL insSort_n15
noncomputable def insSort_n17 : Code := cL insSort_n16
noncomputable def insSort_n18 : Code := cL insSort_n17
noncomputable def insSort_n19 : Code := cR insSort_n17
noncomputable def insSort_n20 : Code := cL insSort_n18
noncomputable def insSort_n21 : Code := cR insSort_n18
noncomputable def insSort_n22 : Code := cL insSort_n21
noncomputable def insSort_n23 : Code := cR insSort_n21
noncomputable def insSort_n24 : Code := cL insSort_n19
noncomputable def insSort_n25 : Code := cR insSort_n19
noncomputable def insSort_n26 : Code := cL insSort_n24
set_option maxRecDepth 10000 in
theorem insSort_w {w : World} {M : Hp} {X : Fr} (vvs : Value) (vs : List Vw) (ks : List OK) (m : Nat) (hz : VwOk M vs ks) (hkm : ks.length = m) (hm16 : m ≤ 16) (h9 : ∀ i, i < m → (ga ks i).2.length = 9 * (ga ks i).1.length) (S : SH w M X [Rs.row cdVw vvs vs]) : C1 Try.prog 122 [vvs, .int .i64 0, .int .i64 (m : Int), .func (.func 65) #[] #[]] w M X (fun u M' r' => u = tup [] ∧ M' = M ∧ ∃ ws' σ, VwOk M ws' (List.map (ga ks) σ) ∧ SortK (kO ks) m σ ∧ r' = Rs.row cdVw vvs ws') := by
 unfold C1
 refine calls_in (b := insSort_n0) Try.func122 rfl Try.ntmps122 rfl (fun C hC => ?_)
 refine ws_sub [(0, _), (1, _), (2, _), (3, _)] ⟨rfl, rfl, rfl, rfl, trivial⟩ ?_
 refine ws_seqN insSort_n1 insSort_n2 rfl rfl rfl ?_
 refine ws_region rfl ?_
 refine wlm 0 1 rfl rfl rfl rfl rfl rfl rfl ?_
 refine wlo 1 2 rfl rfl rfl (wo_run rfl rfl (run_add rfl rfl rfl (by first | omega | (simp only [lens]; omega))) ?_)
 refine wla 2 3 rfl rfl rfl rfl rfl rfl rfl ?_
 refine wl_end rfl ?_
 refine nm_sub [(0, _), (1, _), (2, _), (3, _), (8, _)] ⟨rfl, rfl, rfl, rfl, rfl, trivial⟩ ?_
 refine nm_thn ?_
 refine ws_blockN insSort_n3 0 rfl rfl rfl ?_
 refine ws_loopE (fun mx_ ax_ wx_ => ∃ (i : Nat) (ws : List Vw) (kz : List OK) (σ : List Nat) (vvs1 : Value), mx_ = m - i ∧ Env 53 [(0, vvs1), (1, .int .i64 0), (2, .int .i64 (m : Int)), (3, .func (.func 65) #[] #[]), (8, .int .i64 (i : Int))] ax_ ∧ SH wx_ M X [Rs.row cdVw vvs1 ws] ∧ vvs1 = vvs ∧ 1 ≤ i ∧ (m = 0 ∨ i ≤ m ∨ i = 1) ∧ kz = List.map (ga ks) (σ ++ rst (min i m) m) ∧ σ.Perm (List.range (min i m)) ∧ σ.Pairwise (bef (kO ks)) ∧ VwOk M ws kz) rfl ?_ ?_
 ·intro ax_ hax_
  refine ⟨_, ⟨1, _, ks, (List.range (min 1 m)), _, rfl, hax_.sub ⟨rfl, rfl, rfl, rfl, rfl, trivial⟩, S.pick [0] [_] (by decide) ⟨rfl, trivial⟩, ?hq1f0, ?hq1f1, ?hq1f2, ?hq1f3, ?hq1f4, ?hq1f5, ?hq1f6⟩⟩
  case hq1f0 => rfl
  case hq1f1 => omega
  case hq1f2 => omega
  case hq1f3 => (have := ins_start ks; rw [hkm] at this; exact this)
  case hq1f4 => exact List.Perm.refl _
  case hq1f5 => (rcases Nat.eq_zero_or_pos m with h | h; (rw [h]; exact List.Pairwise.nil); (rw [Nat.min_eq_left h]; exact List.pairwise_singleton _ _))
  case hq1f6 => exact hz
 ·rintro m1 a1 w1 ⟨i, ws, kz, σ, vvs1, rfl, he1, S1, hvv, hi1, him, hkz, hpm, hpw, hz1⟩
  clear S
  refine ws_in he1 (c := insSort_n4) rfl ?_
  clear he1 a1
  have hzl := hz1.1
  refine ws_seqN insSort_n5 insSort_n6 rfl rfl rfl ?_
  refine ws_seqN insSort_n7 insSort_n8 rfl rfl rfl ?_
  refine ws_region rfl ?_
  refine wlm 0 1 rfl rfl rfl rfl rfl rfl rfl ?_
  refine wlm 1 2 rfl rfl rfl rfl rfl rfl rfl ?_
  refine wlo 2 3 rfl rfl rfl (wo_run rfl rfl (run_lss rfl rfl rfl) ?_)
  refine wl_end rfl ?_
  refine nm_sub [(0, _), (1, _), (2, _), (3, _), (8, _), (14, _)] ⟨rfl, rfl, rfl, rfl, rfl, rfl, trivial⟩ ?_
  refine nm_thn ?_
  refine ws_condN insSort_n9 insSort_n10 rfl rfl rfl rfl (fun hb14 => ?_) (fun hb14 => ?_)
  ·replace hb14 := of_decide_eq_true hb14
   refine ws_skip rfl ?_
   refine nm_sub [(0, _), (1, _), (2, _), (3, _), (8, _)] ⟨rfl, rfl, rfl, rfl, rfl, trivial⟩ ?_
   refine nm_thn ?_
   refine ws_seqN insSort_n11 insSort_n12 rfl rfl rfl ?_
   refine ws_blockN insSort_n13 1 rfl rfl rfl ?_
   refine ws_seqN insSort_n14 insSort_n15 rfl rfl rfl ?_
   refine ws_region rfl ?_
   refine wlm 0 1 rfl rfl rfl rfl rfl rfl rfl ?_
   refine wla 1 2 rfl rfl rfl rfl rfl rfl rfl ?_
   refine wl_end rfl ?_
   refine nm_sub [(0, _), (1, _), (2, _), (3, _), (8, _), (9, _)] ⟨rfl, rfl, rfl, rfl, rfl, rfl, trivial⟩ ?_
   refine nm_thn ?_
   refine ws_blockN insSort_n16 2 rfl rfl rfl ?_
   refine ws_loopE (fun mx_ ax_ wx_ => ∃ (j : Nat) (ws2 : List Vw) (kz2 : List OK) (p : List Nat) (q : List Nat) (vvs2 : Value), mx_ = 2 * j ∧ Env 53 [(0, vvs2), (1, .int .i64 0), (2, .int .i64 (m : Int)), (3, .func (.func 65) #[] #[]), (8, .int .i64 (i : Int)), (9, .int .i64 (j : Int))] ax_ ∧ SH wx_ M X [Rs.row cdVw vvs2 ws2] ∧ vvs2 = vvs ∧ p.length = j ∧ kz2 = List.map (ga ks) (p ++ i :: (q ++ rst (i + 1) m)) ∧ (p ++ q).Perm (List.range i) ∧ (p ++ q).Pairwise (bef (kO ks)) ∧ (∀ x, x ∈ q → bef (kO ks) i x) ∧ VwOk M ws2 kz2) rfl ?_ ?_
   ·intro ax_ hax_
    refine ⟨_, ⟨i, _, kz, σ, [], _, rfl, hax_.sub ⟨rfl, rfl, rfl, rfl, rfl, rfl, trivial⟩, S1.pick [0] [_] (by decide) ⟨rfl, trivial⟩, ?hq2f0, ?hq2f1, ?hq2f2, ?hq2f3, ?hq2f4, ?hq2f5, ?hq2f6⟩⟩
    case hq2f0 => assumption
    case hq2f1 => (have := hpm.length_eq; rw [List.length_range, Nat.min_eq_left (by omega)] at this; exact this)
    case hq2f2 => (rw [hkz, Nat.min_eq_left (by omega), rst_cons (show i < m by omega)]; rfl)
    case hq2f3 => (rw [List.append_nil]; rw [Nat.min_eq_left (by omega)] at hpm; exact hpm)
    case hq2f4 => (rw [List.append_nil]; exact hpw)
    case hq2f5 => (intro x hx; cases hx)
    case hq2f6 => exact hz1
   ·rintro m2 a2 w2 ⟨j, ws2, kz2, p, q, vvs2, rfl, he2, S2, hvv2, hpl, hk2, hpm2, hpw2, hq2, hz2⟩
    clear S1
    refine ws_in he2 (c := insSort_n17) rfl ?_
    clear he2 a2
    have hpql := hpm2.length_eq
    rw [List.length_append, List.length_range] at hpql
    have hk2l : kz2.length = m := by rw [hk2, List.length_map, List.length_append, List.length_cons, List.length_append]; unfold rst; rw [List.length_range']; omega
    have hw2l := hz2.1
    refine ws_seqN insSort_n18 insSort_n19 rfl rfl rfl ?_
    refine ws_seqN insSort_n20 insSort_n21 rfl rfl rfl ?_
    refine ws_draw rfl (by kernel_rfl) S2 17 rfl ?_
    clear S2
    refine wa_takeP (i := 0) (d := 18) 16 rfl (by kernel_rfl) (by kernel_rfl) (by kernel_rfl) rfl rfl rfl (fun w3 => run_move rfl rfl) ?_
    refine wa_takeP (i := 1) (d := 19) 15 rfl (by kernel_rfl) (by kernel_rfl) (by kernel_rfl) rfl rfl rfl (fun w4 => run_move rfl rfl) ?_
    refine wa_takeP (i := 2) (d := 20) 14 rfl (by kernel_rfl) (by kernel_rfl) (by kernel_rfl) rfl rfl rfl (fun w5 => run_gtr rfl rfl rfl) ?_
    refine wa_takeP (i := 3) (d := 21) 13 rfl (by kernel_rfl) (by kernel_rfl) (by kernel_rfl) rfl rfl rfl (fun w6 => run_move rfl rfl) ?_
    refine wa_split (t := 21) rfl (fun hg21 => ?_) (fun hg21 => ?_)
    ·replace hg21 := of_decide_eq_true hg21
     obtain ⟨j1, rfl⟩ : ∃ j1, j = j1 + 1 := ⟨j - 1, by omega⟩
     obtain ⟨hg1, hg2⟩ := ins_ga hk2 hpl
     have hy1 : ga p j1 < i := List.mem_range.1 (hpm2.subset (List.mem_append_left _ (ga_mem (by omega))))
     have hcv := @cmpV_less (ga ks i).1 (ga ks i).2 (ga ks (ga p j1)).1 (ga ks (ga p j1)).2 (h9 i (by omega)) (h9 (ga p j1) (by omega))
     refine wa_takeP (i := 4) (d := 22) 12 rfl (by kernel_rfl) (by kernel_rfl) (by kernel_rfl) ⟨_, _, _, rfl, rfl, rfl, rfl⟩ rfl rfl (fun w7 => run_move rfl rfl) ?_
     refine wa_takeP (i := 5) (d := 23) 11 rfl (by kernel_rfl) (by kernel_rfl) (by kernel_rfl) ⟨_, _, _, rfl, rfl, rfl, rfl⟩ rfl rfl (fun w8 => run_move rfl rfl) ?_
     refine wa_takeP (i := 6) (d := 24) 10 rfl (by kernel_rfl) (by kernel_rfl) (by kernel_rfl) ⟨_, _, _, rfl, rfl, rfl, rfl⟩ rfl rfl (fun w9 => run_move rfl rfl) ?_
     refine wa_take (i := 7) (d := 25) 9 rfl (by kernel_rfl) (by kernel_rfl) (by kernel_rfl) ⟨_, _, _, rfl, rfl, rfl, rfl⟩ rfl rfl (fun M8 N8 w10 hle10 S10 => .inl (run_indexR (C := cdVw) (i := 0) (j1 + 1) rfl rfl rfl sl105 S10.suf rfl (by first | rfl | omega) (by first | omega | (simp only [lens]; omega)))) ?_
     obtain ⟨hn1, hr1, hn2, hr2⟩ := hz2.2 (j1 + 1) (by first | omega | (simp only [lens]; omega))
     have rmhr1 : ((ga kz2 (j1 + 1)).1).length * 8 ≤ 140737488355328 := hr1.room
     have rmhr2 : ((ga kz2 (j1 + 1)).2).length * 8 ≤ 140737488355328 := hr2.room
     refine wa_take (i := 8) (d := 26) 8 rfl (by kernel_rfl) (by kernel_rfl) (by kernel_rfl) ⟨_, _, _, rfl, rfl, rfl, rfl⟩ rfl rfl (fun M9 N9 w11 hle11 S11 => .inl (run_loadN (us := [_, _]) rfl rfl Try.underlying108 rfl sz108 (S11.suf.rowcs (i := 0) (e := j1 + 1) (j := 0) rfl (by first | omega | (simp only [lens]; omega)) ⟨congrArg (fun n => some (Value.slice _ n _)) hn1, congrArg (fun n => some (Value.slice _ n _)) hn2, trivial⟩))) ?_
     refine wa_takeP (i := 9) (d := 27) 7 rfl (by kernel_rfl) (by kernel_rfl) (by kernel_rfl) ⟨_, _, _, rfl, rfl, rfl, rfl⟩ rfl rfl (fun w12 => run_move rfl rfl) ?_
     refine wa_takeP (i := 10) (d := 28) 6 rfl (by kernel_rfl) (by kernel_rfl) (by kernel_rfl) ⟨_, _, _, rfl, rfl, rfl, rfl⟩ rfl rfl (fun w13 => run_move rfl rfl) ?_
     refine wa_takeP (i := 11) (d := 29) 5 rfl (by kernel_rfl) (by kernel_rfl) (by kernel_rfl) ⟨_, _, _, rfl, rfl, rfl, rfl⟩ rfl rfl (fun w14 => run_sub rfl rfl rfl (by first | omega | (simp only [lens]; omega))) ?_
     refine wa_take (i := 12) (d := 30) 4 rfl (by kernel_rfl) (by kernel_rfl) (by kernel_rfl) ⟨_, _, _, rfl, rfl, rfl, rfl⟩ rfl rfl (fun M13 N13 w15 hle15 S15 => .inl (run_indexR (C := cdVw) (i := 0) j1 rfl rfl rfl sl105 S15.suf rfl (by first | rfl | omega) (by first | omega | (simp only [lens]; omega)))) ?_
     obtain ⟨hn3, hr3, hn4, hr4⟩ := hz2.2 j1 (by first | omega | (simp only [lens]; omega))
     have rmhr3 : ((ga kz2 j1).1).length * 8 ≤ 140737488355328 := hr3.room
     have rmhr4 : ((ga kz2 j1).2).length * 8 ≤ 140737488355328 := hr4.room
     refine wa_take (i := 13) (d := 31) 3 rfl (by kernel_rfl) (by kernel_rfl) (by kernel_rfl) ⟨_, _, _, rfl, rfl, rfl, rfl⟩ rfl rfl (fun M14 N14 w16 hle16 S16 => .inl (run_loadN (us := [_, _]) rfl rfl Try.underlying108 rfl sz108 (S16.suf.rowcs (i := 0) (e := j1) (j := 0) rfl (by first | omega | (simp only [lens]; omega)) ⟨congrArg (fun n => some (Value.slice _ n _)) hn3, congrArg (fun n => some (Value.slice _ n _)) hn4, trivial⟩))) ?_
     refine wa_only (i := 14) 2 rfl (by kernel_rfl) ⟨_, _, _, rfl, rfl, rfl, rfl⟩ rfl (fun w18 S18 => ?_)
     refine (wo_cq rfl rfl rfl rfl rfl rfl rfl cf65 S18 (FCmp_q ((ga kz2 (j1 + 1)).1) ((ga kz2 (j1 + 1)).2) ((ga kz2 j1).1) ((ga kz2 j1).2) (hr1.mono (Hp.le_un _ _)) (hr2.mono (Hp.le_un _ _)) (hr3.mono (Hp.le_un _ _)) (hr4.mono (Hp.le_un _ _)) S18.lend) ?_)
     rintro _ w19 S19 rfl; clear S18
     refine LeftW.grow [] (Hp.le_refl _) S19 ?_; clear S19
     change WA _ _ _ _ _ _ _ _ _ _ _ _ [_]
     refine wa_takeP (i := 15) (d := 33) 1 rfl (by kernel_rfl) (by kernel_rfl) (by kernel_rfl) ⟨_, _, _, rfl, rfl, rfl, rfl⟩ rfl rfl (fun w20 => run_lss rfl rfl rfl) ?_
     refine wa_takeP (i := 16) (d := 34) 0 rfl (by kernel_rfl) (by kernel_rfl) (by kernel_rfl) rfl rfl rfl (fun w21 => run_pickT rfl rfl rfl) ?_
     refine wa_end (by kernel_rfl) (fun w22 S22 => ?_)
     refine nm_sub [(0, _), (1, _), (2, _), (3, _), (8, _), (9, _), (34, _)] ⟨rfl, rfl, rfl, rfl, rfl, rfl, rfl, trivial⟩ ?_
     refine nm_thn ?_
     refine ws_condN insSort_n22 insSort_n23 rfl rfl rfl rfl (fun hb34 => ?_) (fun hb34 => ?_)
     ·replace hb34 := of_decide_eq_true hb34
      rw [hg1, hg2] at hb34
      have hls : lessL (kO ks i) (kO ks (ga p j1)) = true := hcv.1 hb34
      refine ws_skip rfl ?_
      refine nm_sub [(0, _), (1, _), (2, _), (3, _), (8, _), (9, _)] ⟨rfl, rfl, rfl, rfl, rfl, rfl, trivial⟩ ?_
      refine nm_thn ?_
      refine ws_seqN insSort_n24 insSort_n25 rfl rfl rfl ?_
      refine ws_blockN insSort_n26 3 rfl rfl rfl ?_
      refine ws_draw rfl (by kernel_rfl) S22 18 rfl ?_
      clear S22
      refine wa_takeP (i := 0) (d := 37) 17 rfl (by kernel_rfl) (by kernel_rfl) (by kernel_rfl) rfl rfl rfl (fun w23 => run_move rfl rfl) ?_
      refine wa_takeP (i := 1) (d := 38) 16 rfl (by kernel_rfl) (by kernel_rfl) (by kernel_rfl) rfl rfl rfl (fun w24 => run_move rfl rfl) ?_
      refine wa_takeP (i := 2) (d := 39) 15 rfl (by kernel_rfl) (by kernel_rfl) (by kernel_rfl) rfl rfl rfl (fun w25 => run_move rfl rfl) ?_
      refine wa_takeP (i := 3) (d := 40) 14 rfl (by kernel_rfl) (by kernel_rfl) (by kernel_rfl) rfl rfl rfl (fun w26 => run_move rfl rfl) ?_
      refine wa_takeP (i := 4) (d := 41) 13 rfl (by kernel_rfl) (by kernel_rfl) (by kernel_rfl) rfl rfl rfl (fun w27 => run_sub rfl rfl rfl (by first | omega | (simp only [lens]; omega))) ?_
      refine wa_takeP (i := 5) (d := 42) 12 rfl (by kernel_rfl) (by kernel_rfl) (by kernel_rfl) rfl rfl rfl (fun w28 => run_move rfl rfl) ?_
      refine wa_takeP (i := 6) (d := 43) 11 rfl (by kernel_rfl) (by kernel_rfl) (by kernel_rfl) rfl rfl rfl (fun w29 => run_move rfl rfl) ?_
      refine wa_takeP (i := 7) (d := 44) 10 rfl (by kernel_rfl) (by kernel_rfl) (by kernel_rfl) rfl rfl rfl (fun w30 => run_sub rfl rfl rfl (by first | omega | (simp only [lens]; omega))) ?_
      refine wa_take (i := 8) (d := 45) 9 rfl (by kernel_rfl) (by kernel_rfl) (by kernel_rfl) rfl rfl rfl (fun M26 N26 w31 hle28 S31 => .inl (run_indexR (C := cdVw) (i := 0) j1 rfl rfl rfl sl105 S31.suf rfl (by first | rfl | omega) (by first | omega | (simp only [lens]; omega)))) ?_
      obtain ⟨hn5, hr5, hn6, hr6⟩ := hz2.2 j1 (by first | omega | (simp only [lens]; omega))
      have rmhr5 : ((ga kz2 j1).1).length * 8 ≤ 140737488355328 := hr5.room
      have rmhr6 : ((ga kz2 j1).2).length * 8 ≤ 140737488355328 := hr6.room
      refine wa_take (i := 9) (d := 46) 8 rfl (by kernel_rfl) (by kernel_rfl) (by kernel_rfl) rfl rfl rfl (fun M27 N27 w32 hle29 S32 => .inl (run_loadN (us := [_, _]) rfl rfl Try.underlying108 rfl sz108 (S32.suf.rowcs (i := 0) (e := j1) (j := 0) rfl (by first | omega | (simp only [lens]; omega)) ⟨congrArg (fun n => some (Value.slice _ n _)) hn5, congrArg (fun n => some (Value.slice _ n _)) hn6, trivial⟩))) ?_
      refine wa_takeP (i := 10) (d := 47) 7 rfl (by kernel_rfl) (by kernel_rfl) (by kernel_rfl) rfl rfl rfl (fun w33 => run_move rfl rfl) ?_
      refine wa_takeP (i := 11) (d := 48) 6 rfl (by kernel_rfl) (by kernel_rfl) (by kernel_rfl) rfl rfl rfl (fun w34 => run_move rfl rfl) ?_
      refine wa_take (i := 12) (d := 49) 5 rfl (by kernel_rfl) (by kernel_rfl) (by kernel_rfl) rfl rfl rfl (fun M30 N30 w35 hle32 S35 => .inl (run_indexR (C := cdVw) (i := 0) (j1 + 1) rfl rfl rfl sl105 S35.suf rfl (by first | rfl | omega) (by first | omega | (simp only [lens]; omega)))) ?_
      obtain ⟨hn7, hr7, hn8, hr8⟩ := hz2.2 (j1 + 1) (by first | omega | (simp only [lens]; omega))
      have rmhr7 : ((ga kz2 (j1 + 1)).1).length * 8 ≤ 140737488355328 := hr7.room
      have rmhr8 : ((ga kz2 (j1 + 1)).2).length * 8 ≤ 140737488355328 := hr8.room
      refine wa_take (i := 13) (d := 50) 4 rfl (by kernel_rfl) (by kernel_rfl) (by kernel_rfl) rfl rfl rfl (fun M31 N31 w36 hle33 S36 => .inl (run_loadN (us := [_, _]) rfl rfl Try.underlying108 rfl sz108 (S36.suf.rowcs (i := 0) (e := j1 + 1) (j := 0) rfl (by first | omega | (simp only [lens]; omega)) ⟨congrArg (fun n => some (Value.slice _ n _)) hn7, congrArg (fun n => some (Value.slice _ n _)) hn8, trivial⟩))) ?_
      refine wa_take (i := 14) (d := 51) 3 rfl (by kernel_rfl) (by kernel_rfl) (by kernel_rfl) rfl rfl rfl (fun M32 N32 w37 hle34 S37 => .inl (run_indexR (C := cdVw) (i := 0) (j1 + 1) rfl rfl rfl sl105 S37.suf rfl (by first | rfl | omega) (by first | omega | (simp only [lens]; omega)))) ?_
      refine wa_only (i := 15) 2 rfl (by kernel_rfl) rfl rfl (fun w39 S39 => ?_)
      refine (wo_storeR (C := cdVw) (i := 0) (e := j1 + 1) (j := 0) (us := [_, _]) (H' := [_]) (⟨(⟨(ga ws2 j1).o.A, ((ga kz2 j1).1).length, (ga ws2 j1).o.c⟩ : SlV), (⟨(ga ws2 j1).k.A, ((ga kz2 j1).2).length, (ga ws2 j1).k.c⟩ : SlV)⟩ : Vw) rfl rfl S39 rfl (by first | omega | (simp only [lens]; omega)) rfl rfl rfl sz108 rfl rfl rfl rfl ?_)
      intro w40 S40; clear S39
      have hz1 := hz2.set_ (j1 + 1) (by first | omega | (simp only [lens]; omega)) hr5 hr6
      refine LeftW.turn (by kernel_rfl) S40 ?_; clear S40
      change WA _ _ _ _ _ _ _ _ _ _ _ _ [_]
      refine wa_take (i := 16) (d := 52) 1 rfl (by kernel_rfl) (by kernel_rfl) (by kernel_rfl) rfl rfl rfl (fun M34 N34 w41 hle36 S41 => .inl (run_indexR (C := cdVw) (i := 0) j1 rfl rfl rfl sl105 S41.suf rfl (by first | rfl | omega) (by first | omega | (simp only [lens]; omega)))) ?_
      refine wa_only (i := 17) 0 rfl (by kernel_rfl) rfl rfl (fun w43 S43 => ?_)
      refine (wo_storeR (C := cdVw) (i := 0) (e := j1) (j := 0) (us := [_, _]) (H' := [_]) (⟨(⟨(ga ws2 (j1 + 1)).o.A, ((ga kz2 (j1 + 1)).1).length, (ga ws2 (j1 + 1)).o.c⟩ : SlV), (⟨(ga ws2 (j1 + 1)).k.A, ((ga kz2 (j1 + 1)).2).length, (ga ws2 (j1 + 1)).k.c⟩ : SlV)⟩ : Vw) rfl rfl S43 rfl (by first | omega | (simp only [lens]; omega)) rfl rfl rfl sz108 rfl rfl rfl rfl ?_)
      intro w44 S44; clear S43
      have hz2 := hz1.set_ j1 (by first | omega | (simp only [lens]; omega)) hr7 hr8
      refine LeftW.turn (by kernel_rfl) S44 ?_; clear S44
      change WA _ _ _ _ _ _ _ _ _ _ _ _ [_]
      refine wa_end (by kernel_rfl) (fun w45 S45 => ?_)
      refine nm_blk ?_
      refine nm_sub [(0, _), (1, _), (2, _), (3, _), (8, _), (9, _)] ⟨rfl, rfl, rfl, rfl, rfl, rfl, trivial⟩ ?_
      refine nm_thn ?_
      refine ws_region rfl ?_
      refine wlm 0 1 rfl rfl rfl rfl rfl rfl rfl ?_
      refine wlo 1 2 rfl rfl rfl (wo_run rfl rfl (run_sub rfl rfl rfl (by first | omega | (simp only [lens]; omega))) ?_)
      refine wl_eq 36 (.int .i64 (j1 : Int)) rfl (int_eq (by omega)) ?_
      refine wla 2 3 rfl rfl rfl rfl rfl rfl rfl ?_
      refine wl_end rfl ?_
      refine nm_lp ?_
      intro ax_ hax_
      refine ⟨_, ?hq3m, ⟨j1, _, ((kz2.set (j1 + 1) ((ga kz2 j1).1, (ga kz2 j1).2)).set j1 ((ga kz2 (j1 + 1)).1, (ga kz2 (j1 + 1)).2)), p.dropLast, (ga p j1 :: q), _, rfl, hax_.sub ⟨rfl, rfl, rfl, rfl, rfl, rfl, trivial⟩, S45.pick [0] [_] (by decide) ⟨rfl, trivial⟩, ?hq3f0, ?hq3f1, ?hq3f2, ?hq3f3, ?hq3f4, ?hq3f5, ?hq3f6⟩⟩
      case hq3f0 => assumption
      case hq3f1 => (rw [List.length_dropLast]; omega)
      case hq3f2 => first | exact (ins_swap hk2 hpl).1 | exact (ins_swap hk2 hpl).2
      case hq3f3 => exact ins_perm hpl hpm2
      case hq3f4 => exact (ins_step hpl hpw2 hq2 hls).1
      case hq3f5 => exact (ins_step hpl hpw2 hq2 hls).2
      case hq3f6 => exact hz2
      case hq3m => omega
     ·replace hb34 := of_decide_eq_false hb34
      rw [hg1, hg2] at hb34
      have hst : ∀ j, p.length = j + 1 → lessL (kO ks i) (kO ks (ga p j)) = false := fun j hj => by
       obtain rfl : j = j1 := by omega
       cases hbl : lessL (kO ks i) (kO ks (ga p j)) with
       | false => rfl
       | true => exact absurd (hcv.2 hbl) hb34
      refine ws_exit rfl rfl ?_
      refine nm_blk ?_
      refine nm_sub [(0, _), (1, _), (2, _), (3, _), (8, _)] ⟨rfl, rfl, rfl, rfl, rfl, trivial⟩ ?_
      refine nm_thn ?_
      refine ws_region rfl ?_
      refine wlm 0 1 rfl rfl rfl rfl rfl rfl rfl ?_
      refine wlo 1 2 rfl rfl rfl (wo_run rfl rfl (run_add rfl rfl rfl (by first | omega | (simp only [lens]; omega))) ?_)
      refine wla 2 3 rfl rfl rfl rfl rfl rfl rfl ?_
      refine wl_end rfl ?_
      refine nm_lp ?_
      intro ax_ hax_
      refine ⟨_, ?hq4m, ⟨i + 1, _, kz2, (p ++ i :: q), _, rfl, hax_.sub ⟨rfl, rfl, rfl, rfl, rfl, trivial⟩, S22.pick [0] [_] (by decide) ⟨rfl, trivial⟩, ?hq4f0, ?hq4f1, ?hq4f2, ?hq4f3, ?hq4f4, ?hq4f5, ?hq4f6⟩⟩
      case hq4f0 => assumption
      case hq4f1 => omega
      case hq4f2 => omega
      case hq4f3 => (rw [Nat.min_eq_left (by omega), hk2]; simp)
      case hq4f4 => (rw [Nat.min_eq_left (by omega)]; exact (ins_done hpm2 hpw2 hq2 hst).1)
      case hq4f5 => exact (ins_done hpm2 hpw2 hq2 hst).2
      case hq4f6 => exact hz2
      case hq4m => omega
    ·replace hg21 := of_decide_eq_false hg21
     have hst : ∀ j, p.length = j + 1 → lessL (kO ks i) (kO ks (ga p j)) = false := fun j hj => by omega
     refine wa_no (i := 4) (d := 22) 12 rfl (by kernel_rfl) (by kernel_rfl) (by kernel_rfl) ⟨_, _, _, rfl, rfl, rfl, rfl⟩ rfl rfl ?_
     refine wa_no (i := 5) (d := 23) 11 rfl (by kernel_rfl) (by kernel_rfl) (by kernel_rfl) ⟨_, _, _, rfl, rfl, rfl, rfl⟩ rfl rfl ?_
     refine wa_no (i := 6) (d := 24) 10 rfl (by kernel_rfl) (by kernel_rfl) (by kernel_rfl) ⟨_, _, _, rfl, rfl, rfl, rfl⟩ rfl rfl ?_
     refine wa_no (i := 7) (d := 25) 9 rfl (by kernel_rfl) (by kernel_rfl) (by kernel_rfl) ⟨_, _, _, rfl, rfl, rfl, rfl⟩ rfl rfl ?_
     refine wa_no (i := 8) (d := 26) 8 rfl (by kernel_rfl) (by kernel_rfl) (by kernel_rfl) ⟨_, _, _, rfl, rfl, rfl, rfl⟩ rfl rfl ?_
     refine wa_no (i := 9) (d := 27) 7 rfl (by kernel_rfl) (by kernel_rfl) (by kernel_rfl) ⟨_, _, _, rfl, rfl, rfl, rfl⟩ rfl rfl ?_
     refine wa_no (i := 10) (d := 28) 6 rfl (by kernel_rfl) (by kernel_rfl) (by kernel_rfl) ⟨_, _, _, rfl, rfl, rfl, rfl⟩ rfl rfl ?_
     refine wa_no (i := 11) (d := 29) 5 rfl (by kernel_rfl) (by kernel_rfl) (by kernel_rfl) ⟨_, _, _, rfl, rfl, rfl, rfl⟩ rfl rfl ?_
     refine wa_no (i := 12) (d := 30) 4 rfl (by kernel_rfl) (by kernel_rfl) (by kernel_rfl) ⟨_, _, _, rfl, rfl, rfl, rfl⟩ rfl rfl ?_
     refine wa_no (i := 13) (d := 31) 3 rfl (by kernel_rfl) (by kernel_rfl) (by kernel_rfl) ⟨_, _, _, rfl, rfl, rfl, rfl⟩ rfl rfl ?_
     refine wa_no (i := 14) (d := 32) 2 rfl (by kernel_rfl) (by kernel_rfl) (by kernel_rfl) ⟨_, _, _, rfl, rfl, rfl, rfl⟩ rfl rfl ?_
     refine wa_no (i := 15) (d := 33) 1 rfl (by kernel_rfl) (by kernel_rfl) (by kernel_rfl) ⟨_, _, _, rfl, rfl, rfl, rfl⟩ rfl rfl ?_
     refine wa_takeP (i := 16) (d := 34) 0 rfl (by kernel_rfl) (by kernel_rfl) (by kernel_rfl) rfl rfl rfl (fun w46 => run_pickF rfl rfl rfl) ?_
     refine wa_end (by kernel_rfl) (fun w47 S47 => ?_)
     refine nm_sub [(0, _), (1, _), (2, _), (3, _), (8, _), (9, _), (34, _)] ⟨rfl, rfl, rfl, rfl, rfl, rfl, rfl, trivial⟩ ?_
     refine nm_thn ?_
     refine ws_condFN insSort_n23 rfl rfl rfl ?_
     refine ws_exit rfl rfl ?_
     refine nm_blk ?_
     refine nm_sub [(0, _), (1, _), (2, _), (3, _), (8, _)] ⟨rfl, rfl, rfl, rfl, rfl, trivial⟩ ?_
     refine nm_thn ?_
     refine ws_region rfl ?_
     refine wlm 0 1 rfl rfl rfl rfl rfl rfl rfl ?_
     refine wlo 1 2 rfl rfl rfl (wo_run rfl rfl (run_add rfl rfl rfl (by first | omega | (simp only [lens]; omega))) ?_)
     refine wla 2 3 rfl rfl rfl rfl rfl rfl rfl ?_
     refine wl_end rfl ?_
     refine nm_lp ?_
     intro ax_ hax_
     refine ⟨_, ?hq5m, ⟨i + 1, _, kz2, (p ++ i :: q), _, rfl, hax_.sub ⟨rfl, rfl, rfl, rfl, rfl, trivial⟩, S47.pick [0] [_] (by decide) ⟨rfl, trivial⟩, ?hq5f0, ?hq5f1, ?hq5f2, ?hq5f3, ?hq5f4, ?hq5f5, ?hq5f6⟩⟩
     case hq5f0 => assumption
     case hq5f1 => omega
     case hq5f2 => omega
     case hq5f3 => (rw [Nat.min_eq_left (by omega), hk2]; simp)
     case hq5f4 => (rw [Nat.min_eq_left (by omega)]; exact (ins_done hpm2 hpw2 hq2 hst).1)
     case hq5f5 => exact (ins_done hpm2 hpw2 hq2 hst).2
     case hq5f6 => exact hz2
     case hq5m => omega
  ·replace hb14 := of_decide_eq_false hb14
   have hmi : min i m = m := by omega
   rw [hmi] at hkz hpm
   rw [rst_end (Nat.le_refl m), List.append_nil] at hkz
   refine ws_exit rfl rfl ?_
   refine nm_end hC [] rfl trivial ?_
   exact ⟨_, rfl, _, _, Hp.le_refl _, S1.pick [0] [_] (by decide) ⟨rfl, trivial⟩, rfl, rfl, ws, σ, by rw [← hkz]; exact hz1, ⟨hpm, hpw⟩, by rw [hvv]⟩
noncomputable def stable_n0 : Code := Try.f99.body.getD .skip
noncomputable def stable_n1 : Code := cL stable_n0
noncomputable def stable_n2 : Code := cR stable_n0
noncomputable def stable_n3 : Code := cL stable_n2
noncomputable def stable_n4 : Code := cR stable_n2
noncomputable def stable_n5 : Code := cL stable_n4
noncomputable def stable_n6 : Code := cR stable_n4
noncomputable def stable_n7 : Code := cL stable_n5
noncomputable def stable_n8 : Code := cL stable_n7
noncomputable def stable_n9 : Code := cL stable_n8
noncomputable def stable_n10 : Code := cR stable_n8
noncomputable def stable_n11 : Code := cL stable_n9
noncomputable def stable_n12 : Code := cR stable_n9
noncomputable def stable_n13 : Code := cL stable_n12
noncomputable def stable_n14 : Code := cR stable_n12
noncomputable def stable_n15 : Code := cL stable_n6
noncomputable def stable_n16 : Code := cR stable_n6
noncomputable def stable_n17 : Code := cL stable_n16
noncomputable def stable_n18 : Code := cL stable_n17
noncomputable def stable_n19 : Code := cL stable_n18
noncomputable def stable_n20 : Code := cR stable_n18
noncomputable def stable_n21 : Code := cL stable_n19
noncomputable def stable_n22 : Code := cR stable_n19
noncomputable def stable_n23 : Code := cL stable_n22
noncomputable def stable_n24 : Code := cR stable_n22
set_option maxRecDepth 10000 in
theorem stable_w {w : World} {M : Hp} {X : Fr} (vvs : Value) (vs : List Vw) (ks : List OK) (m : Nat) (hz : VwOk M vs ks) (hkm : ks.length = m) (hm16 : m ≤ 16) (h9 : ∀ i, i < m → (ga ks i).2.length = 9 * (ga ks i).1.length) (S : SH w M X [Rs.row cdVw vvs vs]) : C1 Try.prog 99 [vvs, .int .i64 (m : Int), .func (.func 65) #[] #[]] w M X (fun u M' r' => u = tup [] ∧ M' = M ∧ ∃ ws' σ, VwOk M ws' (List.map (ga ks) σ) ∧ SortK (kO ks) m σ ∧ r' = Rs.row cdVw vvs ws') := by
 unfold C1
 refine calls_in (b := stable_n0) Try.func99 rfl Try.ntmps99 rfl (fun C hC => ?_)
 refine ws_sub [(0, _), (1, _), (2, _)] ⟨rfl, rfl, rfl, trivial⟩ ?_
 refine ws_seqN stable_n1 stable_n2 rfl rfl rfl ?_
 refine ws_region rfl ?_
 refine wla 0 1 rfl rfl rfl rfl rfl rfl rfl ?_
 refine wl_end rfl ?_
 refine nm_thn ?_
 refine ws_seqN stable_n3 stable_n4 rfl rfl rfl ?_
 refine ws_region rfl ?_
 refine wlm 0 1 rfl rfl rfl rfl rfl rfl rfl ?_
 refine wla 1 2 rfl rfl rfl rfl rfl rfl rfl ?_
 refine wla 2 3 rfl rfl rfl rfl rfl rfl rfl ?_
 refine wl_end rfl ?_
 refine nm_sub [(0, _), (1, _), (2, _), (6, _), (7, _), (8, _)] ⟨rfl, rfl, rfl, rfl, rfl, rfl, trivial⟩ ?_
 refine nm_thn ?_
 refine ws_seqN stable_n5 stable_n6 rfl rfl rfl ?_
 refine ws_blockN stable_n7 0 rfl rfl rfl ?_
 refine ws_loopE (fun mx_ ax_ wx_ => mx_ = 0 ∧ Env 63 [(0, vvs), (1, .int .i64 (m : Int)), (2, .func (.func 65) #[] #[]), (6, .int .i64 20), (7, .int .i64 0), (8, .int .i64 20)] ax_ ∧ SH wx_ M X [Rs.row cdVw vvs vs]) rfl ?_ ?_
 ·intro ax_ hax_
  refine ⟨_, ⟨rfl, hax_.sub ⟨rfl, rfl, rfl, rfl, rfl, rfl, trivial⟩, S.pick [0] [_] (by decide) ⟨rfl, trivial⟩⟩⟩
 ·rintro m1 a1 w1 ⟨rfl, he1, S1⟩
  clear S
  refine ws_in he1 (c := stable_n8) rfl ?_
  clear he1 a1
  refine ws_seqN stable_n9 stable_n10 rfl rfl rfl ?_
  refine ws_seqN stable_n11 stable_n12 rfl rfl rfl ?_
  refine ws_region rfl ?_
  refine wlm 0 1 rfl rfl rfl rfl rfl rfl rfl ?_
  refine wlm 1 2 rfl rfl rfl rfl rfl rfl rfl ?_
  refine wlo 2 3 rfl rfl rfl (wo_run rfl rfl (run_leq rfl rfl rfl) ?_)
  refine wl_end rfl ?_
  refine nm_sub [(0, _), (1, _), (2, _), (6, _), (7, _), (8, _), (13, _)] ⟨rfl, rfl, rfl, rfl, rfl, rfl, rfl, trivial⟩ ?_
  refine nm_thn ?_
  refine ws_condN stable_n13 stable_n14 rfl rfl rfl rfl (fun hb13 => ?_) (fun hb13 => ?_)
  ·replace hb13 := of_decide_eq_true hb13
   exfalso; omega
  ·replace hb13 := of_decide_eq_false hb13
   refine ws_exit rfl rfl ?_
   refine nm_sub [(0, _), (1, _), (2, _), (6, _), (7, _)] ⟨rfl, rfl, rfl, rfl, rfl, trivial⟩ ?_
   refine nm_thn ?_
   refine ws_seqN stable_n15 stable_n16 rfl rfl rfl ?_
   refine ws_region rfl ?_
   refine wlm 0 1 rfl rfl rfl rfl rfl rfl rfl ?_
   refine wlm 1 2 rfl rfl rfl rfl rfl rfl rfl ?_
   refine wlm 2 3 rfl rfl rfl rfl rfl rfl rfl ?_
   refine wlm 3 4 rfl rfl rfl rfl rfl rfl rfl ?_
   refine wlo 4 5 rfl rfl rfl (wo_c1 rfl rfl rfl rfl rfl rfl rfl cf122 S1 (i := 0) rfl (insSort_w vvs vs ks m hz hkm hm16 h9 (S1.lend1 (i := 0) rfl)) ?_)
   rintro vw2 w2 _ _ - S2 ⟨rfl, hMX1, ws1, sg1, hz1, hsk1, rfl⟩; clear S1
   change SH _ _ _ [_] at S2
   rw [hMX1] at S2; clear hMX1
   refine wl_end rfl ?_
   refine nm_sub [(0, _), (1, _), (2, _), (6, _)] ⟨rfl, rfl, rfl, rfl, trivial⟩ ?_
   refine nm_thn ?_
   refine ws_blockN stable_n17 2 rfl rfl rfl ?_
   refine ws_loopE (fun mx_ ax_ wx_ => mx_ = 0 ∧ Env 63 [(0, vvs), (1, .int .i64 (m : Int)), (2, .func (.func 65) #[] #[]), (6, .int .i64 20)] ax_ ∧ SH wx_ M X [Rs.row cdVw vvs ws1]) rfl ?_ ?_
   ·intro ax_ hax_
    refine ⟨_, ⟨rfl, hax_.sub ⟨rfl, rfl, rfl, rfl, trivial⟩, S2.pick [0] [_] (by decide) ⟨rfl, trivial⟩⟩⟩
   ·rintro m2 a2 w3 ⟨rfl, he2, S3⟩
    clear S2
    refine ws_in he2 (c := stable_n18) rfl ?_
    clear he2 a2
    refine ws_seqN stable_n19 stable_n20 rfl rfl rfl ?_
    refine ws_seqN stable_n21 stable_n22 rfl rfl rfl ?_
    refine ws_region rfl ?_
    refine wlm 0 1 rfl rfl rfl rfl rfl rfl rfl ?_
    refine wlm 1 2 rfl rfl rfl rfl rfl rfl rfl ?_
    refine wlo 2 3 rfl rfl rfl (wo_run rfl rfl (run_lss rfl rfl rfl) ?_)
    refine wl_end rfl ?_
    refine nm_sub [(0, _), (1, _), (2, _), (6, _), (30, _)] ⟨rfl, rfl, rfl, rfl, rfl, trivial⟩ ?_
    refine nm_thn ?_
    refine ws_condN stable_n23 stable_n24 rfl rfl rfl rfl (fun hb30 => ?_) (fun hb30 => ?_)
    ·replace hb30 := of_decide_eq_true hb30
     exfalso; omega
    ·replace hb30 := of_decide_eq_false hb30
     refine ws_exit rfl rfl ?_
     refine nm_end hC [] rfl trivial ?_
     exact ⟨_, rfl, _, _, Hp.le_refl _, S3.pick [0] [_] (by decide) ⟨rfl, trivial⟩, rfl, rfl, _, sg1, hz1, hsk1, rfl⟩
noncomputable def SortSt_n0 : Code := Try.f64.body.getD .skip
set_option maxRecDepth 10000 in
theorem SortSt_w {w : World} {M : Hp} {X : Fr} (vvs : Value) (vs : List Vw) (ks : List OK) (hz : VwOk M vs ks) (m : Nat) (hkm : ks.length = m) (hm16 : m ≤ 16) (h9 : ∀ i, i < m → (ga ks i).2.length = 9 * (ga ks i).1.length) (S : SH w M X [Rs.row cdVw vvs vs]) : C1 Try.prog 64 [vvs, .func (.func 65) #[] #[]] w M X (fun u M' r' => u = tup [] ∧ M' = M ∧ ∃ ws' σ, VwOk M ws' (List.map (ga ks) σ) ∧ SortK (kO ks) m σ ∧ r' = Rs.row cdVw vvs ws') := by
 unfold C1
 have hvl := hz.1
 refine calls_in (b := SortSt_n0) Try.func64 rfl Try.ntmps64 rfl (fun C hC => ?_)
 refine ws_sub [(0, _), (1, _)] ⟨rfl, rfl, trivial⟩ ?_
 refine ws_region rfl ?_
 refine wlm 0 1 rfl rfl rfl rfl rfl rfl rfl ?_
 refine wlm 1 2 rfl rfl rfl rfl rfl rfl rfl ?_
 refine wlo 2 3 rfl rfl rfl (wo_run rfl rfl (run_lenR (C := cdVw) (i := 0) rfl rfl rfl rfl rfl rfl sl105 S rfl) ?_)
 refine wlm 3 4 rfl rfl rfl rfl rfl rfl rfl ?_
 refine wl_eq 6 (.int .i64 (m : Int)) rfl (int_eq (by omega)) ?_
 refine wlo 4 5 rfl rfl rfl (wo_c1 rfl rfl rfl rfl rfl rfl rfl cf99 S (i := 0) rfl (stable_w vvs vs ks m hz hkm hm16 h9 (S.lend1 (i := 0) rfl)) ?_)
 rintro vw1 w1 _ _ - S1 ⟨rfl, hMX1, ws1, sg1, hz1, hsk1, rfl⟩; clear S
 change SH _ _ _ [_] at S1
 rw [hMX1] at S1; clear hMX1
 refine wl_end rfl ?_
 refine nm_end hC [] rfl trivial ?_
 exact ⟨_, rfl, _, _, Hp.le_refl _, S1.pick [0] [_] (by decide) ⟨rfl, trivial⟩, rfl, rfl, _, sg1, hz1, hsk1, rfl⟩
end Go.Proofs.Ytefkjfcncpmneaa
namespace Go.Proofs.Ytefkjfcncpmneaa
open Go.ChangeShapes Go.WideShapes Go.ChangeAt Go.RowKit
def kD (d : Dg) (x : Nat) : List Int := (cfE d x).co
def pcN (d : Dg) (i : Nat) : List Nat := (ga (pcsL d) i).map Int.toNat
def bestD (d : Dg) (i : Nat) : Nat := (bst (kD d) (pcN d i)).getD 0
def ksD (d : Dg) : List OK := (List.range (pcsL d).length).map fun i => ((cfE d (bestD d i)).od, (cfE d (bestD d i)).co)
theorem ksD_len (d : Dg) : (ksD d).length = (pcsL d).length := by simp [ksD]
theorem ksD_ga (d : Dg) {i : Nat} (h : i < (pcsL d).length) : ga (ksD d) i = ((cfE d (bestD d i)).od, (cfE d (bestD d i)).co) := by
 unfold ksD
 rw [ga_map _ _ _ (by simpa using h), ga_eq (by simpa using h), List.getElem_range]
theorem pc_mem {d : Dg} (h : arcsB d = true) {i : Nat} (hi : i < (pcsL d).length) {y : Int} (hy : y ∈ ga (pcsL d) i) : 0 ≤ y ∧ y.toNat < d.crs.length ∧ pcI d y.toNat = i := by
 obtain ⟨_, c0, _, _, h2⟩ := (pcs h).el i hi
 obtain ⟨z, rfl, hz, _⟩ := h2 y hy
 rw [Int.toNat_natCast]
 exact ⟨by omega, hz, (pcI_at h hi hy).2⟩
theorem pc_pos {d : Dg} (h : arcsB d = true) {i : Nat} (hi : i < (pcsL d).length) : 0 < (ga (pcsL d) i).length := by
 obtain ⟨_, c0, _, hm, _⟩ := (pcs h).el i hi
 exact List.length_pos_of_mem hm
theorem pcN_len (d : Dg) (i : Nat) : (pcN d i).length = (ga (pcsL d) i).length := by simp [pcN]
theorem pcN_ga (d : Dg) (i : Nat) {j : Nat} (h : j < (ga (pcsL d) i).length) : ga (pcN d i) j = (ga (ga (pcsL d) i) j).toNat := ga_map _ _ _ h
theorem best_mem {d : Dg} (h : arcsB d = true) {i : Nat} (hi : i < (pcsL d).length) : bst (kD d) (pcN d i) = some (bestD d i) ∧ bestD d i < d.crs.length ∧ pcI d (bestD d i) = i := by
 have hp := pc_pos h hi
 obtain ⟨b, h1, h2⟩ := bst_mem (K := kD d) ((ga (pcsL d) i).length - 1) (l := pcN d i) (by rw [pcN_len]; omega)
 have e : bestD d i = b := by unfold bestD; rw [h1]; rfl
 obtain ⟨y, hy, rfl⟩ := List.mem_map.1 h2
 obtain ⟨_, q2, q3⟩ := pc_mem h hi hy
 rw [e]
 exact ⟨h1, q2, q3⟩
theorem ks9 {d : Dg} (h : arcsB d = true) {i : Nat} (hi : i < (pcsL d).length) : (ga (ksD d) i).2.length = 9 * (ga (ksD d) i).1.length := by
 obtain ⟨_, q2, _⟩ := best_mem h hi
 rw [ksD_ga d hi]
 exact (cfE_len h q2).2.1
theorem bst_step {K : Nat → List Int} {l : List Nat} {b x : Nat} (h : bst K l = some b) (hl : (K x).length = (K b).length) : bst K (l ++ [x]) = some (if cmpL (K x) (K b) < 0 then x else b) := by
 rw [bst_snoc, h]
 unfold bstS
 dsimp only
 rw [lessL_eq hl]
 by_cases e : cmpL (K x) (K b) < 0
 ·rw [if_pos (decide_eq_true e), if_pos e]
 ·rw [if_neg (by rw [decide_eq_true_iff]; exact e), if_neg e]
theorem kD_len {d : Dg} (h : arcsB d = true) {x y : Nat} (hx : x < d.crs.length) (hy : y < d.crs.length) (e : pcI d x = pcI d y) : (kD d x).length = (kD d y).length := by
 obtain ⟨a1, a2, _⟩ := cfE_len h hx
 obtain ⟨b1, b2, _⟩ := cfE_len h hy
 unfold kD
 rw [a2, b2, a1, b1, e]
def rnA (s : List Int × Int) (a : Int) : List Int × Int := if ga s.1 a.toNat = 0 then (s.1.set a.toNat s.2, s.2 + 1) else s
def rnC (d : Dg) (c : Nat) (s : List Int × Int) : Nat → List Int × Int
 | 0 => s
 | k + 1 => rnA (rnC d c s k) (arcAt d c k)
def crN (d : Dg) (c : Nat) (nm : List Int) : Cr := ⟨ga nm (ga d.crs c).a.toNat, ga nm (ga d.crs c).b.toNat, ga nm (ga d.crs c).c.toNat, ga nm (ga d.crs c).d.toNat, (ga d.crs c).plus⟩
structure Rn where
 nm : List Int
 nx : Int
 cs : List Cr
def rnS (d : Dg) (s : Rn) (c : Int) : Rn := ⟨(rnC d c.toNat (s.nm, s.nx) 4).1, (rnC d c.toNat (s.nm, s.nx) 4).2, s.cs ++ [crN d c.toNat (rnC d c.toNat (s.nm, s.nx) 4).1]⟩
def rnF (d : Dg) (seq : List Int) : Rn := seq.foldl (rnS d) ⟨List.replicate (2 * d.crs.length + 1) 0, 1, []⟩
theorem rnF_snoc (d : Dg) (l : List Int) (x : Int) : rnF d (l ++ [x]) = rnS d (rnF d l) x := by unfold rnF; rw [List.foldl_append]; rfl
def seqD (d : Dg) (σ : List Nat) : List Int := σ.flatMap fun i => (ga (ksD d) i).1
noncomputable def canD (d : Dg) : Dg := ⟨(rnF d (seqD d (sK (kO (ksD d)) (pcsL d).length))).cs, d.loops⟩
structure RnI (d : Dg) (s : List Int × Int) : Prop where
 len : s.1.length = 2 * d.crs.length + 1
 pos : 1 ≤ s.2
theorem rnA_ok {d : Dg} {s : List Int × Int} (h : RnI d s) {a : Int} (ha : 1 ≤ a ∧ a ≤ 2 * (d.crs.length : Int)) : RnI d (rnA s a) ∧ (∀ x, ga s.1 x ≠ 0 → ga (rnA s a).1 x = ga s.1 x) ∧ ga (rnA s a).1 a.toNat ≠ 0 ∧ (rnA s a).2 ≤ s.2 + 1 ∧ s.2 ≤ (rnA s a).2 := by
 have hl := h.len
 have hp := h.pos
 unfold rnA
 split
 ·rename_i h0
  refine ⟨⟨by simp [h.len], by show 1 ≤ s.2 + 1; omega⟩, fun x hx => ?_, ?_, Int.le_refl _, by show s.2 ≤ s.2 + 1; omega⟩
  ·show ga (s.1.set _ _) x = _
   rw [ga_set _ _ _ _ (by omega), if_neg (fun e => by subst e; exact hx h0)]
  ·show ga (s.1.set _ _) _ ≠ 0
   rw [ga_set _ _ _ _ (by omega), if_pos rfl]; omega
 ·rename_i h0
  exact ⟨h, fun _ _ => rfl, h0, by omega, Int.le_refl _⟩
theorem rnC_ok {d : Dg} (hab : arcsB d = true) {c : Nat} (hc : c < d.crs.length) {s : List Int × Int} (h : RnI d s) (k : Nat) (hk : k ≤ 4) :
  RnI d (rnC d c s k) ∧ (∀ x, ga s.1 x ≠ 0 → ga (rnC d c s k).1 x = ga s.1 x) ∧ (∀ j, j < k → ga (rnC d c s k).1 (arcAt d c j).toNat ≠ 0 ∧ ga (rnC d c s (j + 1)).1 (arcAt d c j).toNat = ga (rnC d c s k).1 (arcAt d c j).toNat) ∧ (rnC d c s k).2 ≤ s.2 + k ∧ s.2 ≤ (rnC d c s k).2 := by
 induction k with
 | zero => exact ⟨h, fun _ _ => rfl, fun j hj => by omega, by show s.2 ≤ _; omega, Int.le_refl _⟩
 | succ k ih =>
  obtain ⟨i1, i2, i3, i4, i5⟩ := ih (by omega)
  obtain ⟨j1, j2, j3, j4, j5⟩ := rnA_ok i1 (arcAt_bd hab hc (show k < 4 by omega))
  refine ⟨j1, fun x hx => ?_, fun j hj => ?_, ?_, ?_⟩
  ·show ga (rnA (rnC d c s k) (arcAt d c k)).1 x = _
   rw [j2 x (by rw [i2 x hx]; exact hx), i2 x hx]
  ·by_cases e : j = k
   ·subst e; exact ⟨j3, rfl⟩
   ·obtain ⟨q1, q2⟩ := i3 j (by omega)
    have := j2 _ q1
    refine ⟨?_, ?_⟩
    ·show ga (rnA (rnC d c s k) (arcAt d c k)).1 _ ≠ 0
     rw [this]; exact q1
    ·show _ = ga (rnA (rnC d c s k) (arcAt d c k)).1 _
     rw [this, q2]
  ·show (rnA (rnC d c s k) (arcAt d c k)).2 ≤ _; omega
  ·show _ ≤ (rnA (rnC d c s k) (arcAt d c k)).2; omega
theorem rnF_ok {d : Dg} (hab : arcsB d = true) {l : List Int} (hl : ∀ x, x ∈ l → x.toNat < d.crs.length) : RnI d ((rnF d l).nm, (rnF d l).nx) ∧ (rnF d l).nx ≤ 1 + 4 * (l.length : Int) ∧ (rnF d l).cs.length = l.length := by
 have key : ∀ (l : List Int) (s : Rn), (∀ x, x ∈ l → x.toNat < d.crs.length) → RnI d (s.nm, s.nx) → RnI d ((l.foldl (rnS d) s).nm, (l.foldl (rnS d) s).nx) ∧ (l.foldl (rnS d) s).nx ≤ s.nx + 4 * (l.length : Int) ∧ (l.foldl (rnS d) s).cs.length = s.cs.length + l.length := by
  intro l
  induction l with
  | nil => intro s _ h; exact ⟨h, by show s.nx ≤ s.nx + 4 * 0; omega, by simp⟩
  | cons x l ih =>
   intro s hm h
   obtain ⟨q1, _, _, q4, _⟩ := rnC_ok hab (hm x (List.mem_cons_self ..)) h 4 (Nat.le_refl _)
   obtain ⟨r1, r2, r3⟩ := ih (rnS d s x) (fun y hy => hm y (List.mem_cons_of_mem _ hy)) q1
   refine ⟨r1, ?_, ?_⟩
   ·have e : (rnS d s x).nx ≤ s.nx + 4 := q4
    show (List.foldl (rnS d) (rnS d s x) l).nx ≤ _
    rw [List.length_cons]; omega
   ·show (List.foldl (rnS d) (rnS d s x) l).cs.length = _
    rw [r3]
    have e : (rnS d s x).cs.length = s.cs.length + 1 := by unfold rnS; simp
    rw [e, List.length_cons]; omega
 obtain ⟨r1, r2, r3⟩ := key l ⟨List.replicate (2 * d.crs.length + 1) 0, 1, []⟩ hl ⟨by simp, Int.le_refl _⟩
 exact ⟨r1, r2, by rw [show (rnF d l).cs.length = _ from r3]; simp⟩
theorem seq_mem {d : Dg} (hab : arcsB d = true) {i : Nat} (hi : i < (pcsL d).length) {x : Int} (hx : x ∈ (ga (ksD d) i).1) : x.toNat < d.crs.length ∧ 0 ≤ x ∧ pcI d x.toNat = i := by
 obtain ⟨_, q2, q3⟩ := best_mem hab hi
 rw [ksD_ga d hi] at hx
 replace hx : x ∈ (cfN d (bestD d i) d.crs.length).od := hx
 obtain ⟨h, _, _⟩ := cfN_ok hab q2 d.crs.length
 obtain ⟨j, hj, rfl⟩ := List.mem_iff_getElem.1 hx
 obtain ⟨o1, o2, o3⟩ := h.od j hj
 rw [ga_eq hj] at o1 o2 o3
 exact ⟨o2, o1, by rw [h.pc _ o2 (by rw [o3]; omega)]; exact q3⟩
theorem ks_len {d : Dg} (hab : arcsB d = true) {i : Nat} (hi : i < (pcsL d).length) : (ga (ksD d) i).1.length ≤ d.crs.length := by
 obtain ⟨_, q2, q3⟩ := best_mem hab hi
 rw [ksD_ga d hi]
 exact (cfE_len hab q2).2.2
end Go.Proofs.Ytefkjfcncpmneaa
namespace Go.Proofs.Ytefkjfcncpmneaa
open Go.ChangeShapes Go.WideShapes Go.ChangeAt Go.RowKit
section
variable {α : Type} {C : Cd α} {N N' : Hp} {vs vs' : List SlV} {xss yss : List (List α)}
theorem ga_drop {β : Type} [Inhabited β] (xs : List β) (k i : Nat) : ga (xs.drop k) i = ga xs (k + i) := by
  unfold ga; simp [List.getD_eq_getElem?_getD]
/-- The inner lists' own lists. -/
def RdD (C : Cd α) (N : Hp) (svs : List (List SlV)) (mm : List (List (List α))) : Prop := svs.length = mm.length ∧ ∀ i, i < svs.length → Rd2 C N (ga svs i) (ga mm i)
variable {svs : List (List SlV)} {mm : List (List (List α))}
theorem RdD.nil_ : RdD C N [] [] := ⟨rfl, fun i hi => by simp at hi⟩
end
section
variable {P : Program} {o : Oper} {L : List (Nat × Value)} {w : World} {x hx : Operand} {t tn T : TypeId} {n d : Nat} {Kt : List (Nat × Value) → World → Prop} {M : Hp} {X : Fr} {H : List Rs}
end
end Go.Proofs.Ytefkjfcncpmneaa
namespace Go.Proofs.Ytefkjfcncpmneaa
open Go.ChangeShapes Go.WideShapes Go.ChangeAt Go.RowKit
/-- No block stands in two things. -/
def apartL (H : List Rs) : Prop := H.Pairwise fun r s => ∀ b ∈ r.bl, b ∉ s.bl
theorem apart_iff {H : List Rs} : apartL H ↔ ∀ (i j : Nat) r s, i ≠ j → H[i]? = some r → H[j]? = some s → ∀ b ∈ r.bl, b ∉ s.bl := by
  unfold apartL
  rw [List.pairwise_iff_getElem]
  constructor
  · intro h i j r s hij hi hj b hb hbs
    obtain ⟨i1, e1⟩ := List.getElem?_eq_some_iff.1 hi
    obtain ⟨j1, e2⟩ := List.getElem?_eq_some_iff.1 hj
    rcases Nat.lt_or_ge i j with h1 | h1
    · exact h i j i1 j1 h1 b (by rw [e1]; exact hb) (by rw [e2]; exact hbs)
    · exact h j i j1 i1 (by omega) b (by rw [e2]; exact hbs) (by rw [e1]; exact hb)
  · intro h i j hi hj hij
    exact h i j _ _ (by omega) (List.getElem?_eq_getElem hi) (List.getElem?_eq_getElem hj)
section
variable {w : World} {M : Hp} {X : Fr} {A B H H' : List Rs}
theorem SH.bunC (S : SH w M X (A ++ B)) : SH w M X (Rs.bun A :: B) := by
  have hap := apart_iff.2 S.ap
  obtain ⟨h1, h2, h3⟩ := List.pairwise_append.1 hap
  refine ⟨S.m, S.x, S.mx, fun r hr => ?_, fun r hr b hb => ?_, apart_iff.1 (List.pairwise_cons.2 ⟨fun s hs b hb => ?_, h2⟩), S.like⟩
  · rcases List.mem_cons.1 hr with rfl | hr
    · exact ⟨fun r hr => S.ok r (by simp [hr]), apart_iff.1 h1⟩
    · exact S.ok r (by simp [hr])
  · rcases List.mem_cons.1 hr with rfl | hr
    · obtain ⟨q, hq, hb⟩ := List.mem_flatMap.1 hb
      exact S.bl q (by simp [hq]) b hb
    · exact S.bl r (by simp [hr]) b hb
  · obtain ⟨q, hq, hb⟩ := List.mem_flatMap.1 hb
    exact h3 q hq s hs b hb
theorem SH.unbunC (S : SH w M X (Rs.bun A :: B)) : SH w M X (A ++ B) := by
  obtain ⟨hok, hap⟩ := S.ok (Rs.bun A) (by simp)
  obtain ⟨h1, h2⟩ := List.pairwise_cons.1 (apart_iff.2 S.ap)
  refine ⟨S.m, S.x, S.mx, fun r hr => ?_, fun r hr b hb => ?_, apart_iff.1 (List.pairwise_append.2 ⟨apart_iff.2 hap, h2, fun r hr s hs b hb => h1 s hs b (List.mem_flatMap.2 ⟨r, hr, hb⟩)⟩), S.like⟩
  · rcases List.mem_append.1 hr with hr | hr
    · exact hok r hr
    · exact S.ok r (by simp [hr])
  · rcases List.mem_append.1 hr with hr | hr
    · exact S.bl (Rs.bun A) (by simp) b (List.mem_flatMap.2 ⟨r, hr, hb⟩)
    · exact S.bl r (by simp [hr]) b hb
end
namespace InF
section
variable {P : Program} {n : Nat} {C : Ctx} {c : Code} {s : List K} {L : List (Nat × Value)} {w : World} {M : Hp} {X : Fr} {H : List Rs}
end
end InF
end Go.Proofs.Ytefkjfcncpmneaa
namespace Go.Proofs.Ytefkjfcncpmneaa
open Go.ChangeShapes Go.WideShapes Go.ChangeAt Go.RowKit
section
variable {P : Program} {o : Oper} {L : List (Nat × Value)} {w : World} {n d : Nat} {Kt : List (Nat × Value) → World → Prop} {M : Hp} {X : Fr} {H : List Rs} {i : Nat} {r : Rs}
theorem SH.less (S : SH w M X H) (hi : nth H i = some r) : SH w M X (H.set i Rs.emp) := S.step hi rfl (Like.refl w) (fun _ _ _ => rfl) trivial (fun b hb => by cases hb)
theorem wo_c1F {f : FuncId} {vs cap : List Value} {ca : Call} {fo : Operand} {xs : List Operand} (hd : o.dst = some d) (hop : o.op = .call ca) (hca : ca.callee = .value fo) (hfo : oev L fo = some (.func (.func f) #[] cap.toArray))
    (hxs : ca.args = xs.toArray) (hvs : oevs L xs = some vs) (hn : Nat.blt d n = true) (hen : ∀ args w, (callFunc f args).run P w = .ok (.enter f args) w) (S : SH w M X H) (hi : nth H i = some r)
    {R : Value → Hp → Rs → Prop} (hcall : C1 P f (vs ++ cap) w M (XH w X (H.set i Rs.emp)) R) (h : ∀ v w' M' r', M.le M' → SH w' M' X (H.set i r') → R v M' r' → Kt ((d, v) :: L) w') : WO P n o L w Kt := by
  intro a ha next Q hk
  have hr : (execOp a.eval o).run P w = .ok (.enter f (vs ++ cap).toArray) w := by
    unfold execOp
    simp only [hop, resolve, hca, ha.eval hfo, hxs, List.map_toArray, ha.evals hvs, Deferred.ofValue, Sem.run_bind, Sem.run_pure, Result.andThen_ok, invoke, Array.empty_append, List.append_toArray]
    exact hen _ _
  unfold Oper.wp
  rw [hr, Oper.upon_enter, hd]
  refine hcall.mono ?_
  rintro e w' ⟨v, rfl, M', r', h1, h2, h4⟩
  exact hk _ _ _ (ha.put (by simpa using hn) v) (h v w' M' r' h1 (S.back1 hi h2 rfl) h4)
end
end Go.Proofs.Ytefkjfcncpmneaa
namespace Go.Proofs.Ytefkjfcncpmneaa
open Go.ChangeShapes Go.WideShapes Go.ChangeAt Go.RowKit
section
variable {P : Program} {o : Oper} {L : List (Nat × Value)} {w w' : World} {x y : Operand} {T E : TypeId} {a : Int} {v : Value} {M : Hp} {X : Fr} {H N : List Rs} {i g : Nat} {l : List Value}
theorem run_lenMap {κ ε : Type} [DecidableEq κ] {kc : κ → Value} {vc : ε → Value} {es : List (κ × ε)} {t K V : TypeId} {ca : Call} {xs : List Operand} {ts : List TypeId} (ho : o.op = .call ca) (hca : ca.callee = .builtin .len) (hxs : ca.args = xs.toArray) (hts : ca.argTypes = ts.toArray) (hx : oevs L xs = some [.map (some g)]) (ht : nth ts 0 = some t) (hu : P.underlying t = some (.map K V)) (S : SH w M X H) (hi : nth H i = some (Rs.mp kc vc g es)) : Run P o L w (.int .i64 (es.length : Int)) w := by
  intro n c hc
  obtain ⟨arr, clock, hg, ha, hstm⟩ := (S.get hi : MpOk kc vc g es (hp w))
  have hg' : w.heap[g]? = some (.map arr clock) := hg
  have hgo := MapKept.run_getObj_map (P := P) hg'
  have hl : arr.size = es.length := by have := congrArg List.length ha; simpa using this
  rw [nth_eq] at ht
  have ht' : ts.toArray[0]? = some t := by simpa using ht
  unfold execOp
  simp only [ho, resolve, hca, hxs, hts, List.map_toArray, hc.evals hx, invoke, builtin, Builtin.len_, Sem.run_bind, Sem.run_pure, Result.andThen_ok, ht', List.getElem?_toArray, List.getElem?_cons_zero, run_underlying hu, goInt, hgo, hl]
theorem mp_new {κ ε : Type} [DecidableEq κ] (k : κ) (v : ε) : ∀ es : List (κ × ε), mg k es = none → (mp k v es).length = es.length + 1
  | [] => fun _ => rfl
  | p :: r => fun h => by
    rw [mg] at h
    split at h
    · cases h
    · rename_i hne
      rw [mp, if_neg hne, List.length_cons, mp_new k v r h, List.length_cons]
end
end Go.Proofs.Ytefkjfcncpmneaa
namespace Go.Proofs.Ytefkjfcncpmneaa
open Go.ChangeShapes Go.WideShapes Go.ChangeAt Go.RowKit
/-- The map of the arcs' numbers. -/
def MpR (d : Dg) (es : List (Int × Int)) (s : List Int × Int) : Prop := (∀ x : Nat, x < 2 * d.crs.length + 1 → mg (x : Int) es = if ga s.1 x = 0 then none else some (ga s.1 x)) ∧ (es.length : Int) + 1 = s.2
theorem MpR.start (d : Dg) : MpR d [] (List.replicate (2 * d.crs.length + 1) 0, 1) := ⟨fun x hx => by show _ = if ga (List.replicate (2 * d.crs.length + 1) (0 : Int)) x = 0 then _ else _; rw [ga_rep _ _ _ hx]; rfl, rfl⟩
theorem MpR.put {d : Dg} {es : List (Int × Int)} {s : List Int × Int} (h : MpR d es s) (hs : RnI d s) {a : Nat} (ha : a < 2 * d.crs.length + 1) (h0 : ga s.1 a = 0) : MpR d (mp (a : Int) ((es.length : Int) + 1) es) (s.1.set a s.2, s.2 + 1) := by
 have hl := hs.len
 have hp := hs.pos
 refine ⟨fun x hx => ?_, ?_⟩
 ·show _ = if ga (s.1.set a s.2) x = 0 then none else some (ga (s.1.set a s.2) x)
  rw [mg_mp, ga_set _ _ _ _ (by omega), h.2]
  by_cases e : x = a
  ·subst e; rw [if_pos rfl, if_pos rfl, if_neg (by omega)]
  ·rw [if_neg (show ¬ (x : Int) = (a : Int) by omega)]
   simp only [if_neg (show ¬ a = x from fun e2 => e e2.symm)]
   exact h.1 x hx
 ·show ((mp (a : Int) ((es.length : Int) + 1) es).length : Int) + 1 = s.2 + 1
  rw [mp_new _ _ _ (by rw [h.1 a ha, if_pos h0])]
  have := h.2
  omega
noncomputable def FArc_n0 : Code := Try.f67.body.getD .skip
noncomputable def FArc_n1 : Code := cL FArc_n0
noncomputable def FArc_n2 : Code := cR FArc_n0
noncomputable def FArc_n3 : Code := cL FArc_n2
noncomputable def FArc_n4 : Code := cR FArc_n2
noncomputable def FArc_n5 : Code := cL FArc_n3
noncomputable def FArc_n6 : Code := cR FArc_n3
noncomputable def FArc_n7 : Code := cL FArc_n6
noncomputable def FArc_n8 : Code := cR FArc_n6
noncomputable def FArc_n9 : Code := cL FArc_n8
noncomputable def FArc_n10 : Code := cR FArc_n8
noncomputable def FArc_n11 : Code := cL FArc_n4
noncomputable def FArc_n12 : Code := cR FArc_n4
set_option maxHeartbeats 1000000 in
set_option maxRecDepth 10000 in
theorem FArc_b {w : World} {M : Hp} {X : Fr} (a : Nat) (d : Dg) {gb11 gm : Nat} (es : List (Int × Int)) (s : List Int × Int) (hmr : MpR d es s) (hri : RnI d s) (ha : 1 ≤ a ∧ a ≤ 2 * d.crs.length) (hs2 : s.2 ≤ 2000) (S : SH w M X [Rs.bun [Rs.box gb11 114 [.map (some gm)], Rs.mp (Value.int .i64) (Value.int .i64) gm es]]) : C1 Try.prog 67 [.int .i64 (a : Int), .pointer (some ⟨gb11, 0, none⟩)] w M X (fun u M' r' => M' = M ∧ ∃ es', u = .int .i64 (ga (rnA s (a : Int)).1 a) ∧ MpR d es' (rnA s (a : Int)) ∧ r' = Rs.bun [Rs.box gb11 114 [.map (some gm)], Rs.mp (Value.int .i64) (Value.int .i64) gm es']) := by
 unfold C1
 replace S := S.unbun
 have hma := hmr.1 a (by omega)
 have hesl := hmr.2
 refine calls_in (b := FArc_n0) Try.func67 rfl Try.ntmps67 rfl (fun C hC => ?_)
 refine ws_sub [(0, _), (1, _)] ⟨rfl, rfl, trivial⟩ ?_
 refine ws_seqN FArc_n1 FArc_n2 rfl rfl rfl ?_
 refine ws_region rfl ?_
 refine wla 0 1 rfl rfl rfl rfl rfl rfl rfl ?_
 refine wl_end rfl ?_
 refine nm_sub [(0, _), (1, _)] ⟨rfl, rfl, trivial⟩ ?_
 refine nm_thn ?_
 refine ws_seqN FArc_n3 FArc_n4 rfl rfl rfl ?_
 refine ws_seqN FArc_n5 FArc_n6 rfl rfl rfl ?_
 refine ws_region rfl ?_
 refine wlo 0 1 rfl rfl rfl (wo_run rfl rfl (run_load1 rfl rfl Try.underlying114 rfl (S.boxc (i := 0) rfl rfl)) ?_)
 refine wlm 1 2 rfl rfl rfl rfl rfl rfl rfl ?_
 refine wlo 2 3 rfl rfl rfl (wo_run rfl rfl (run_lookupOk (kc := Value.int .i64) (vc := Value.int .i64) (es := es) (k := (a : Int)) (zv := 0) (i := 1) rfl rfl rfl Try.underlying114 mk3 zr3 S rfl) ?_)
 refine wlm 3 4 rfl rfl rfl rfl rfl rfl rfl ?_
 refine wlo 4 5 rfl rfl rfl (wo_run rfl rfl (run_extract rfl rfl rfl) ?_)
 refine wlo 5 6 rfl rfl rfl (wo_run rfl rfl (run_extract rfl rfl rfl) ?_)
 refine wla 6 7 rfl rfl rfl rfl rfl rfl rfl ?_
 refine wla 7 8 rfl rfl rfl rfl rfl rfl rfl ?_
 refine wl_end rfl ?_
 refine nm_sub [(0, _), (1, _), (5, _)] ⟨rfl, rfl, rfl, trivial⟩ ?_
 refine nm_thn ?_
 refine ws_seqN FArc_n7 FArc_n8 rfl rfl rfl ?_
 refine ws_region rfl ?_
 refine wlm 0 1 rfl rfl rfl rfl rfl rfl rfl ?_
 refine wlo 1 2 rfl rfl rfl (wo_run rfl rfl (run_not rfl rfl) ?_)
 refine wl_end rfl ?_
 refine nm_sub [(0, _), (1, _), (13, _)] ⟨rfl, rfl, rfl, trivial⟩ ?_
 refine nm_thn ?_
 refine ws_condN FArc_n9 FArc_n10 rfl rfl rfl rfl (fun hb13 => ?_) (fun hb13 => ?_)
 ·simp only [Bool.and_eq_true, Bool.or_eq_true, Bool.and_eq_false_iff, Bool.or_eq_false_iff, decide_eq_true_eq, decide_eq_false_iff_not, Bool.not_eq_true', Bool.not_eq_false'] at hb13
  have h0 : ga s.1 a = 0 := by (by_cases h9 : ga s.1 a = 0; exact h9; rw [if_neg h9] at hma; rw [hma] at hb13; simp at hb13)
  have hS : rnA s (a : Int) = (s.1.set a s.2, s.2 + 1) := by unfold rnA; rw [Int.toNat_natCast, if_pos h0]
  refine ws_region rfl ?_
  refine wlo 0 1 rfl rfl rfl (wo_run rfl rfl (run_load1 rfl rfl Try.underlying114 rfl (S.boxc (i := 0) rfl rfl)) ?_)
  refine wlm 1 2 rfl rfl rfl rfl rfl rfl rfl ?_
  refine wlo 2 3 rfl rfl rfl (wo_run rfl rfl (run_load1 rfl rfl Try.underlying114 rfl (S.boxc (i := 0) rfl rfl)) ?_)
  refine wlo 3 4 rfl rfl rfl (wo_run rfl rfl (run_lenMap (i := 1) rfl rfl rfl rfl rfl rfl Try.underlying114 S rfl) ?_)
  refine wlo 4 5 rfl rfl rfl (wo_run rfl rfl (run_add rfl rfl rfl (by first | omega | (simp only [lens]; omega))) ?_)
  refine wlo 5 6 rfl rfl rfl (wo_mapUpdate (kc := Value.int .i64) (vc := Value.int .i64) (es := es) (k := (a : Int)) (e := ((es.length : Int) + 1)) (i := 1) (H' := [_, _]) (.inl rfl) rfl S rfl rfl rfl rfl Try.underlying114 mk3 rfl ?_)
  intro w1 S1; clear S
  refine wl_end rfl ?_
  refine nm_sub [(0, _), (1, _)] ⟨rfl, rfl, trivial⟩ ?_
  refine nm_thn ?_
  refine ws_seqN FArc_n11 FArc_n12 rfl rfl rfl ?_
  refine ws_region rfl ?_
  refine wlo 0 1 rfl rfl rfl (wo_run rfl rfl (run_load1 rfl rfl Try.underlying114 rfl (S1.boxc (i := 0) rfl rfl)) ?_)
  refine wlm 1 2 rfl rfl rfl rfl rfl rfl rfl ?_
  refine wlo 2 3 rfl rfl rfl (wo_run rfl rfl (run_lookup (kc := Value.int .i64) (vc := Value.int .i64) (es := (mp (a : Int) ((es.length : Int) + 1) es)) (k := (a : Int)) (zv := 0) (i := 1) rfl rfl rfl Try.underlying114 mk3 zr3 S1 rfl) ?_)
  refine wla 3 4 rfl rfl rfl rfl rfl rfl rfl ?_
  refine wl_end rfl ?_
  refine nm_sub [(3, _)] ⟨rfl, trivial⟩ ?_
  refine nm_thn ?_
  refine ws_ret hC [_] rfl rfl ⟨rfl, trivial⟩ ?_
  refine ⟨_, rfl, _, _, Hp.le_refl _, (S1.pick [0, 1] [_, _] (by decide) ⟨rfl, rfl, trivial⟩).bun, ?_⟩
  have hl := hri.len
  have hmn : MpR d (mp (a : Int) ((es.length : Int) + 1) es) (rnA s (a : Int)) := by rw [hS]; exact hmr.put hri (by omega) h0
  have hrn := (rnA_ok hri (a := (a : Int)) (by omega)).2.2.1
  rw [Int.toNat_natCast] at hrn
  have hv := hmn.1 a (by omega)
  rw [if_neg hrn] at hv
  refine ⟨rfl, _, ?_, hmn, rfl⟩
  show Value.int _ _ = _
  rw [hv]; rfl
 ·simp only [Bool.and_eq_true, Bool.or_eq_true, Bool.and_eq_false_iff, Bool.or_eq_false_iff, decide_eq_true_eq, decide_eq_false_iff_not, Bool.not_eq_true', Bool.not_eq_false'] at hb13
  have h0 : ¬ ga s.1 a = 0 := by intro h9; rw [if_pos h9] at hma; rw [hma] at hb13; simp at hb13
  have hS : rnA s (a : Int) = s := by unfold rnA; rw [Int.toNat_natCast, if_neg h0]
  refine ws_skip rfl ?_
  refine nm_sub [(0, _), (1, _)] ⟨rfl, rfl, trivial⟩ ?_
  refine nm_thn ?_
  refine ws_seqN FArc_n11 FArc_n12 rfl rfl rfl ?_
  refine ws_region rfl ?_
  refine wlo 0 1 rfl rfl rfl (wo_run rfl rfl (run_load1 rfl rfl Try.underlying114 rfl (S.boxc (i := 0) rfl rfl)) ?_)
  refine wlm 1 2 rfl rfl rfl rfl rfl rfl rfl ?_
  refine wlo 2 3 rfl rfl rfl (wo_run rfl rfl (run_lookup (kc := Value.int .i64) (vc := Value.int .i64) (es := es) (k := (a : Int)) (zv := 0) (i := 1) rfl rfl rfl Try.underlying114 mk3 zr3 S rfl) ?_)
  refine wla 3 4 rfl rfl rfl rfl rfl rfl rfl ?_
  refine wl_end rfl ?_
  refine nm_sub [(3, _)] ⟨rfl, trivial⟩ ?_
  refine nm_thn ?_
  refine ws_ret hC [_] rfl rfl ⟨rfl, trivial⟩ ?_
  refine ⟨_, rfl, _, _, Hp.le_refl _, (S.pick [0, 1] [_, _] (by decide) ⟨rfl, rfl, trivial⟩).bun, ?_⟩
  have hl := hri.len
  have hmn : MpR d es (rnA s (a : Int)) := by rw [hS]; exact hmr
  have hrn := (rnA_ok hri (a := (a : Int)) (by omega)).2.2.1
  rw [Int.toNat_natCast] at hrn
  have hv := hmn.1 a (by omega)
  rw [if_neg hrn] at hv
  refine ⟨rfl, _, ?_, hmn, rfl⟩
  show Value.int _ _ = _
  rw [hv]; rfl
theorem FArc_i {w : World} {M : Hp} {X : Fr} (a : Int) (d : Dg) {gb11 gm : Nat} (es : List (Int × Int)) (s : List Int × Int) (hmr : MpR d es s) (hri : RnI d s) (ha : 1 ≤ a ∧ a ≤ 2 * (d.crs.length : Int)) (hs2 : s.2 ≤ 2000) (S : SH w M X [Rs.bun [Rs.box gb11 114 [.map (some gm)], Rs.mp (Value.int .i64) (Value.int .i64) gm es]]) :
  C1 Try.prog 67 [.int .i64 a, .pointer (some ⟨gb11, 0, none⟩)] w M X (fun u M' r' => M' = M ∧ ∃ es', u = .int .i64 (ga (rnA s a).1 a.toNat) ∧ MpR d es' (rnA s a) ∧ r' = Rs.bun [Rs.box gb11 114 [.map (some gm)], Rs.mp (Value.int .i64) (Value.int .i64) gm es']) := by
 obtain ⟨n, rfl⟩ : ∃ n : Nat, a = (n : Int) := ⟨a.toNat, by omega⟩
 exact FArc_b n d es s hmr hri (by omega) hs2 S
end Go.Proofs.Ytefkjfcncpmneaa
