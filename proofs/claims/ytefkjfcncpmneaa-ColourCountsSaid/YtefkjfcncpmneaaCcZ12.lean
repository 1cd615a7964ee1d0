/- Part 12 of the proof of the law ColourCounts: the walks through its functions and the plain laws that they need. -/
import Derived.Test.YtefkjfcncpmneaaCcZ11
import Derived.Lib.SmallJoins
import Derived.Deep.Slices
import Derived.Deep.Fields
import Derived.ChangeSame
set_option linter.unusedSimpArgs false
set_option linter.unusedVariables false
namespace Go.Proofs.Ytefkjfcncpmneaa
open Go.ChangeShapes Go.WideShapes Go.ChangeAt Go.RowKit
theorem cE_cases (d : Dg) (q : List (List Int)) : (quE q ≠ 0 ∧ cE d q = quE q ∧ cN d q = 0) ∨ (quE q = 0 ∧ errO d ≠ 0 ∧ cE d q = errO d ∧ cN d q = 0) ∨ (quE q = 0 ∧ errO d = 0 ∧ (10 < d.crs.length ∨ 4 < d.loops) ∧ cE d q = 2 ∧ cN d q = 0) ∨ (quE q = 0 ∧ errO d = 0 ∧ d.crs.length ≤ 10 ∧ d.loops ≤ 4 ∧ cE d q = 0 ∧ cN d q = ((cntT d q [0] * q.length ^ d.loops.toNat : Nat) : Int)) := by
 by_cases h1 : quE q = 0
 ·by_cases h2 : errO d = 0
  ·by_cases h3 : 10 < d.crs.length ∨ 4 < d.loops
   ·have h9 := cE_2 h1 h2 h3
    exact .inr (.inr (.inl ⟨h1, h2, h3, h9, cN_0 (by rw [h9]; decide)⟩))
   ·have h9 := cE_0 h1 h2 h3
    exact .inr (.inr (.inr ⟨h1, h2, by omega, by omega, h9, cN_1 h9⟩))
  ·have h9 := cE_o h1 h2
   exact .inr (.inl ⟨h1, h2, h9, cN_0 (by rw [h9]; exact h2)⟩)
 ·have h9 := cE_q (d := d) h1
  exact .inl ⟨h1, h9, cN_0 (by rw [h9]; exact h1)⟩
noncomputable def ints_n0 : Code := Try.f15.body.getD .skip
noncomputable def ints_n1 : Code := cL ints_n0
noncomputable def ints_n2 : Code := cR ints_n0
noncomputable def ints_n3 : Code := cL ints_n2
noncomputable def ints_n4 : Code := cR ints_n2
set_option maxRecDepth 10000 in
theorem ints_t {w : World} {M : Hp} {X : Fr} (p : List Int) {pA : Option Addr} {pc : Nat} (hp : RdA cdInt (M.un X.h) pA pc p) (S : SH w M X []) : Ct Try.prog 15 [.slice pA p.length pc] w M X (fun u N => ∃ A c, u = .slice A p.length c ∧ RdA cdInt N A c p) := by
 unfold Ct
 have rmhp : p.length * 8 ≤ 140737488355328 := hp.room
 refine calls_in (b := ints_n0) Try.func15 rfl Try.ntmps15 rfl (fun C hC => ?_)
 refine ws_sub [(0, _)] ⟨rfl, trivial⟩ ?_
 refine ws_seqN ints_n1 ints_n2 rfl rfl rfl ?_
 refine ws_region rfl ?_
 refine wla 0 1 rfl rfl rfl rfl rfl rfl rfl ?_
 refine wl_end rfl ?_
 refine nm_sub [(0, _)] ⟨rfl, trivial⟩ ?_
 refine nm_thn ?_
 refine ws_seqN ints_n3 ints_n4 rfl rfl rfl ?_
 refine ws_region rfl ?_
 refine wlm 0 1 rfl rfl rfl rfl rfl rfl rfl ?_
 have S1 := S.nilrow cdInt; clear S
 refine wlo 1 2 rfl rfl rfl (wo_appendM (C := cdInt) (i := 0) rfl rfl rfl rfl rfl rfl rfl rfl sl33 S1 rfl hp S1.um (by have h : _ * 8 ≤ _ := hp.room; show (0 + _) * 8 ≤ _; first | omega | (simp only [lens]; omega)) ?_)
 intro vr2 w1 S2; clear S1
 change SH _ _ _ [Rs.row cdInt vr2 p] at S2
 refine wla 2 3 rfl rfl rfl rfl rfl rfl rfl ?_
 refine wl_end rfl ?_
 refine nm_sub [(2, _)] ⟨rfl, trivial⟩ ?_
 refine nm_thn ?_
 obtain ⟨M1, hle1, S3, ⟨A1, c1, e1, hr1⟩⟩ := S2.pubrow (i := 0) (H' := [_]) rfl rfl (by show _ * 8 ≤ _; first | omega | (simp only [lens]; omega))
 clear S2; subst e1
 replace hp := hp.mono (Hp.un_mono hle1 S3.mx)
 refine ws_ret hC [_] rfl rfl ⟨rfl, trivial⟩ ?_
 refine ⟨_, rfl, _, hle1, (S3.pick [] [] (by decide) trivial), ?_⟩
 exact ⟨_, _, rfl, hr1⟩
noncomputable def ColourCounts_n0 : Code := Try.f7.body.getD .skip
noncomputable def ColourCounts_n1 : Code := cL ColourCounts_n0
noncomputable def ColourCounts_n2 : Code := cR ColourCounts_n0
noncomputable def ColourCounts_n3 : Code := cL ColourCounts_n2
noncomputable def ColourCounts_n4 : Code := cR ColourCounts_n2
noncomputable def ColourCounts_n5 : Code := cL ColourCounts_n4
noncomputable def ColourCounts_n6 : Code := cR ColourCounts_n4
noncomputable def ColourCounts_n7 : Code := cL ColourCounts_n5
noncomputable def ColourCounts_n8 : Code := cR ColourCounts_n5
noncomputable def ColourCounts_n9 : Code := cL ColourCounts_n8
noncomputable def ColourCounts_n10 : Code := cL ColourCounts_n9
noncomputable def ColourCounts_n11 : Code := cL ColourCounts_n10
noncomputable def ColourCounts_n12 : Code := cR ColourCounts_n10
noncomputable def ColourCounts_n13 : Code := cL ColourCounts_n11
noncomputable def ColourCounts_n14 : Code := cR ColourCounts_n11
noncomputable def ColourCounts_n15 : Code := cL ColourCounts_n14
noncomputable def ColourCounts_n16 : Code := cR ColourCounts_n14
noncomputable def ColourCounts_n17 : Code := cL ColourCounts_n12
noncomputable def ColourCounts_n18 : Code := cR ColourCounts_n12
noncomputable def ColourCounts_n19 : Code := cL ColourCounts_n17
noncomputable def ColourCounts_n20 : Code := cL ColourCounts_n6
noncomputable def ColourCounts_n21 : Code := cR ColourCounts_n6
noncomputable def ColourCounts_n22 : Code := cL ColourCounts_n21
noncomputable def ColourCounts_n23 : Code := cR ColourCounts_n21
noncomputable def ColourCounts_n24 : Code := cL ColourCounts_n23
noncomputable def ColourCounts_n25 : Code := cR ColourCounts_n23
noncomputable def ColourCounts_n26 : Code := cL ColourCounts_n24
noncomputable def ColourCounts_n27 : Code := cR ColourCounts_n24
noncomputable def ColourCounts_n28 : Code := cL ColourCounts_n27
noncomputable def ColourCounts_n29 : Code := cR ColourCounts_n27
noncomputable def ColourCounts_n30 : Code := cL ColourCounts_n25
noncomputable def ColourCounts_n31 : Code := cR ColourCounts_n25
noncomputable def ColourCounts_n32 : Code := cL ColourCounts_n30
noncomputable def ColourCounts_n33 : Code := cR ColourCounts_n30
noncomputable def ColourCounts_n34 : Code := cL ColourCounts_n33
noncomputable def ColourCounts_n35 : Code := cR ColourCounts_n33
noncomputable def ColourCounts_n36 : Code := cL ColourCounts_n31
noncomputable def ColourCounts_n37 : Code := cR ColourCounts_n31
noncomputable def ColourCounts_n38 : Code := cL ColourCounts_n36
noncomputable def ColourCounts_n39 : Code := cR ColourCounts_n36
noncomputable def ColourCounts_n40 : Code := cL ColourCounts_n39
noncomputable def ColourCounts_n41 : Code := cR ColourCounts_n39
noncomputable def ColourCounts_n42 : Code := cL ColourCounts_n40
noncomputable def ColourCounts_n43 : Code := cR ColourCounts_n40
noncomputable def ColourCounts_n44 : Code := cL ColourCounts_n37
noncomputable def ColourCounts_n45 : Code := cR ColourCounts_n37
set_option maxHeartbeats 2000000 in
set_option maxRecDepth 10000 in
theorem ColourCounts_t {w : World} {M : Hp} {X : Fr} (d : Dg) {dcrsA : Option Addr} {dcrsc : Nat} (q : List (List Int)) {qA : Option Addr} {qc : Nat} {qv : List SlV} (hdcrs : RdA cdCr M dcrsA dcrsc d.crs) (hq : RdA (cdV 33) M qA qc qv) (hdq : Rd2 cdInt M qv q) (S : SH w M X []) : Ct Try.prog 7 [.agg [.slice dcrsA d.crs.length dcrsc, .int .i64 d.loops].toArray, .slice qA qv.length qc] w M X (fun u _ => u = .bool true) := by
 unfold Ct
 have rmhdcrs : d.crs.length * 40 ≤ 140737488355328 := hdcrs.room
 have rmhq : qv.length * 24 ≤ 140737488355328 := hq.room
 have hlq := hdq.1
 refine calls_in (b := ColourCounts_n0) Try.func7 rfl Try.ntmps7 rfl (fun C hC => ?_)
 refine ws_sub [(0, _), (1, _)] ⟨rfl, rfl, trivial⟩ ?_
 refine ws_seqN ColourCounts_n1 ColourCounts_n2 rfl rfl rfl ?_
 refine ws_region rfl ?_
 refine wlo 0 1 rfl rfl rfl (wo_box (l := [_, _]) rfl rfl rfl rfl rfl S ?_)
 intro gb1 w1 S1; clear S
 refine wla 1 2 rfl rfl rfl rfl rfl rfl rfl ?_
 refine wl_end rfl ?_
 refine nm_sub [(1, _), (2, _)] ⟨rfl, rfl, trivial⟩ ?_
 refine nm_thn ?_
 refine ws_seqN ColourCounts_n3 ColourCounts_n4 rfl rfl rfl ?_
 refine ws_region rfl ?_
 refine wla 0 1 rfl rfl rfl rfl rfl rfl rfl ?_
 refine wl_end rfl ?_
 refine nm_thn ?_
 refine ws_seqN ColourCounts_n5 ColourCounts_n6 rfl rfl rfl ?_
 refine ws_seqN ColourCounts_n7 ColourCounts_n8 rfl rfl rfl ?_
 refine ws_region rfl ?_
 refine wla 0 1 rfl rfl rfl rfl rfl rfl rfl ?_
 refine wl_end rfl ?_
 refine nm_thn ?_
 refine ws_blockN ColourCounts_n9 0 rfl rfl rfl ?_
 have S2 := S1.nilrow (cdV 33); clear S1
 refine ws_loopE (fun mx_ ax_ wx_ => ∃ (i : Nat) (cv : List SlV) (cm : List (List Int)) (vrc : Value) (M1 : Hp), M.le M1 ∧ mx_ = q.length - i ∧ Env 68 [(1, .slice qA qv.length qc), (2, .pointer (some ⟨gb1, 0, none⟩)), (5, vrc), (6, .int .i64 (i : Int))] ax_ ∧ SH wx_ M1 X [Rs.row (cdV 33) vrc cv, Rs.box gb1 24 [.slice dcrsA d.crs.length dcrsc, .int .i64 d.loops]] ∧ i ≤ q.length ∧ cm = q.take i ∧ Rd2 cdInt M1 cv cm) rfl ?_ ?_
 ·intro ax_ hax_
  refine ⟨_, ⟨0, _, ([]), _, _, Hp.le_refl _, rfl, hax_.sub ⟨rfl, rfl, rfl, rfl, trivial⟩, S2.pick [0, 1] [_, _] (by decide) ⟨rfl, rfl, trivial⟩, ?hq1f0, ?hq1f1, ?hq1f2⟩⟩
  case hq1f0 => omega
  case hq1f1 => rfl
  case hq1f2 => exact Rd2.nil_
 ·rintro m1 a1 w2 ⟨i, cv, cm, vrc, M1, hle1, rfl, he1, S3, hi, hcm, hc2⟩
  clear S2
  refine ws_in he1 (c := ColourCounts_n10) rfl ?_
  clear he1 a1
  replace hdcrs := hdcrs.mono hle1
  replace hq := hq.mono hle1
  replace hdq := hdq.mono hle1
  have hc21 := hc2.1
  have hcl : cm.length = i := by rw [hcm, List.length_take]; omega
  refine ws_seqN ColourCounts_n11 ColourCounts_n12 rfl rfl rfl ?_
  refine ws_seqN ColourCounts_n13 ColourCounts_n14 rfl rfl rfl ?_
  refine ws_region rfl ?_
  refine wlm 0 1 rfl rfl rfl rfl rfl rfl rfl ?_
  refine wlm 1 2 rfl rfl rfl rfl rfl rfl rfl ?_
  refine wlo 2 3 rfl rfl rfl (wo_run rfl rfl (run_len rfl rfl rfl rfl rfl rfl Try.underlying34) ?_)
  refine wlo 3 4 rfl rfl rfl (wo_run rfl rfl (run_lss rfl rfl rfl) ?_)
  refine wl_end rfl ?_
  refine nm_sub [(1, _), (2, _), (5, _), (6, _), (13, _)] ⟨rfl, rfl, rfl, rfl, rfl, trivial⟩ ?_
  refine nm_thn ?_
  refine ws_condN ColourCounts_n15 ColourCounts_n16 rfl rfl rfl rfl (fun hb13 => ?_) (fun hb13 => ?_)
  ·replace hb13 := of_decide_eq_true hb13
   refine ws_skip rfl ?_
   refine nm_sub [(1, _), (2, _), (5, _), (6, _)] ⟨rfl, rfl, rfl, rfl, trivial⟩ ?_
   refine nm_thn ?_
   refine ws_seqN ColourCounts_n17 ColourCounts_n18 rfl rfl rfl ?_
   refine ws_blockN ColourCounts_n19 1 rfl rfl rfl ?_
   refine ws_region rfl ?_
   refine wlm 0 1 rfl rfl rfl rfl rfl rfl rfl ?_
   refine wlm 1 2 rfl rfl rfl rfl rfl rfl rfl ?_
   refine wlm 2 3 rfl rfl rfl rfl rfl rfl rfl ?_
   refine wlo 3 4 rfl rfl rfl (wo_run rfl rfl (run_indexM (C := (cdV 33)) i rfl rfl rfl sl34 (by first | rfl | omega) hq (by first | omega | (simp only [lens]; omega))) ?_)
   obtain ⟨hn1, hr1⟩ := hdq.2 i (by first | omega | (simp only [lens]; omega))
   have rmhr1 : (ga q i).length * 8 ≤ 140737488355328 := hr1.room
   refine wlo 4 5 rfl rfl rfl (wo_run rfl rfl (run_load1 rfl rfl Try.underlying33 rfl (hq.cell S3.m (i := i) (by first | omega | (simp only [lens]; omega)) 0 rfl (congrArg (fun n => some (Value.slice _ n _)) hn1))) ?_)
   refine wlo 5 6 rfl rfl rfl (wo_ct rfl rfl rfl rfl rfl rfl rfl cf15 S3 (ints_t (ga q i) (hr1.mono (Hp.le_un _ _)) S3.lend) ?_)
   intro vw3 w3 M2 hle2 S4 hRw3; clear S3
   replace hdcrs := hdcrs.mono hle2
   replace hq := hq.mono hle2
   replace hdq := hdq.mono hle2
   replace hc2 := hc2.mono hle2
   replace hr1 := hr1.mono hle2
   obtain ⟨A1, c1, rfl, hr2⟩ := hRw3
   refine wlo 6 7 rfl rfl rfl (wo_buildSlice1 (C := (cdV 33)) (l := [_]) rfl rfl rfl rfl sl34 rfl rfl rfl rfl S4 ?_)
   intro gb2 w4 S5; clear S4
   refine wlo 7 8 rfl rfl rfl (wo_append1 (C := (cdV 33)) (i := 1) (q := 0) (⟨A1, (ga q i).length, c1⟩ : SlV) rfl rfl rfl rfl rfl rfl rfl rfl sl34 S5 rfl rfl rfl (by show (_ + 1) * 24 ≤ _; omega) ?_)
   intro vrc1 w5 S6; clear S5
   have S7 := S6.pick [1, 2] [_, _] (by decide) ⟨rfl, rfl, trivial⟩; clear S6
   have hd1 := hc2.snoc (c := c1) hr2
   refine wla 8 9 rfl rfl rfl rfl rfl rfl rfl ?_
   refine wl_end rfl ?_
   refine nm_blk ?_
   refine nm_sub [(1, _), (2, _), (5, _), (6, _)] ⟨rfl, rfl, rfl, rfl, trivial⟩ ?_
   refine nm_thn ?_
   refine ws_region rfl ?_
   refine wlm 0 1 rfl rfl rfl rfl rfl rfl rfl ?_
   refine wlo 1 2 rfl rfl rfl (wo_run rfl rfl (run_add rfl rfl rfl (by first | omega | (simp only [lens]; omega))) ?_)
   refine wla 2 3 rfl rfl rfl rfl rfl rfl rfl ?_
   refine wl_end rfl ?_
   refine nm_lp ?_
   intro ax_ hax_
   refine ⟨_, ?hq2m, ⟨i + 1, _, (cm ++ [ga q i]), _, _, (hle1.trans hle2), rfl, hax_.sub ⟨rfl, rfl, rfl, rfl, trivial⟩, S7.pick [0, 1] [_, _] (by decide) ⟨rfl, rfl, trivial⟩, ?hq2f0, ?hq2f1, ?hq2f2⟩⟩
   case hq2f0 => omega
   case hq2f1 => (rw [take_ga q i (by omega), ← hcm])
   case hq2f2 => exact hd1
   case hq2m => omega
  ·replace hb13 := of_decide_eq_false hb13
   refine ws_exit rfl rfl ?_
   refine nm_sub [(1, _), (2, _), (5, _)] ⟨rfl, rfl, rfl, trivial⟩ ?_
   refine nm_thn ?_
   refine ws_seqN ColourCounts_n20 ColourCounts_n21 rfl rfl rfl ?_
   obtain ⟨M3, hle3, S8, ⟨A2, c2, e1, hr3⟩⟩ := S3.pubrow (i := 0) (H' := [_, _]) rfl rfl (by show _ * 24 ≤ _; have h1 := hc2.1; have h3 : cm.length ≤ q.length := (by rw [hcm, List.length_take]; omega); first | omega | (simp only [lens]; omega))
   clear S3; subst e1
   replace hdcrs := hdcrs.mono hle3
   replace hq := hq.mono hle3
   replace hdq := hdq.mono hle3
   replace hc2 := hc2.mono hle3
   have hcm9 : cm = q := by rw [hcm, List.take_of_length_le (by omega)]
   rw [hcm9] at hc2
   refine ws_region rfl ?_
   refine wlo 0 1 rfl rfl rfl (wo_run rfl rfl (run_loadN (us := [_, _]) rfl rfl Try.underlying24 rfl sz24 (S8.boxcs (i := 1) rfl ⟨rfl, rfl, trivial⟩)) ?_)
   refine wlo 1 2 rfl rfl rfl (wo_ct rfl rfl rfl rfl rfl rfl rfl cf9 S8 (DiagramOf_t d (hdcrs.mono (Hp.le_un _ _)) S8.lend) ?_)
   intro vw6 w6 M4 hle4 S9 hRw6; clear S8
   replace hdcrs := hdcrs.mono hle4
   replace hq := hq.mono hle4
   replace hdq := hdq.mono hle4
   replace hc2 := hc2.mono hle4
   replace hr3 := hr3.mono hle4
   obtain ⟨A3, c3, rfl, hr4⟩ := hRw6
   refine wlm 2 3 rfl rfl rfl rfl rfl rfl rfl ?_
   refine wlo 3 4 rfl rfl rfl (wo_ct rfl rfl rfl rfl rfl rfl rfl cf23 S9 (Count_t d q (hr4.mono (Hp.le_un _ _)) (hr3.mono (Hp.le_un _ _)) (hc2.mono (Hp.le_un _ _)) S9.lend) ?_)
   intro vw7 w7 M5 hle5 S10 hRw7; clear S9
   replace hdcrs := hdcrs.mono hle5
   replace hq := hq.mono hle5
   replace hdq := hdq.mono hle5
   replace hc2 := hc2.mono hle5
   replace hr3 := hr3.mono hle5
   replace hr4 := hr4.mono hle5
   obtain rfl := hRw7
   have hE9 := cE_cases d q
   refine wlm 4 5 rfl rfl rfl rfl rfl rfl rfl ?_
   refine wlo 5 6 rfl rfl rfl (wo_run rfl rfl (run_extract rfl rfl rfl) ?_)
   refine wlo 6 7 rfl rfl rfl (wo_run rfl rfl (run_extract rfl rfl rfl) ?_)
   refine wla 7 8 rfl rfl rfl rfl rfl rfl rfl ?_
   refine wla 8 9 rfl rfl rfl rfl rfl rfl rfl ?_
   refine wl_end rfl ?_
   refine nm_sub [(1, _), (2, _), (7, _), (8, _)] ⟨rfl, rfl, rfl, rfl, trivial⟩ ?_
   refine nm_thn ?_
   refine ws_seqN ColourCounts_n22 ColourCounts_n23 rfl rfl rfl ?_
   refine ws_region rfl ?_
   refine wlm 0 1 rfl rfl rfl rfl rfl rfl rfl ?_
   refine wlo 1 2 rfl rfl rfl (wo_cq rfl rfl rfl rfl rfl rfl rfl cf24 S10 (QuandleMay_q q (hq.mono (Hp.le_un _ _)) (hdq.mono (Hp.le_un _ _)) S10.lend) ?_)
   rintro _ w8 S11 rfl; clear S10
   refine wla 2 3 rfl rfl rfl rfl rfl rfl rfl ?_
   refine wl_end rfl ?_
   refine nm_sub [(1, _), (2, _), (7, _), (8, _), (9, _)] ⟨rfl, rfl, rfl, rfl, rfl, trivial⟩ ?_
   refine nm_thn ?_
   refine ws_seqN ColourCounts_n24 ColourCounts_n25 rfl rfl rfl ?_
   refine ws_seqN ColourCounts_n26 ColourCounts_n27 rfl rfl rfl ?_
   refine ws_region rfl ?_
   refine wlm 0 1 rfl rfl rfl rfl rfl rfl rfl ?_
   refine wlo 1 2 rfl rfl rfl (wo_run rfl rfl (run_eql rfl rfl rfl) ?_)
   refine wl_end rfl ?_
   refine nm_sub [(1, _), (2, _), (7, _), (8, _), (9, _), (34, _)] ⟨rfl, rfl, rfl, rfl, rfl, rfl, trivial⟩ ?_
   refine nm_thn ?_
   refine ws_condN ColourCounts_n28 ColourCounts_n29 rfl rfl rfl rfl (fun hb34 => ?_) (fun hb34 => ?_)
   ·replace hb34 := of_decide_eq_true hb34
    refine ws_region rfl ?_
    refine wlo 0 1 rfl rfl rfl (wo_run rfl rfl (run_loadN (us := [_, _]) rfl rfl Try.underlying24 rfl sz24 (S11.boxcs (i := 1) rfl ⟨rfl, rfl, trivial⟩)) ?_)
    refine wlo 1 2 rfl rfl rfl (wo_ct rfl rfl rfl rfl rfl rfl rfl cf25 S11 (PlanarMay_t d (hdcrs.mono (Hp.le_un _ _)) S11.lend) ?_)
    intro vw9 w9 M6 hle6 S12 hRw9; clear S11
    replace hdcrs := hdcrs.mono hle6
    replace hq := hq.mono hle6
    replace hdq := hdq.mono hle6
    replace hc2 := hc2.mono hle6
    replace hr3 := hr3.mono hle6
    replace hr4 := hr4.mono hle6
    obtain rfl := hRw9
    refine wla 2 3 rfl rfl rfl rfl rfl rfl rfl ?_
    refine wl_end rfl ?_
    refine nm_sub [(1, _), (2, _), (7, _), (8, _), (9, _)] ⟨rfl, rfl, rfl, rfl, rfl, trivial⟩ ?_
    refine nm_thn ?_
    refine ws_seqN ColourCounts_n30 ColourCounts_n31 rfl rfl rfl ?_
    refine ws_seqN ColourCounts_n32 ColourCounts_n33 rfl rfl rfl ?_
    refine ws_region rfl ?_
    refine wlm 0 1 rfl rfl rfl rfl rfl rfl rfl ?_
    refine wlo 1 2 rfl rfl rfl (wo_run rfl rfl (run_eql rfl rfl rfl) ?_)
    refine wlm 2 3 rfl rfl rfl rfl rfl rfl rfl ?_
    refine wl_split (t := 39) rfl (fun hg39 => ?_) (fun hg39 => ?_)
    ·replace hg39 := of_decide_eq_true hg39
     refine wl_opG (k := 3) (k' := 4) rfl rfl ⟨_, _, _, rfl, rfl, rfl, rfl⟩ rfl (wo_run rfl rfl (run_fieldAddr rfl rfl Try.underlying24 rfl (ce22) (nf22)) ?_)
     refine wl_opG (k := 4) (k' := 5) rfl rfl ⟨_, _, _, rfl, rfl, rfl, rfl⟩ rfl (wo_run rfl rfl (run_load1 rfl rfl Try.underlying22 rfl (S12.boxc (i := 1) rfl rfl)) ?_)
     refine wl_opG (k := 5) (k' := 6) rfl rfl ⟨_, _, _, rfl, rfl, rfl, rfl⟩ rfl (wo_run rfl rfl (run_len rfl rfl rfl rfl rfl rfl Try.underlying22) ?_)
     refine wl_opG (k := 6) (k' := 7) rfl rfl ⟨_, _, _, rfl, rfl, rfl, rfl⟩ rfl (wo_run rfl rfl (run_gtr rfl rfl rfl) ?_)
     refine wl_opG (k := 7) (k' := 8) rfl rfl ⟨_, _, _, rfl, rfl, rfl, rfl⟩ rfl (wo_run rfl rfl (run_move rfl rfl) ?_)
     refine wl_split (t := 44) rfl (fun hg44 => ?_) (fun hg44 => ?_)
     ·replace hg44 := of_decide_eq_true hg44
      refine wl_no (k := 8) (k' := 9) (d := 45) rfl rfl ⟨_, _, _, rfl, rfl, rfl, rfl⟩ rfl rfl ?_
      refine wl_no (k := 9) (k' := 10) (d := 46) rfl rfl ⟨_, _, _, rfl, rfl, rfl, rfl⟩ rfl rfl ?_
      refine wl_no (k := 10) (k' := 11) (d := 47) rfl rfl ⟨_, _, _, rfl, rfl, rfl, rfl⟩ rfl rfl ?_
      refine wl_opG (k := 11) (k' := 12) rfl rfl ⟨_, _, _, rfl, rfl, rfl, rfl⟩ rfl (wo_run rfl rfl (run_pickT rfl rfl rfl) ?_)
      refine wlo 12 13 rfl rfl rfl (wo_run rfl rfl (run_pickT rfl rfl rfl) ?_)
      refine wl_end rfl ?_
      refine nm_sub [(1, _), (2, _), (7, _), (8, _), (9, _), (49, _)] ⟨rfl, rfl, rfl, rfl, rfl, rfl, trivial⟩ ?_
      refine nm_thn ?_
      refine ws_condTN ColourCounts_n34 rfl rfl rfl ?_
      refine ws_region rfl ?_
      refine wla 0 1 rfl rfl rfl rfl rfl rfl rfl ?_
      refine wl_end rfl ?_
      refine nm_sub [(1, _), (2, _), (7, _), (8, _), (9, _)] ⟨rfl, rfl, rfl, rfl, rfl, trivial⟩ ?_
      refine nm_thn ?_
      refine ws_seqN ColourCounts_n36 ColourCounts_n37 rfl rfl rfl ?_
      refine ws_seqN ColourCounts_n38 ColourCounts_n39 rfl rfl rfl ?_
      refine ws_region rfl ?_
      refine wlm 0 1 rfl rfl rfl rfl rfl rfl rfl ?_
      refine wlo 1 2 rfl rfl rfl (wo_run rfl rfl (run_neq rfl rfl rfl) ?_)
      refine wl_end rfl ?_
      refine nm_sub [(1, _), (2, _), (7, _), (8, _), (9, _), (51, _)] ⟨rfl, rfl, rfl, rfl, rfl, rfl, trivial⟩ ?_
      refine nm_thn ?_
      refine ws_condN ColourCounts_n40 ColourCounts_n41 rfl rfl rfl rfl (fun hb51 => ?_) (fun hb51 => ?_)
      ·replace hb51 := of_decide_eq_true hb51
       refine ws_seqN ColourCounts_n42 ColourCounts_n43 rfl rfl rfl ?_
       refine ws_region rfl ?_
       refine wlm 0 1 rfl rfl rfl rfl rfl rfl rfl ?_
       refine wlm 1 2 rfl rfl rfl rfl rfl rfl rfl ?_
       refine wlo 2 3 rfl rfl rfl (wo_run rfl rfl (run_eql rfl rfl rfl) ?_)
       refine wlm 3 4 rfl rfl rfl rfl rfl rfl rfl ?_
       refine wl_split (t := 55) rfl (fun hg55 => ?_) (fun hg55 => ?_)
       ·replace hg55 := of_decide_eq_true hg55
        refine wl_opG (k := 4) (k' := 5) rfl rfl ⟨_, _, _, rfl, rfl, rfl, rfl⟩ rfl (wo_run rfl rfl (run_move rfl rfl) ?_)
        refine wl_opG (k := 5) (k' := 6) rfl rfl ⟨_, _, _, rfl, rfl, rfl, rfl⟩ rfl (wo_run rfl rfl (run_eql rfl rfl rfl) ?_)
        refine wlo 6 7 rfl rfl rfl (wo_run rfl rfl (run_pickT rfl rfl rfl) ?_)
        refine wla 7 8 rfl rfl rfl rfl rfl rfl rfl ?_
        refine wl_end rfl ?_
        refine nm_sub [(4, _)] ⟨rfl, trivial⟩ ?_
        refine nm_thn ?_
        refine ws_ret hC [_] rfl rfl ⟨rfl, trivial⟩ ?_
        refine ⟨_, rfl, _, (((hle1.trans hle3).trans hle4).trans hle5).trans hle6, (S12.pick [] [] (by decide) trivial), ?_⟩
        show Value.bool _ = _
        refine congrArg Value.bool ?_
        first | rfl | (rw [decide_eq_true_iff]; omega) | (simp_all; done)
       ·replace hg55 := of_decide_eq_false hg55
        exfalso; omega
      ·replace hb51 := of_decide_eq_false hb51
       obtain ⟨hQF, hQK⟩ := quE_inv (show quE q = 0 by omega)
       obtain ⟨hmo, hpl⟩ := errO_ok (show errO d = 0 by omega)
       obtain ⟨hn, hab, hlo0, hlo1⟩ := mayO hmo
       refine ws_skip rfl ?_
       refine nm_sub [(1, _), (2, _), (7, _), (8, _)] ⟨rfl, rfl, rfl, rfl, trivial⟩ ?_
       refine nm_thn ?_
       refine ws_seqN ColourCounts_n44 ColourCounts_n45 rfl rfl rfl ?_
       refine ws_region rfl ?_
       refine wlm 0 1 rfl rfl rfl rfl rfl rfl rfl ?_
       refine wlo 1 2 rfl rfl rfl (wo_run rfl rfl (run_eql rfl rfl rfl) ?_)
       refine wlm 2 3 rfl rfl rfl rfl rfl rfl rfl ?_
       refine wl_split (t := 61) rfl (fun hg61 => ?_) (fun hg61 => ?_)
       ·replace hg61 := of_decide_eq_true hg61
        refine wl_opG (k := 3) (k' := 4) rfl rfl ⟨_, _, _, rfl, rfl, rfl, rfl⟩ rfl (wo_run rfl rfl (run_move rfl rfl) ?_)
        refine wl_opG (k := 4) (k' := 5) rfl rfl ⟨_, _, _, rfl, rfl, rfl, rfl⟩ rfl (wo_run rfl rfl (run_loadN (us := [_, _]) rfl rfl Try.underlying24 rfl sz24 (S12.boxcs (i := 1) rfl ⟨rfl, rfl, trivial⟩)) ?_)
        refine wl_opG (k := 5) (k' := 6) rfl rfl ⟨_, _, _, rfl, rfl, rfl, rfl⟩ rfl (wo_run rfl rfl (run_move rfl rfl) ?_)
        refine wl_opG (k := 6) (k' := 7) rfl rfl ⟨_, _, _, rfl, rfl, rfl, rfl⟩ rfl (wo_ct rfl rfl rfl rfl rfl rfl rfl cf26 S12 (CountOf_t d q (hdcrs.mono (Hp.le_un _ _)) (hq.mono (Hp.le_un _ _)) (hdq.mono (Hp.le_un _ _)) hQF (by omega) hab ⟨hlo0, by omega⟩ S12.lend) ?_)
        intro vw10 w10 M7 hle7 S13 hRw10; clear S12
        replace hdcrs := hdcrs.mono hle7
        replace hq := hq.mono hle7
        replace hdq := hdq.mono hle7
        replace hc2 := hc2.mono hle7
        replace hr3 := hr3.mono hle7
        replace hr4 := hr4.mono hle7
        obtain rfl := hRw10
        refine wl_opG (k := 7) (k' := 8) rfl rfl ⟨_, _, _, rfl, rfl, rfl, rfl⟩ rfl (wo_run rfl rfl (run_eql rfl rfl rfl) ?_)
        refine wlo 8 9 rfl rfl rfl (wo_run rfl rfl (run_pickT rfl rfl rfl) ?_)
        refine wla 9 10 rfl rfl rfl rfl rfl rfl rfl ?_
        refine wl_end rfl ?_
        refine nm_sub [(4, _)] ⟨rfl, trivial⟩ ?_
        refine nm_thn ?_
        refine ws_ret hC [_] rfl rfl ⟨rfl, trivial⟩ ?_
        refine ⟨_, rfl, _, ((((hle1.trans hle3).trans hle4).trans hle5).trans hle6).trans hle7, (S13.pick [] [] (by decide) trivial), ?_⟩
        show Value.bool _ = _
        refine congrArg Value.bool ?_
        first | rfl | (rw [decide_eq_true_iff]; omega) | (simp_all; done)
       ·replace hg61 := of_decide_eq_false hg61
        exfalso; omega
     ·replace hg44 := of_decide_eq_false hg44
      refine wl_opG (k := 8) (k' := 9) rfl rfl ⟨_, _, _, rfl, rfl, rfl, rfl⟩ rfl (wo_run rfl rfl (run_fieldAddr rfl rfl Try.underlying24 rfl (ce3) (nf3)) ?_)
      refine wl_opG (k := 9) (k' := 10) rfl rfl ⟨_, _, _, rfl, rfl, rfl, rfl⟩ rfl (wo_run rfl rfl (run_load1 rfl rfl Try.underlying3 rfl (S12.boxc (i := 1) rfl rfl)) ?_)
      refine wl_opG (k := 10) (k' := 11) rfl rfl ⟨_, _, _, rfl, rfl, rfl, rfl⟩ rfl (wo_run rfl rfl (run_gtr rfl rfl rfl) ?_)
      refine wl_opG (k := 11) (k' := 12) rfl rfl ⟨_, _, _, rfl, rfl, rfl, rfl⟩ rfl (wo_run rfl rfl (run_pickF rfl rfl rfl) ?_)
      refine wlo 12 13 rfl rfl rfl (wo_run rfl rfl (run_pickT rfl rfl rfl) ?_)
      refine wl_end rfl ?_
      refine nm_sub [(1, _), (2, _), (7, _), (8, _), (9, _), (49, _)] ⟨rfl, rfl, rfl, rfl, rfl, rfl, trivial⟩ ?_
      refine nm_thn ?_
      refine ws_condN ColourCounts_n34 ColourCounts_n35 rfl rfl rfl rfl (fun hb49 => ?_) (fun hb49 => ?_)
      ·replace hb49 := of_decide_eq_true hb49
       refine ws_region rfl ?_
       refine wla 0 1 rfl rfl rfl rfl rfl rfl rfl ?_
       refine wl_end rfl ?_
       refine nm_sub [(1, _), (2, _), (7, _), (8, _), (9, _)] ⟨rfl, rfl, rfl, rfl, rfl, trivial⟩ ?_
       refine nm_thn ?_
       refine ws_seqN ColourCounts_n36 ColourCounts_n37 rfl rfl rfl ?_
       refine ws_seqN ColourCounts_n38 ColourCounts_n39 rfl rfl rfl ?_
       refine ws_region rfl ?_
       refine wlm 0 1 rfl rfl rfl rfl rfl rfl rfl ?_
       refine wlo 1 2 rfl rfl rfl (wo_run rfl rfl (run_neq rfl rfl rfl) ?_)
       refine wl_end rfl ?_
       refine nm_sub [(1, _), (2, _), (7, _), (8, _), (9, _), (51, _)] ⟨rfl, rfl, rfl, rfl, rfl, rfl, trivial⟩ ?_
       refine nm_thn ?_
       refine ws_condN ColourCounts_n40 ColourCounts_n41 rfl rfl rfl rfl (fun hb51 => ?_) (fun hb51 => ?_)
       ·replace hb51 := of_decide_eq_true hb51
        refine ws_seqN ColourCounts_n42 ColourCounts_n43 rfl rfl rfl ?_
        refine ws_region rfl ?_
        refine wlm 0 1 rfl rfl rfl rfl rfl rfl rfl ?_
        refine wlm 1 2 rfl rfl rfl rfl rfl rfl rfl ?_
        refine wlo 2 3 rfl rfl rfl (wo_run rfl rfl (run_eql rfl rfl rfl) ?_)
        refine wlm 3 4 rfl rfl rfl rfl rfl rfl rfl ?_
        refine wl_split (t := 55) rfl (fun hg55 => ?_) (fun hg55 => ?_)
        ·replace hg55 := of_decide_eq_true hg55
         refine wl_opG (k := 4) (k' := 5) rfl rfl ⟨_, _, _, rfl, rfl, rfl, rfl⟩ rfl (wo_run rfl rfl (run_move rfl rfl) ?_)
         refine wl_opG (k := 5) (k' := 6) rfl rfl ⟨_, _, _, rfl, rfl, rfl, rfl⟩ rfl (wo_run rfl rfl (run_eql rfl rfl rfl) ?_)
         refine wlo 6 7 rfl rfl rfl (wo_run rfl rfl (run_pickT rfl rfl rfl) ?_)
         refine wla 7 8 rfl rfl rfl rfl rfl rfl rfl ?_
         refine wl_end rfl ?_
         refine nm_sub [(4, _)] ⟨rfl, trivial⟩ ?_
         refine nm_thn ?_
         refine ws_ret hC [_] rfl rfl ⟨rfl, trivial⟩ ?_
         refine ⟨_, rfl, _, (((hle1.trans hle3).trans hle4).trans hle5).trans hle6, (S12.pick [] [] (by decide) trivial), ?_⟩
         show Value.bool _ = _
         refine congrArg Value.bool ?_
         first | rfl | (rw [decide_eq_true_iff]; omega) | (simp_all; done)
        ·replace hg55 := of_decide_eq_false hg55
         exfalso; omega
       ·replace hb51 := of_decide_eq_false hb51
        obtain ⟨hQF, hQK⟩ := quE_inv (show quE q = 0 by omega)
        obtain ⟨hmo, hpl⟩ := errO_ok (show errO d = 0 by omega)
        obtain ⟨hn, hab, hlo0, hlo1⟩ := mayO hmo
        refine ws_skip rfl ?_
        refine nm_sub [(1, _), (2, _), (7, _), (8, _)] ⟨rfl, rfl, rfl, rfl, trivial⟩ ?_
        refine nm_thn ?_
        refine ws_seqN ColourCounts_n44 ColourCounts_n45 rfl rfl rfl ?_
        refine ws_region rfl ?_
        refine wlm 0 1 rfl rfl rfl rfl rfl rfl rfl ?_
        refine wlo 1 2 rfl rfl rfl (wo_run rfl rfl (run_eql rfl rfl rfl) ?_)
        refine wlm 2 3 rfl rfl rfl rfl rfl rfl rfl ?_
        refine wl_split (t := 61) rfl (fun hg61 => ?_) (fun hg61 => ?_)
        ·replace hg61 := of_decide_eq_true hg61
         refine wl_opG (k := 3) (k' := 4) rfl rfl ⟨_, _, _, rfl, rfl, rfl, rfl⟩ rfl (wo_run rfl rfl (run_move rfl rfl) ?_)
         refine wl_opG (k := 4) (k' := 5) rfl rfl ⟨_, _, _, rfl, rfl, rfl, rfl⟩ rfl (wo_run rfl rfl (run_loadN (us := [_, _]) rfl rfl Try.underlying24 rfl sz24 (S12.boxcs (i := 1) rfl ⟨rfl, rfl, trivial⟩)) ?_)
         refine wl_opG (k := 5) (k' := 6) rfl rfl ⟨_, _, _, rfl, rfl, rfl, rfl⟩ rfl (wo_run rfl rfl (run_move rfl rfl) ?_)
         refine wl_opG (k := 6) (k' := 7) rfl rfl ⟨_, _, _, rfl, rfl, rfl, rfl⟩ rfl (wo_ct rfl rfl rfl rfl rfl rfl rfl cf26 S12 (CountOf_t d q (hdcrs.mono (Hp.le_un _ _)) (hq.mono (Hp.le_un _ _)) (hdq.mono (Hp.le_un _ _)) hQF (by omega) hab ⟨hlo0, by omega⟩ S12.lend) ?_)
         intro vw11 w11 M8 hle8 S14 hRw11; clear S12
         replace hdcrs := hdcrs.mono hle8
         replace hq := hq.mono hle8
         replace hdq := hdq.mono hle8
         replace hc2 := hc2.mono hle8
         replace hr3 := hr3.mono hle8
         replace hr4 := hr4.mono hle8
         obtain rfl := hRw11
         refine wl_opG (k := 7) (k' := 8) rfl rfl ⟨_, _, _, rfl, rfl, rfl, rfl⟩ rfl (wo_run rfl rfl (run_eql rfl rfl rfl) ?_)
         refine wlo 8 9 rfl rfl rfl (wo_run rfl rfl (run_pickT rfl rfl rfl) ?_)
         refine wla 9 10 rfl rfl rfl rfl rfl rfl rfl ?_
         refine wl_end rfl ?_
         refine nm_sub [(4, _)] ⟨rfl, trivial⟩ ?_
         refine nm_thn ?_
         refine ws_ret hC [_] rfl rfl ⟨rfl, trivial⟩ ?_
         refine ⟨_, rfl, _, ((((hle1.trans hle3).trans hle4).trans hle5).trans hle6).trans hle8, (S14.pick [] [] (by decide) trivial), ?_⟩
         show Value.bool _ = _
         refine congrArg Value.bool ?_
         first | rfl | (rw [decide_eq_true_iff]; omega) | (simp_all; done)
        ·replace hg61 := of_decide_eq_false hg61
         exfalso; omega
      ·replace hb49 := of_decide_eq_false hb49
       refine ws_skip rfl ?_
       refine nm_sub [(1, _), (2, _), (7, _), (8, _), (9, _)] ⟨rfl, rfl, rfl, rfl, rfl, trivial⟩ ?_
       refine nm_thn ?_
       refine ws_seqN ColourCounts_n36 ColourCounts_n37 rfl rfl rfl ?_
       refine ws_seqN ColourCounts_n38 ColourCounts_n39 rfl rfl rfl ?_
       refine ws_region rfl ?_
       refine wlm 0 1 rfl rfl rfl rfl rfl rfl rfl ?_
       refine wlo 1 2 rfl rfl rfl (wo_run rfl rfl (run_neq rfl rfl rfl) ?_)
       refine wl_end rfl ?_
       refine nm_sub [(1, _), (2, _), (7, _), (8, _), (9, _), (51, _)] ⟨rfl, rfl, rfl, rfl, rfl, rfl, trivial⟩ ?_
       refine nm_thn ?_
       refine ws_condN ColourCounts_n40 ColourCounts_n41 rfl rfl rfl rfl (fun hb51 => ?_) (fun hb51 => ?_)
       ·replace hb51 := of_decide_eq_true hb51
        refine ws_seqN ColourCounts_n42 ColourCounts_n43 rfl rfl rfl ?_
        refine ws_region rfl ?_
        refine wlm 0 1 rfl rfl rfl rfl rfl rfl rfl ?_
        refine wlm 1 2 rfl rfl rfl rfl rfl rfl rfl ?_
        refine wlo 2 3 rfl rfl rfl (wo_run rfl rfl (run_eql rfl rfl rfl) ?_)
        refine wlm 3 4 rfl rfl rfl rfl rfl rfl rfl ?_
        refine wl_split (t := 55) rfl (fun hg55 => ?_) (fun hg55 => ?_)
        ·replace hg55 := of_decide_eq_true hg55
         refine wl_opG (k := 4) (k' := 5) rfl rfl ⟨_, _, _, rfl, rfl, rfl, rfl⟩ rfl (wo_run rfl rfl (run_move rfl rfl) ?_)
         refine wl_opG (k := 5) (k' := 6) rfl rfl ⟨_, _, _, rfl, rfl, rfl, rfl⟩ rfl (wo_run rfl rfl (run_eql rfl rfl rfl) ?_)
         refine wlo 6 7 rfl rfl rfl (wo_run rfl rfl (run_pickT rfl rfl rfl) ?_)
         refine wla 7 8 rfl rfl rfl rfl rfl rfl rfl ?_
         refine wl_end rfl ?_
         refine nm_sub [(4, _)] ⟨rfl, trivial⟩ ?_
         refine nm_thn ?_
         refine ws_ret hC [_] rfl rfl ⟨rfl, trivial⟩ ?_
         refine ⟨_, rfl, _, (((hle1.trans hle3).trans hle4).trans hle5).trans hle6, (S12.pick [] [] (by decide) trivial), ?_⟩
         show Value.bool _ = _
         refine congrArg Value.bool ?_
         first | rfl | (rw [decide_eq_true_iff]; omega) | (simp_all; done)
        ·replace hg55 := of_decide_eq_false hg55
         exfalso; omega
       ·replace hb51 := of_decide_eq_false hb51
        obtain ⟨hQF, hQK⟩ := quE_inv (show quE q = 0 by omega)
        obtain ⟨hmo, hpl⟩ := errO_ok (show errO d = 0 by omega)
        obtain ⟨hn, hab, hlo0, hlo1⟩ := mayO hmo
        refine ws_skip rfl ?_
        refine nm_sub [(1, _), (2, _), (7, _), (8, _)] ⟨rfl, rfl, rfl, rfl, trivial⟩ ?_
        refine nm_thn ?_
        refine ws_seqN ColourCounts_n44 ColourCounts_n45 rfl rfl rfl ?_
        refine ws_region rfl ?_
        refine wlm 0 1 rfl rfl rfl rfl rfl rfl rfl ?_
        refine wlo 1 2 rfl rfl rfl (wo_run rfl rfl (run_eql rfl rfl rfl) ?_)
        refine wlm 2 3 rfl rfl rfl rfl rfl rfl rfl ?_
        refine wl_split (t := 61) rfl (fun hg61 => ?_) (fun hg61 => ?_)
        ·replace hg61 := of_decide_eq_true hg61
         refine wl_opG (k := 3) (k' := 4) rfl rfl ⟨_, _, _, rfl, rfl, rfl, rfl⟩ rfl (wo_run rfl rfl (run_move rfl rfl) ?_)
         refine wl_opG (k := 4) (k' := 5) rfl rfl ⟨_, _, _, rfl, rfl, rfl, rfl⟩ rfl (wo_run rfl rfl (run_loadN (us := [_, _]) rfl rfl Try.underlying24 rfl sz24 (S12.boxcs (i := 1) rfl ⟨rfl, rfl, trivial⟩)) ?_)
         refine wl_opG (k := 5) (k' := 6) rfl rfl ⟨_, _, _, rfl, rfl, rfl, rfl⟩ rfl (wo_run rfl rfl (run_move rfl rfl) ?_)
         refine wl_opG (k := 6) (k' := 7) rfl rfl ⟨_, _, _, rfl, rfl, rfl, rfl⟩ rfl (wo_ct rfl rfl rfl rfl rfl rfl rfl cf26 S12 (CountOf_t d q (hdcrs.mono (Hp.le_un _ _)) (hq.mono (Hp.le_un _ _)) (hdq.mono (Hp.le_un _ _)) hQF (by omega) hab ⟨hlo0, by omega⟩ S12.lend) ?_)
         intro vw12 w12 M9 hle9 S15 hRw12; clear S12
         replace hdcrs := hdcrs.mono hle9
         replace hq := hq.mono hle9
         replace hdq := hdq.mono hle9
         replace hc2 := hc2.mono hle9
         replace hr3 := hr3.mono hle9
         replace hr4 := hr4.mono hle9
         obtain rfl := hRw12
         refine wl_opG (k := 7) (k' := 8) rfl rfl ⟨_, _, _, rfl, rfl, rfl, rfl⟩ rfl (wo_run rfl rfl (run_eql rfl rfl rfl) ?_)
         refine wlo 8 9 rfl rfl rfl (wo_run rfl rfl (run_pickT rfl rfl rfl) ?_)
         refine wla 9 10 rfl rfl rfl rfl rfl rfl rfl ?_
         refine wl_end rfl ?_
         refine nm_sub [(4, _)] ⟨rfl, trivial⟩ ?_
         refine nm_thn ?_
         refine ws_ret hC [_] rfl rfl ⟨rfl, trivial⟩ ?_
         refine ⟨_, rfl, _, ((((hle1.trans hle3).trans hle4).trans hle5).trans hle6).trans hle9, (S15.pick [] [] (by decide) trivial), ?_⟩
         show Value.bool _ = _
         refine congrArg Value.bool ?_
         first | rfl | (rw [decide_eq_true_iff]; omega) | (simp_all; done)
        ·replace hg61 := of_decide_eq_false hg61
         exfalso; omega
    ·replace hg39 := of_decide_eq_false hg39
     refine wl_no (k := 3) (k' := 4) (d := 40) rfl rfl ⟨_, _, _, rfl, rfl, rfl, rfl⟩ rfl rfl ?_
     refine wl_no (k := 4) (k' := 5) (d := 41) rfl rfl ⟨_, _, _, rfl, rfl, rfl, rfl⟩ rfl rfl ?_
     refine wl_no (k := 5) (k' := 6) (d := 42) rfl rfl ⟨_, _, _, rfl, rfl, rfl, rfl⟩ rfl rfl ?_
     refine wl_no (k := 6) (k' := 7) (d := 43) rfl rfl ⟨_, _, _, rfl, rfl, rfl, rfl⟩ rfl rfl ?_
     refine wl_no (k := 7) (k' := 8) (d := 44) rfl rfl ⟨_, _, _, rfl, rfl, rfl, rfl⟩ rfl rfl ?_
     refine wl_no (k := 8) (k' := 9) (d := 45) rfl rfl ⟨_, _, _, rfl, rfl, rfl, rfl⟩ rfl rfl ?_
     refine wl_no (k := 9) (k' := 10) (d := 46) rfl rfl ⟨_, _, _, rfl, rfl, rfl, rfl⟩ rfl rfl ?_
     refine wl_no (k := 10) (k' := 11) (d := 47) rfl rfl ⟨_, _, _, rfl, rfl, rfl, rfl⟩ rfl rfl ?_
     refine wl_no (k := 11) (k' := 12) (d := 48) rfl rfl ⟨_, _, _, rfl, rfl, rfl, rfl⟩ rfl rfl ?_
     refine wlo 12 13 rfl rfl rfl (wo_run rfl rfl (run_pickF rfl rfl rfl) ?_)
     refine wl_end rfl ?_
     refine nm_sub [(1, _), (2, _), (7, _), (8, _), (9, _), (49, _)] ⟨rfl, rfl, rfl, rfl, rfl, rfl, trivial⟩ ?_
     refine nm_thn ?_
     refine ws_condFN ColourCounts_n35 rfl rfl rfl ?_
     refine ws_skip rfl ?_
     refine nm_sub [(1, _), (2, _), (7, _), (8, _), (9, _)] ⟨rfl, rfl, rfl, rfl, rfl, trivial⟩ ?_
     refine nm_thn ?_
     refine ws_seqN ColourCounts_n36 ColourCounts_n37 rfl rfl rfl ?_
     refine ws_seqN ColourCounts_n38 ColourCounts_n39 rfl rfl rfl ?_
     refine ws_region rfl ?_
     refine wlm 0 1 rfl rfl rfl rfl rfl rfl rfl ?_
     refine wlo 1 2 rfl rfl rfl (wo_run rfl rfl (run_neq rfl rfl rfl) ?_)
     refine wl_end rfl ?_
     refine nm_sub [(1, _), (2, _), (7, _), (8, _), (9, _), (51, _)] ⟨rfl, rfl, rfl, rfl, rfl, rfl, trivial⟩ ?_
     refine nm_thn ?_
     refine ws_condN ColourCounts_n40 ColourCounts_n41 rfl rfl rfl rfl (fun hb51 => ?_) (fun hb51 => ?_)
     ·replace hb51 := of_decide_eq_true hb51
      refine ws_seqN ColourCounts_n42 ColourCounts_n43 rfl rfl rfl ?_
      refine ws_region rfl ?_
      refine wlm 0 1 rfl rfl rfl rfl rfl rfl rfl ?_
      refine wlm 1 2 rfl rfl rfl rfl rfl rfl rfl ?_
      refine wlo 2 3 rfl rfl rfl (wo_run rfl rfl (run_eql rfl rfl rfl) ?_)
      refine wlm 3 4 rfl rfl rfl rfl rfl rfl rfl ?_
      refine wl_split (t := 55) rfl (fun hg55 => ?_) (fun hg55 => ?_)
      ·replace hg55 := of_decide_eq_true hg55
       refine wl_opG (k := 4) (k' := 5) rfl rfl ⟨_, _, _, rfl, rfl, rfl, rfl⟩ rfl (wo_run rfl rfl (run_move rfl rfl) ?_)
       refine wl_opG (k := 5) (k' := 6) rfl rfl ⟨_, _, _, rfl, rfl, rfl, rfl⟩ rfl (wo_run rfl rfl (run_eql rfl rfl rfl) ?_)
       refine wlo 6 7 rfl rfl rfl (wo_run rfl rfl (run_pickT rfl rfl rfl) ?_)
       refine wla 7 8 rfl rfl rfl rfl rfl rfl rfl ?_
       refine wl_end rfl ?_
       refine nm_sub [(4, _)] ⟨rfl, trivial⟩ ?_
       refine nm_thn ?_
       refine ws_ret hC [_] rfl rfl ⟨rfl, trivial⟩ ?_
       refine ⟨_, rfl, _, (((hle1.trans hle3).trans hle4).trans hle5).trans hle6, (S12.pick [] [] (by decide) trivial), ?_⟩
       show Value.bool _ = _
       refine congrArg Value.bool ?_
       first | rfl | (rw [decide_eq_true_iff]; omega) | (simp_all; done)
      ·replace hg55 := of_decide_eq_false hg55
       exfalso; omega
     ·replace hb51 := of_decide_eq_false hb51
      obtain ⟨hQF, hQK⟩ := quE_inv (show quE q = 0 by omega)
      obtain ⟨hmo, hpl⟩ := errO_ok (show errO d = 0 by omega)
      obtain ⟨hn, hab, hlo0, hlo1⟩ := mayO hmo
      refine ws_skip rfl ?_
      refine nm_sub [(1, _), (2, _), (7, _), (8, _)] ⟨rfl, rfl, rfl, rfl, trivial⟩ ?_
      refine nm_thn ?_
      refine ws_seqN ColourCounts_n44 ColourCounts_n45 rfl rfl rfl ?_
      refine ws_region rfl ?_
      refine wlm 0 1 rfl rfl rfl rfl rfl rfl rfl ?_
      refine wlo 1 2 rfl rfl rfl (wo_run rfl rfl (run_eql rfl rfl rfl) ?_)
      refine wlm 2 3 rfl rfl rfl rfl rfl rfl rfl ?_
      refine wl_split (t := 61) rfl (fun hg61 => ?_) (fun hg61 => ?_)
      ·replace hg61 := of_decide_eq_true hg61
       refine wl_opG (k := 3) (k' := 4) rfl rfl ⟨_, _, _, rfl, rfl, rfl, rfl⟩ rfl (wo_run rfl rfl (run_move rfl rfl) ?_)
       refine wl_opG (k := 4) (k' := 5) rfl rfl ⟨_, _, _, rfl, rfl, rfl, rfl⟩ rfl (wo_run rfl rfl (run_loadN (us := [_, _]) rfl rfl Try.underlying24 rfl sz24 (S12.boxcs (i := 1) rfl ⟨rfl, rfl, trivial⟩)) ?_)
       refine wl_opG (k := 5) (k' := 6) rfl rfl ⟨_, _, _, rfl, rfl, rfl, rfl⟩ rfl (wo_run rfl rfl (run_move rfl rfl) ?_)
       refine wl_opG (k := 6) (k' := 7) rfl rfl ⟨_, _, _, rfl, rfl, rfl, rfl⟩ rfl (wo_ct rfl rfl rfl rfl rfl rfl rfl cf26 S12 (CountOf_t d q (hdcrs.mono (Hp.le_un _ _)) (hq.mono (Hp.le_un _ _)) (hdq.mono (Hp.le_un _ _)) hQF (by omega) hab ⟨hlo0, by omega⟩ S12.lend) ?_)
       intro vw13 w13 M10 hle10 S16 hRw13; clear S12
       replace hdcrs := hdcrs.mono hle10
       replace hq := hq.mono hle10
       replace hdq := hdq.mono hle10
       replace hc2 := hc2.mono hle10
       replace hr3 := hr3.mono hle10
       replace hr4 := hr4.mono hle10
       obtain rfl := hRw13
       refine wl_opG (k := 7) (k' := 8) rfl rfl ⟨_, _, _, rfl, rfl, rfl, rfl⟩ rfl (wo_run rfl rfl (run_eql rfl rfl rfl) ?_)
       refine wlo 8 9 rfl rfl rfl (wo_run rfl rfl (run_pickT rfl rfl rfl) ?_)
       refine wla 9 10 rfl rfl rfl rfl rfl rfl rfl ?_
       refine wl_end rfl ?_
       refine nm_sub [(4, _)] ⟨rfl, trivial⟩ ?_
       refine nm_thn ?_
       refine ws_ret hC [_] rfl rfl ⟨rfl, trivial⟩ ?_
       refine ⟨_, rfl, _, ((((hle1.trans hle3).trans hle4).trans hle5).trans hle6).trans hle10, (S16.pick [] [] (by decide) trivial), ?_⟩
       show Value.bool _ = _
       refine congrArg Value.bool ?_
       first | rfl | (rw [decide_eq_true_iff]; omega) | (simp_all; done)
      ·replace hg61 := of_decide_eq_false hg61
       exfalso; omega
   ·replace hb34 := of_decide_eq_false hb34
    refine ws_skip rfl ?_
    refine nm_sub [(1, _), (2, _), (7, _), (8, _), (9, _)] ⟨rfl, rfl, rfl, rfl, rfl, trivial⟩ ?_
    refine nm_thn ?_
    refine ws_seqN ColourCounts_n30 ColourCounts_n31 rfl rfl rfl ?_
    refine ws_seqN ColourCounts_n32 ColourCounts_n33 rfl rfl rfl ?_
    refine ws_region rfl ?_
    refine wlm 0 1 rfl rfl rfl rfl rfl rfl rfl ?_
    refine wlo 1 2 rfl rfl rfl (wo_run rfl rfl (run_eql rfl rfl rfl) ?_)
    refine wlm 2 3 rfl rfl rfl rfl rfl rfl rfl ?_
    refine wl_split (t := 39) rfl (fun hg39 => ?_) (fun hg39 => ?_)
    ·replace hg39 := of_decide_eq_true hg39
     refine wl_opG (k := 3) (k' := 4) rfl rfl ⟨_, _, _, rfl, rfl, rfl, rfl⟩ rfl (wo_run rfl rfl (run_fieldAddr rfl rfl Try.underlying24 rfl (ce22) (nf22)) ?_)
     refine wl_opG (k := 4) (k' := 5) rfl rfl ⟨_, _, _, rfl, rfl, rfl, rfl⟩ rfl (wo_run rfl rfl (run_load1 rfl rfl Try.underlying22 rfl (S11.boxc (i := 1) rfl rfl)) ?_)
     refine wl_opG (k := 5) (k' := 6) rfl rfl ⟨_, _, _, rfl, rfl, rfl, rfl⟩ rfl (wo_run rfl rfl (run_len rfl rfl rfl rfl rfl rfl Try.underlying22) ?_)
     refine wl_opG (k := 6) (k' := 7) rfl rfl ⟨_, _, _, rfl, rfl, rfl, rfl⟩ rfl (wo_run rfl rfl (run_gtr rfl rfl rfl) ?_)
     refine wl_opG (k := 7) (k' := 8) rfl rfl ⟨_, _, _, rfl, rfl, rfl, rfl⟩ rfl (wo_run rfl rfl (run_move rfl rfl) ?_)
     refine wl_split (t := 44) rfl (fun hg44 => ?_) (fun hg44 => ?_)
     ·replace hg44 := of_decide_eq_true hg44
      refine wl_no (k := 8) (k' := 9) (d := 45) rfl rfl ⟨_, _, _, rfl, rfl, rfl, rfl⟩ rfl rfl ?_
      refine wl_no (k := 9) (k' := 10) (d := 46) rfl rfl ⟨_, _, _, rfl, rfl, rfl, rfl⟩ rfl rfl ?_
      refine wl_no (k := 10) (k' := 11) (d := 47) rfl rfl ⟨_, _, _, rfl, rfl, rfl, rfl⟩ rfl rfl ?_
      refine wl_opG (k := 11) (k' := 12) rfl rfl ⟨_, _, _, rfl, rfl, rfl, rfl⟩ rfl (wo_run rfl rfl (run_pickT rfl rfl rfl) ?_)
      refine wlo 12 13 rfl rfl rfl (wo_run rfl rfl (run_pickT rfl rfl rfl) ?_)
      refine wl_end rfl ?_
      refine nm_sub [(1, _), (2, _), (7, _), (8, _), (9, _), (49, _)] ⟨rfl, rfl, rfl, rfl, rfl, rfl, trivial⟩ ?_
      refine nm_thn ?_
      refine ws_condTN ColourCounts_n34 rfl rfl rfl ?_
      refine ws_region rfl ?_
      refine wla 0 1 rfl rfl rfl rfl rfl rfl rfl ?_
      refine wl_end rfl ?_
      refine nm_sub [(1, _), (2, _), (7, _), (8, _), (9, _)] ⟨rfl, rfl, rfl, rfl, rfl, trivial⟩ ?_
      refine nm_thn ?_
      refine ws_seqN ColourCounts_n36 ColourCounts_n37 rfl rfl rfl ?_
      refine ws_seqN ColourCounts_n38 ColourCounts_n39 rfl rfl rfl ?_
      refine ws_region rfl ?_
      refine wlm 0 1 rfl rfl rfl rfl rfl rfl rfl ?_
      refine wlo 1 2 rfl rfl rfl (wo_run rfl rfl (run_neq rfl rfl rfl) ?_)
      refine wl_end rfl ?_
      refine nm_sub [(1, _), (2, _), (7, _), (8, _), (9, _), (51, _)] ⟨rfl, rfl, rfl, rfl, rfl, rfl, trivial⟩ ?_
      refine nm_thn ?_
      refine ws_condN ColourCounts_n40 ColourCounts_n41 rfl rfl rfl rfl (fun hb51 => ?_) (fun hb51 => ?_)
      ·replace hb51 := of_decide_eq_true hb51
       refine ws_seqN ColourCounts_n42 ColourCounts_n43 rfl rfl rfl ?_
       refine ws_region rfl ?_
       refine wlm 0 1 rfl rfl rfl rfl rfl rfl rfl ?_
       refine wlm 1 2 rfl rfl rfl rfl rfl rfl rfl ?_
       refine wlo 2 3 rfl rfl rfl (wo_run rfl rfl (run_eql rfl rfl rfl) ?_)
       refine wlm 3 4 rfl rfl rfl rfl rfl rfl rfl ?_
       refine wl_split (t := 55) rfl (fun hg55 => ?_) (fun hg55 => ?_)
       ·replace hg55 := of_decide_eq_true hg55
        refine wl_opG (k := 4) (k' := 5) rfl rfl ⟨_, _, _, rfl, rfl, rfl, rfl⟩ rfl (wo_run rfl rfl (run_move rfl rfl) ?_)
        refine wl_opG (k := 5) (k' := 6) rfl rfl ⟨_, _, _, rfl, rfl, rfl, rfl⟩ rfl (wo_run rfl rfl (run_eql rfl rfl rfl) ?_)
        refine wlo 6 7 rfl rfl rfl (wo_run rfl rfl (run_pickT rfl rfl rfl) ?_)
        refine wla 7 8 rfl rfl rfl rfl rfl rfl rfl ?_
        refine wl_end rfl ?_
        refine nm_sub [(4, _)] ⟨rfl, trivial⟩ ?_
        refine nm_thn ?_
        refine ws_ret hC [_] rfl rfl ⟨rfl, trivial⟩ ?_
        refine ⟨_, rfl, _, ((hle1.trans hle3).trans hle4).trans hle5, (S11.pick [] [] (by decide) trivial), ?_⟩
        show Value.bool _ = _
        refine congrArg Value.bool ?_
        first | rfl | (rw [decide_eq_true_iff]; omega) | (simp_all; done)
       ·replace hg55 := of_decide_eq_false hg55
        exfalso; omega
      ·replace hb51 := of_decide_eq_false hb51
       obtain ⟨hQF, hQK⟩ := quE_inv (show quE q = 0 by omega)
       obtain ⟨hmo, hpl⟩ := errO_ok (show errO d = 0 by omega)
       obtain ⟨hn, hab, hlo0, hlo1⟩ := mayO hmo
       refine ws_skip rfl ?_
       refine nm_sub [(1, _), (2, _), (7, _), (8, _)] ⟨rfl, rfl, rfl, rfl, trivial⟩ ?_
       refine nm_thn ?_
       refine ws_seqN ColourCounts_n44 ColourCounts_n45 rfl rfl rfl ?_
       refine ws_region rfl ?_
       refine wlm 0 1 rfl rfl rfl rfl rfl rfl rfl ?_
       refine wlo 1 2 rfl rfl rfl (wo_run rfl rfl (run_eql rfl rfl rfl) ?_)
       refine wlm 2 3 rfl rfl rfl rfl rfl rfl rfl ?_
       refine wl_split (t := 61) rfl (fun hg61 => ?_) (fun hg61 => ?_)
       ·replace hg61 := of_decide_eq_true hg61
        refine wl_opG (k := 3) (k' := 4) rfl rfl ⟨_, _, _, rfl, rfl, rfl, rfl⟩ rfl (wo_run rfl rfl (run_move rfl rfl) ?_)
        refine wl_opG (k := 4) (k' := 5) rfl rfl ⟨_, _, _, rfl, rfl, rfl, rfl⟩ rfl (wo_run rfl rfl (run_loadN (us := [_, _]) rfl rfl Try.underlying24 rfl sz24 (S11.boxcs (i := 1) rfl ⟨rfl, rfl, trivial⟩)) ?_)
        refine wl_opG (k := 5) (k' := 6) rfl rfl ⟨_, _, _, rfl, rfl, rfl, rfl⟩ rfl (wo_run rfl rfl (run_move rfl rfl) ?_)
        refine wl_opG (k := 6) (k' := 7) rfl rfl ⟨_, _, _, rfl, rfl, rfl, rfl⟩ rfl (wo_ct rfl rfl rfl rfl rfl rfl rfl cf26 S11 (CountOf_t d q (hdcrs.mono (Hp.le_un _ _)) (hq.mono (Hp.le_un _ _)) (hdq.mono (Hp.le_un _ _)) hQF (by omega) hab ⟨hlo0, by omega⟩ S11.lend) ?_)
        intro vw14 w14 M11 hle11 S17 hRw14; clear S11
        replace hdcrs := hdcrs.mono hle11
        replace hq := hq.mono hle11
        replace hdq := hdq.mono hle11
        replace hc2 := hc2.mono hle11
        replace hr3 := hr3.mono hle11
        replace hr4 := hr4.mono hle11
        obtain rfl := hRw14
        refine wl_opG (k := 7) (k' := 8) rfl rfl ⟨_, _, _, rfl, rfl, rfl, rfl⟩ rfl (wo_run rfl rfl (run_eql rfl rfl rfl) ?_)
        refine wlo 8 9 rfl rfl rfl (wo_run rfl rfl (run_pickT rfl rfl rfl) ?_)
        refine wla 9 10 rfl rfl rfl rfl rfl rfl rfl ?_
        refine wl_end rfl ?_
        refine nm_sub [(4, _)] ⟨rfl, trivial⟩ ?_
        refine nm_thn ?_
        refine ws_ret hC [_] rfl rfl ⟨rfl, trivial⟩ ?_
        refine ⟨_, rfl, _, (((hle1.trans hle3).trans hle4).trans hle5).trans hle11, (S17.pick [] [] (by decide) trivial), ?_⟩
        show Value.bool _ = _
        refine congrArg Value.bool ?_
        first | rfl | (rw [decide_eq_true_iff]; omega) | (simp_all; done)
       ·replace hg61 := of_decide_eq_false hg61
        exfalso; omega
     ·replace hg44 := of_decide_eq_false hg44
      refine wl_opG (k := 8) (k' := 9) rfl rfl ⟨_, _, _, rfl, rfl, rfl, rfl⟩ rfl (wo_run rfl rfl (run_fieldAddr rfl rfl Try.underlying24 rfl (ce3) (nf3)) ?_)
      refine wl_opG (k := 9) (k' := 10) rfl rfl ⟨_, _, _, rfl, rfl, rfl, rfl⟩ rfl (wo_run rfl rfl (run_load1 rfl rfl Try.underlying3 rfl (S11.boxc (i := 1) rfl rfl)) ?_)
      refine wl_opG (k := 10) (k' := 11) rfl rfl ⟨_, _, _, rfl, rfl, rfl, rfl⟩ rfl (wo_run rfl rfl (run_gtr rfl rfl rfl) ?_)
      refine wl_opG (k := 11) (k' := 12) rfl rfl ⟨_, _, _, rfl, rfl, rfl, rfl⟩ rfl (wo_run rfl rfl (run_pickF rfl rfl rfl) ?_)
      refine wlo 12 13 rfl rfl rfl (wo_run rfl rfl (run_pickT rfl rfl rfl) ?_)
      refine wl_end rfl ?_
      refine nm_sub [(1, _), (2, _), (7, _), (8, _), (9, _), (49, _)] ⟨rfl, rfl, rfl, rfl, rfl, rfl, trivial⟩ ?_
      refine nm_thn ?_
      refine ws_condN ColourCounts_n34 ColourCounts_n35 rfl rfl rfl rfl (fun hb49 => ?_) (fun hb49 => ?_)
      ·replace hb49 := of_decide_eq_true hb49
       refine ws_region rfl ?_
       refine wla 0 1 rfl rfl rfl rfl rfl rfl rfl ?_
       refine wl_end rfl ?_
       refine nm_sub [(1, _), (2, _), (7, _), (8, _), (9, _)] ⟨rfl, rfl, rfl, rfl, rfl, trivial⟩ ?_
       refine nm_thn ?_
       refine ws_seqN ColourCounts_n36 ColourCounts_n37 rfl rfl rfl ?_
       refine ws_seqN ColourCounts_n38 ColourCounts_n39 rfl rfl rfl ?_
       refine ws_region rfl ?_
       refine wlm 0 1 rfl rfl rfl rfl rfl rfl rfl ?_
       refine wlo 1 2 rfl rfl rfl (wo_run rfl rfl (run_neq rfl rfl rfl) ?_)
       refine wl_end rfl ?_
       refine nm_sub [(1, _), (2, _), (7, _), (8, _), (9, _), (51, _)] ⟨rfl, rfl, rfl, rfl, rfl, rfl, trivial⟩ ?_
       refine nm_thn ?_
       refine ws_condN ColourCounts_n40 ColourCounts_n41 rfl rfl rfl rfl (fun hb51 => ?_) (fun hb51 => ?_)
       ·replace hb51 := of_decide_eq_true hb51
        refine ws_seqN ColourCounts_n42 ColourCounts_n43 rfl rfl rfl ?_
        refine ws_region rfl ?_
        refine wlm 0 1 rfl rfl rfl rfl rfl rfl rfl ?_
        refine wlm 1 2 rfl rfl rfl rfl rfl rfl rfl ?_
        refine wlo 2 3 rfl rfl rfl (wo_run rfl rfl (run_eql rfl rfl rfl) ?_)
        refine wlm 3 4 rfl rfl rfl rfl rfl rfl rfl ?_
        refine wl_split (t := 55) rfl (fun hg55 => ?_) (fun hg55 => ?_)
        ·replace hg55 := of_decide_eq_true hg55
         refine wl_opG (k := 4) (k' := 5) rfl rfl ⟨_, _, _, rfl, rfl, rfl, rfl⟩ rfl (wo_run rfl rfl (run_move rfl rfl) ?_)
         refine wl_opG (k := 5) (k' := 6) rfl rfl ⟨_, _, _, rfl, rfl, rfl, rfl⟩ rfl (wo_run rfl rfl (run_eql rfl rfl rfl) ?_)
         refine wlo 6 7 rfl rfl rfl (wo_run rfl rfl (run_pickT rfl rfl rfl) ?_)
         refine wla 7 8 rfl rfl rfl rfl rfl rfl rfl ?_
         refine wl_end rfl ?_
         refine nm_sub [(4, _)] ⟨rfl, trivial⟩ ?_
         refine nm_thn ?_
         refine ws_ret hC [_] rfl rfl ⟨rfl, trivial⟩ ?_
         refine ⟨_, rfl, _, ((hle1.trans hle3).trans hle4).trans hle5, (S11.pick [] [] (by decide) trivial), ?_⟩
         show Value.bool _ = _
         refine congrArg Value.bool ?_
         first | rfl | (rw [decide_eq_true_iff]; omega) | (simp_all; done)
        ·replace hg55 := of_decide_eq_false hg55
         exfalso; omega
       ·replace hb51 := of_decide_eq_false hb51
        obtain ⟨hQF, hQK⟩ := quE_inv (show quE q = 0 by omega)
        obtain ⟨hmo, hpl⟩ := errO_ok (show errO d = 0 by omega)
        obtain ⟨hn, hab, hlo0, hlo1⟩ := mayO hmo
        refine ws_skip rfl ?_
        refine nm_sub [(1, _), (2, _), (7, _), (8, _)] ⟨rfl, rfl, rfl, rfl, trivial⟩ ?_
        refine nm_thn ?_
        refine ws_seqN ColourCounts_n44 ColourCounts_n45 rfl rfl rfl ?_
        refine ws_region rfl ?_
        refine wlm 0 1 rfl rfl rfl rfl rfl rfl rfl ?_
        refine wlo 1 2 rfl rfl rfl (wo_run rfl rfl (run_eql rfl rfl rfl) ?_)
        refine wlm 2 3 rfl rfl rfl rfl rfl rfl rfl ?_
        refine wl_split (t := 61) rfl (fun hg61 => ?_) (fun hg61 => ?_)
        ·replace hg61 := of_decide_eq_true hg61
         refine wl_opG (k := 3) (k' := 4) rfl rfl ⟨_, _, _, rfl, rfl, rfl, rfl⟩ rfl (wo_run rfl rfl (run_move rfl rfl) ?_)
         refine wl_opG (k := 4) (k' := 5) rfl rfl ⟨_, _, _, rfl, rfl, rfl, rfl⟩ rfl (wo_run rfl rfl (run_loadN (us := [_, _]) rfl rfl Try.underlying24 rfl sz24 (S11.boxcs (i := 1) rfl ⟨rfl, rfl, trivial⟩)) ?_)
         refine wl_opG (k := 5) (k' := 6) rfl rfl ⟨_, _, _, rfl, rfl, rfl, rfl⟩ rfl (wo_run rfl rfl (run_move rfl rfl) ?_)
         refine wl_opG (k := 6) (k' := 7) rfl rfl ⟨_, _, _, rfl, rfl, rfl, rfl⟩ rfl (wo_ct rfl rfl rfl rfl rfl rfl rfl cf26 S11 (CountOf_t d q (hdcrs.mono (Hp.le_un _ _)) (hq.mono (Hp.le_un _ _)) (hdq.mono (Hp.le_un _ _)) hQF (by omega) hab ⟨hlo0, by omega⟩ S11.lend) ?_)
         intro vw15 w15 M12 hle12 S18 hRw15; clear S11
         replace hdcrs := hdcrs.mono hle12
         replace hq := hq.mono hle12
         replace hdq := hdq.mono hle12
         replace hc2 := hc2.mono hle12
         replace hr3 := hr3.mono hle12
         replace hr4 := hr4.mono hle12
         obtain rfl := hRw15
         refine wl_opG (k := 7) (k' := 8) rfl rfl ⟨_, _, _, rfl, rfl, rfl, rfl⟩ rfl (wo_run rfl rfl (run_eql rfl rfl rfl) ?_)
         refine wlo 8 9 rfl rfl rfl (wo_run rfl rfl (run_pickT rfl rfl rfl) ?_)
         refine wla 9 10 rfl rfl rfl rfl rfl rfl rfl ?_
         refine wl_end rfl ?_
         refine nm_sub [(4, _)] ⟨rfl, trivial⟩ ?_
         refine nm_thn ?_
         refine ws_ret hC [_] rfl rfl ⟨rfl, trivial⟩ ?_
         refine ⟨_, rfl, _, (((hle1.trans hle3).trans hle4).trans hle5).trans hle12, (S18.pick [] [] (by decide) trivial), ?_⟩
         show Value.bool _ = _
         refine congrArg Value.bool ?_
         first | rfl | (rw [decide_eq_true_iff]; omega) | (simp_all; done)
        ·replace hg61 := of_decide_eq_false hg61
         exfalso; omega
      ·replace hb49 := of_decide_eq_false hb49
       refine ws_skip rfl ?_
       refine nm_sub [(1, _), (2, _), (7, _), (8, _), (9, _)] ⟨rfl, rfl, rfl, rfl, rfl, trivial⟩ ?_
       refine nm_thn ?_
       refine ws_seqN ColourCounts_n36 ColourCounts_n37 rfl rfl rfl ?_
       refine ws_seqN ColourCounts_n38 ColourCounts_n39 rfl rfl rfl ?_
       refine ws_region rfl ?_
       refine wlm 0 1 rfl rfl rfl rfl rfl rfl rfl ?_
       refine wlo 1 2 rfl rfl rfl (wo_run rfl rfl (run_neq rfl rfl rfl) ?_)
       refine wl_end rfl ?_
       refine nm_sub [(1, _), (2, _), (7, _), (8, _), (9, _), (51, _)] ⟨rfl, rfl, rfl, rfl, rfl, rfl, trivial⟩ ?_
       refine nm_thn ?_
       refine ws_condN ColourCounts_n40 ColourCounts_n41 rfl rfl rfl rfl (fun hb51 => ?_) (fun hb51 => ?_)
       ·replace hb51 := of_decide_eq_true hb51
        refine ws_seqN ColourCounts_n42 ColourCounts_n43 rfl rfl rfl ?_
        refine ws_region rfl ?_
        refine wlm 0 1 rfl rfl rfl rfl rfl rfl rfl ?_
        refine wlm 1 2 rfl rfl rfl rfl rfl rfl rfl ?_
        refine wlo 2 3 rfl rfl rfl (wo_run rfl rfl (run_eql rfl rfl rfl) ?_)
        refine wlm 3 4 rfl rfl rfl rfl rfl rfl rfl ?_
        refine wl_split (t := 55) rfl (fun hg55 => ?_) (fun hg55 => ?_)
        ·replace hg55 := of_decide_eq_true hg55
         refine wl_opG (k := 4) (k' := 5) rfl rfl ⟨_, _, _, rfl, rfl, rfl, rfl⟩ rfl (wo_run rfl rfl (run_move rfl rfl) ?_)
         refine wl_opG (k := 5) (k' := 6) rfl rfl ⟨_, _, _, rfl, rfl, rfl, rfl⟩ rfl (wo_run rfl rfl (run_eql rfl rfl rfl) ?_)
         refine wlo 6 7 rfl rfl rfl (wo_run rfl rfl (run_pickT rfl rfl rfl) ?_)
         refine wla 7 8 rfl rfl rfl rfl rfl rfl rfl ?_
         refine wl_end rfl ?_
         refine nm_sub [(4, _)] ⟨rfl, trivial⟩ ?_
         refine nm_thn ?_
         refine ws_ret hC [_] rfl rfl ⟨rfl, trivial⟩ ?_
         refine ⟨_, rfl, _, ((hle1.trans hle3).trans hle4).trans hle5, (S11.pick [] [] (by decide) trivial), ?_⟩
         show Value.bool _ = _
         refine congrArg Value.bool ?_
         first | rfl | (rw [decide_eq_true_iff]; omega) | (simp_all; done)
        ·replace hg55 := of_decide_eq_false hg55
         exfalso; omega
       ·replace hb51 := of_decide_eq_false hb51
        obtain ⟨hQF, hQK⟩ := quE_inv (show quE q = 0 by omega)
        obtain ⟨hmo, hpl⟩ := errO_ok (show errO d = 0 by omega)
        obtain ⟨hn, hab, hlo0, hlo1⟩ := mayO hmo
        refine ws_skip rfl ?_
        refine nm_sub [(1, _), (2, _), (7, _), (8, _)] ⟨rfl, rfl, rfl, rfl, trivial⟩ ?_
        refine nm_thn ?_
        refine ws_seqN ColourCounts_n44 ColourCounts_n45 rfl rfl rfl ?_
        refine ws_region rfl ?_
        refine wlm 0 1 rfl rfl rfl rfl rfl rfl rfl ?_
        refine wlo 1 2 rfl rfl rfl (wo_run rfl rfl (run_eql rfl rfl rfl) ?_)
        refine wlm 2 3 rfl rfl rfl rfl rfl rfl rfl ?_
        refine wl_split (t := 61) rfl (fun hg61 => ?_) (fun hg61 => ?_)
        ·replace hg61 := of_decide_eq_true hg61
         refine wl_opG (k := 3) (k' := 4) rfl rfl ⟨_, _, _, rfl, rfl, rfl, rfl⟩ rfl (wo_run rfl rfl (run_move rfl rfl) ?_)
         refine wl_opG (k := 4) (k' := 5) rfl rfl ⟨_, _, _, rfl, rfl, rfl, rfl⟩ rfl (wo_run rfl rfl (run_loadN (us := [_, _]) rfl rfl Try.underlying24 rfl sz24 (S11.boxcs (i := 1) rfl ⟨rfl, rfl, trivial⟩)) ?_)
         refine wl_opG (k := 5) (k' := 6) rfl rfl ⟨_, _, _, rfl, rfl, rfl, rfl⟩ rfl (wo_run rfl rfl (run_move rfl rfl) ?_)
         refine wl_opG (k := 6) (k' := 7) rfl rfl ⟨_, _, _, rfl, rfl, rfl, rfl⟩ rfl (wo_ct rfl rfl rfl rfl rfl rfl rfl cf26 S11 (CountOf_t d q (hdcrs.mono (Hp.le_un _ _)) (hq.mono (Hp.le_un _ _)) (hdq.mono (Hp.le_un _ _)) hQF (by omega) hab ⟨hlo0, by omega⟩ S11.lend) ?_)
         intro vw16 w16 M13 hle13 S19 hRw16; clear S11
         replace hdcrs := hdcrs.mono hle13
         replace hq := hq.mono hle13
         replace hdq := hdq.mono hle13
         replace hc2 := hc2.mono hle13
         replace hr3 := hr3.mono hle13
         replace hr4 := hr4.mono hle13
         obtain rfl := hRw16
         refine wl_opG (k := 7) (k' := 8) rfl rfl ⟨_, _, _, rfl, rfl, rfl, rfl⟩ rfl (wo_run rfl rfl (run_eql rfl rfl rfl) ?_)
         refine wlo 8 9 rfl rfl rfl (wo_run rfl rfl (run_pickT rfl rfl rfl) ?_)
         refine wla 9 10 rfl rfl rfl rfl rfl rfl rfl ?_
         refine wl_end rfl ?_
         refine nm_sub [(4, _)] ⟨rfl, trivial⟩ ?_
         refine nm_thn ?_
         refine ws_ret hC [_] rfl rfl ⟨rfl, trivial⟩ ?_
         refine ⟨_, rfl, _, (((hle1.trans hle3).trans hle4).trans hle5).trans hle13, (S19.pick [] [] (by decide) trivial), ?_⟩
         show Value.bool _ = _
         refine congrArg Value.bool ?_
         first | rfl | (rw [decide_eq_true_iff]; omega) | (simp_all; done)
        ·replace hg61 := of_decide_eq_false hg61
         exfalso; omega
    ·replace hg39 := of_decide_eq_false hg39
     refine wl_no (k := 3) (k' := 4) (d := 40) rfl rfl ⟨_, _, _, rfl, rfl, rfl, rfl⟩ rfl rfl ?_
     refine wl_no (k := 4) (k' := 5) (d := 41) rfl rfl ⟨_, _, _, rfl, rfl, rfl, rfl⟩ rfl rfl ?_
     refine wl_no (k := 5) (k' := 6) (d := 42) rfl rfl ⟨_, _, _, rfl, rfl, rfl, rfl⟩ rfl rfl ?_
     refine wl_no (k := 6) (k' := 7) (d := 43) rfl rfl ⟨_, _, _, rfl, rfl, rfl, rfl⟩ rfl rfl ?_
     refine wl_no (k := 7) (k' := 8) (d := 44) rfl rfl ⟨_, _, _, rfl, rfl, rfl, rfl⟩ rfl rfl ?_
     refine wl_no (k := 8) (k' := 9) (d := 45) rfl rfl ⟨_, _, _, rfl, rfl, rfl, rfl⟩ rfl rfl ?_
     refine wl_no (k := 9) (k' := 10) (d := 46) rfl rfl ⟨_, _, _, rfl, rfl, rfl, rfl⟩ rfl rfl ?_
     refine wl_no (k := 10) (k' := 11) (d := 47) rfl rfl ⟨_, _, _, rfl, rfl, rfl, rfl⟩ rfl rfl ?_
     refine wl_no (k := 11) (k' := 12) (d := 48) rfl rfl ⟨_, _, _, rfl, rfl, rfl, rfl⟩ rfl rfl ?_
     refine wlo 12 13 rfl rfl rfl (wo_run rfl rfl (run_pickF rfl rfl rfl) ?_)
     refine wl_end rfl ?_
     refine nm_sub [(1, _), (2, _), (7, _), (8, _), (9, _), (49, _)] ⟨rfl, rfl, rfl, rfl, rfl, rfl, trivial⟩ ?_
     refine nm_thn ?_
     refine ws_condFN ColourCounts_n35 rfl rfl rfl ?_
     refine ws_skip rfl ?_
     refine nm_sub [(1, _), (2, _), (7, _), (8, _), (9, _)] ⟨rfl, rfl, rfl, rfl, rfl, trivial⟩ ?_
     refine nm_thn ?_
     refine ws_seqN ColourCounts_n36 ColourCounts_n37 rfl rfl rfl ?_
     refine ws_seqN ColourCounts_n38 ColourCounts_n39 rfl rfl rfl ?_
     refine ws_region rfl ?_
     refine wlm 0 1 rfl rfl rfl rfl rfl rfl rfl ?_
     refine wlo 1 2 rfl rfl rfl (wo_run rfl rfl (run_neq rfl rfl rfl) ?_)
     refine wl_end rfl ?_
     refine nm_sub [(1, _), (2, _), (7, _), (8, _), (9, _), (51, _)] ⟨rfl, rfl, rfl, rfl, rfl, rfl, trivial⟩ ?_
     refine nm_thn ?_
     refine ws_condN ColourCounts_n40 ColourCounts_n41 rfl rfl rfl rfl (fun hb51 => ?_) (fun hb51 => ?_)
     ·replace hb51 := of_decide_eq_true hb51
      refine ws_seqN ColourCounts_n42 ColourCounts_n43 rfl rfl rfl ?_
      refine ws_region rfl ?_
      refine wlm 0 1 rfl rfl rfl rfl rfl rfl rfl ?_
      refine wlm 1 2 rfl rfl rfl rfl rfl rfl rfl ?_
      refine wlo 2 3 rfl rfl rfl (wo_run rfl rfl (run_eql rfl rfl rfl) ?_)
      refine wlm 3 4 rfl rfl rfl rfl rfl rfl rfl ?_
      refine wl_split (t := 55) rfl (fun hg55 => ?_) (fun hg55 => ?_)
      ·replace hg55 := of_decide_eq_true hg55
       refine wl_opG (k := 4) (k' := 5) rfl rfl ⟨_, _, _, rfl, rfl, rfl, rfl⟩ rfl (wo_run rfl rfl (run_move rfl rfl) ?_)
       refine wl_opG (k := 5) (k' := 6) rfl rfl ⟨_, _, _, rfl, rfl, rfl, rfl⟩ rfl (wo_run rfl rfl (run_eql rfl rfl rfl) ?_)
       refine wlo 6 7 rfl rfl rfl (wo_run rfl rfl (run_pickT rfl rfl rfl) ?_)
       refine wla 7 8 rfl rfl rfl rfl rfl rfl rfl ?_
       refine wl_end rfl ?_
       refine nm_sub [(4, _)] ⟨rfl, trivial⟩ ?_
       refine nm_thn ?_
       refine ws_ret hC [_] rfl rfl ⟨rfl, trivial⟩ ?_
       refine ⟨_, rfl, _, ((hle1.trans hle3).trans hle4).trans hle5, (S11.pick [] [] (by decide) trivial), ?_⟩
       show Value.bool _ = _
       refine congrArg Value.bool ?_
       first | rfl | (rw [decide_eq_true_iff]; omega) | (simp_all; done)
      ·replace hg55 := of_decide_eq_false hg55
       exfalso; omega
     ·replace hb51 := of_decide_eq_false hb51
      obtain ⟨hQF, hQK⟩ := quE_inv (show quE q = 0 by omega)
      obtain ⟨hmo, hpl⟩ := errO_ok (show errO d = 0 by omega)
      obtain ⟨hn, hab, hlo0, hlo1⟩ := mayO hmo
      refine ws_skip rfl ?_
      refine nm_sub [(1, _), (2, _), (7, _), (8, _)] ⟨rfl, rfl, rfl, rfl, trivial⟩ ?_
      refine nm_thn ?_
      refine ws_seqN ColourCounts_n44 ColourCounts_n45 rfl rfl rfl ?_
      refine ws_region rfl ?_
      refine wlm 0 1 rfl rfl rfl rfl rfl rfl rfl ?_
      refine wlo 1 2 rfl rfl rfl (wo_run rfl rfl (run_eql rfl rfl rfl) ?_)
      refine wlm 2 3 rfl rfl rfl rfl rfl rfl rfl ?_
      refine wl_split (t := 61) rfl (fun hg61 => ?_) (fun hg61 => ?_)
      ·replace hg61 := of_decide_eq_true hg61
       refine wl_opG (k := 3) (k' := 4) rfl rfl ⟨_, _, _, rfl, rfl, rfl, rfl⟩ rfl (wo_run rfl rfl (run_move rfl rfl) ?_)
       refine wl_opG (k := 4) (k' := 5) rfl rfl ⟨_, _, _, rfl, rfl, rfl, rfl⟩ rfl (wo_run rfl rfl (run_loadN (us := [_, _]) rfl rfl Try.underlying24 rfl sz24 (S11.boxcs (i := 1) rfl ⟨rfl, rfl, trivial⟩)) ?_)
       refine wl_opG (k := 5) (k' := 6) rfl rfl ⟨_, _, _, rfl, rfl, rfl, rfl⟩ rfl (wo_run rfl rfl (run_move rfl rfl) ?_)
       refine wl_opG (k := 6) (k' := 7) rfl rfl ⟨_, _, _, rfl, rfl, rfl, rfl⟩ rfl (wo_ct rfl rfl rfl rfl rfl rfl rfl cf26 S11 (CountOf_t d q (hdcrs.mono (Hp.le_un _ _)) (hq.mono (Hp.le_un _ _)) (hdq.mono (Hp.le_un _ _)) hQF (by omega) hab ⟨hlo0, by omega⟩ S11.lend) ?_)
       intro vw17 w17 M14 hle14 S20 hRw17; clear S11
       replace hdcrs := hdcrs.mono hle14
       replace hq := hq.mono hle14
       replace hdq := hdq.mono hle14
       replace hc2 := hc2.mono hle14
       replace hr3 := hr3.mono hle14
       replace hr4 := hr4.mono hle14
       obtain rfl := hRw17
       refine wl_opG (k := 7) (k' := 8) rfl rfl ⟨_, _, _, rfl, rfl, rfl, rfl⟩ rfl (wo_run rfl rfl (run_eql rfl rfl rfl) ?_)
       refine wlo 8 9 rfl rfl rfl (wo_run rfl rfl (run_pickT rfl rfl rfl) ?_)
       refine wla 9 10 rfl rfl rfl rfl rfl rfl rfl ?_
       refine wl_end rfl ?_
       refine nm_sub [(4, _)] ⟨rfl, trivial⟩ ?_
       refine nm_thn ?_
       refine ws_ret hC [_] rfl rfl ⟨rfl, trivial⟩ ?_
       refine ⟨_, rfl, _, (((hle1.trans hle3).trans hle4).trans hle5).trans hle14, (S20.pick [] [] (by decide) trivial), ?_⟩
       show Value.bool _ = _
       refine congrArg Value.bool ?_
       first | rfl | (rw [decide_eq_true_iff]; omega) | (simp_all; done)
      ·replace hg61 := of_decide_eq_false hg61
       exfalso; omega
end Go.Proofs.Ytefkjfcncpmneaa
namespace Go.Proofs.Ytefkjfcncpmneaa
open Go.ChangeShapes Go.WideShapes Go.ChangeAt Go.RowKit Go.Joins Go.Deep
theorem sized_in {H : Type} {P : Program} {ts : List TypeId} {ds : List (DataW H)} (h : (DataW.weightsEach P ts ds).all (· ≤ reachBytes) = true) {j i : Nat} {t e : TypeId} {f : Field} {fs : Array Field} {parts : List (DataW H)} {elems spare : List (DataW H)}
    (ht : ts[j]? = some t) (hd : ds[j]? = some (.agg parts)) (hu : P.underlying t = some (.struct fs)) (hf : fs.toList[i]? = some f) (hp : parts[i]? = some (.slice elems spare)) (he : P.underlying f.type = some (.slice e)) :
    (elems.length + spare.length) * P.bytesOf e ≤ reachBytes := by
  have m1 := DataW.weights_mem_each (P := P) (ts := fs.toList.map (·.type)) (j := i) (t := f.type) (by rw [List.getElem?_map, hf]; rfl) hp ((elems.length + spare.length) * P.bytesOf e) (by simp [DataW.weights, he])
  have m2 := DataW.weights_mem_each (P := P) ht hd ((elems.length + spare.length) * P.bytesOf e) (by simp only [DataW.weights, hu]; exact m1)
  simpa using List.all_eq_true.1 h _ m2
theorem len5 (l : List Cr) : (l.flatMap codCr.f).length = l.length * 5 := by
  induction l with
  | nil => rfl
  | cons x l ih => rw [List.flatMap_cons, List.length_append, ih, codCr.hf, List.length_cons]; show 5 + _ = _; omega
theorem take1 {l : List Value} {j : Nat} {u : Value} (h : (l.drop j).take 1 = [u]) : l[j]? = some u := by
  have := congrArg (fun z => z[0]?) h
  simpa [List.getElem?_take, List.getElem?_drop] using this
theorem pick {α : Type} [Inhabited α] {m : Nat} {Q : Nat → α → Prop} (h : ∀ i, i < m → ∃ x, Q i x) : ∃ F : Nat → α, ∀ i, i < m → Q i (F i) :=
  ⟨fun i => if hi : i < m then (h i hi).choose else default, fun i hi => by
    show Q i (if hi : i < m then (h i hi).choose else default)
    rw [dif_pos hi]; exact (h i hi).choose_spec⟩
section
variable {H : Type} {enc : TypeId × Value → H} {w : World}
theorem f_int {n j : Nat} {cs : List Value} {y : DataW H × List MemPlace} (h : DataW.trod enc Try.prog w 0 (fun _ => true) true n 3 ((cs.drop j).take (Try.prog.cellsOf 3)) = some y) : ∃ a, cs[j]? = some (.int .i64 a) := by
  obtain ⟨a, e, _⟩ := DataW.trod_int Try.underlying3 h
  rw [show Try.prog.cellsOf 3 = 1 by kernel_rfl] at e
  exact ⟨a, take1 e⟩
theorem f_bool {n j : Nat} {cs : List Value} {y : DataW H × List MemPlace} (h : DataW.trod enc Try.prog w 0 (fun _ => true) true n 4 ((cs.drop j).take (Try.prog.cellsOf 4)) = some y) : ∃ a, cs[j]? = some (.bool a) := by
  obtain ⟨a, e, _⟩ := DataW.trod_bool Try.underlying4 h
  rw [show Try.prog.cellsOf 4 = 1 by kernel_rfl] at e
  exact ⟨a, take1 e⟩
set_option maxRecDepth 100000 in
theorem open_cr {n : Nat} {cs : List Value} {x : DataW H × List MemPlace} (h : DataW.trod enc Try.prog w 0 (fun _ => true) true n 59 cs = some x) : ∃ c : Cr, ∀ j u, j < 5 → (crF c)[j]? = some u → cs[j]? = some u := by
  obtain ⟨xs, k, _, _, _, hl, hf⟩ := DataW.trod_struct Try.underlying59 h
  match xs, hl with
  | [y0, y1, y2, y3, y4], _ =>
    have g0 := hf 0 _ rfl
    have g1 := hf 1 _ rfl
    have g2 := hf 2 _ rfl
    have g3 := hf 3 _ rfl
    have g4 := hf 4 _ rfl
    obtain ⟨n0, e0⟩ := f_int (j := 0) (y := y0) g0
    obtain ⟨n1, e1⟩ := f_int (j := 1) (y := y1) g1
    obtain ⟨n2, e2⟩ := f_int (j := 2) (y := y2) g2
    obtain ⟨n3, e3⟩ := f_int (j := 3) (y := y3) g3
    obtain ⟨n4, e4⟩ := f_bool (j := 4) (y := y4) g4
    refine ⟨⟨n0, n1, n2, n3, n4⟩, fun j u hj hu => ?_⟩
    match j, hj with
    | 0, _ => simp [crF] at hu; subst hu; exact e0
    | 1, _ => simp [crF] at hu; subst hu; exact e1
    | 2, _ => simp [crF] at hu; subst hu; exact e2
    | 3, _ => simp [crF] at hu; subst hu; exact e3
    | 4, _ => simp [crF] at hu; subst hu; exact e4
set_option maxRecDepth 100000 in
theorem open_Dg {v : Value} {d : DataW H} {p : List MemPlace} {b0 : Nat} (hv : Value.okWide Try.prog w .any b0 24 v) (h : DataW.Trod enc Try.prog w 0 (fun _ => true) true 24 v d p) (hlt : ∀ x ∈ p, x.block < w.heap.size)
    {ts : List TypeId} {ds : List (DataW H)} (hsz : (DataW.weightsEach Try.prog ts ds).all (· ≤ reachBytes) = true) {j : Nat} (hj : ts[j]? = some 24) (hd : ds[j]? = some d) :
    ∃ g : Dg, IsDg w w.heap.size v g := by
  obtain ⟨v0, v1, y0, y1, n, rfl, rfl, rfl, t0, t1⟩ := open_agg2 Try.underlying24 (by kernel_rfl) (by kernel_rfl) hv h
  obtain ⟨l, e1, _, _⟩ := DataW.trod_int Try.underlying3 t1
  injection e1 with e1
  subst e1
  have hs := fun es sp (hp : y0.1 = .slice es sp) => sized_in hsz hj hd Try.underlying24 (i := 0) rfl (by rw [List.getElem?_cons_zero, hp]) Try.underlying22
  rcases open_slice Try.underlying22 t0 with ⟨hcs, hx⟩ | ⟨a, len, cap, m, k, D, Pl, hcs, hb, hl, hm, hmm, hx, hi⟩
  · injection hcs with hcs
    subst hcs
    exact ⟨⟨[], l⟩, none, 0, rfl, Nat.le_refl _, Rd.nil_⟩
  · injection hcs with hcs
    subst hcs
    have hk : Try.prog.cellsOf 59 = 5 := by kernel_rfl
    have hby : Try.prog.bytesOf 59 = 40 := by kernel_rfl
    have hs := hs _ _ (by rw [hx])
    rw [hby] at hs
    simp only [if_true] at hmm
    subst hmm
    simp only [List.length_map, List.length_range, reachBytes] at hs
    obtain ⟨F, hF⟩ := pick (m := m) (Q := fun i (c : Cr) => ∀ j u, j < 5 → (crF c)[j]? = some u → w.cell? (a.add (i * 5 + j)) = some u) (fun i him => by
      obtain ⟨cs', hc, ht'⟩ := hi i him
      rw [hk] at hc
      obtain ⟨c, hc'⟩ := open_cr ht'
      obtain ⟨_, hcl, hat⟩ := World.cells?_some hc
      refine ⟨c, fun j u hj hu => ?_⟩
      rw [← Go.Deep.add_add, hat j hj]
      exact hc' j u hj hu)
    have hlen : ((List.range len).map F).length = len := by simp
    refine ⟨⟨(List.range len).map F, l⟩, some a, m, by rw [hlen], by rw [hlen]; exact hl, ?_⟩
    refine ⟨len5 _, by show _ * 40 ≤ _; rw [hlen]; omega, fun h0 => ?_⟩
    rw [hlen] at h0
    obtain ⟨b, off, spot⟩ := a
    have hspot : spot = none := by simpa [Addr.add] using World.cell?_spot (hF 0 (by omega) 0 _ (by omega) rfl)
    subst hspot
    refine ⟨b, off, rfl, hlt (.cell b off) (List.mem_append_left _ (by rw [hx]; exact List.mem_append_left _ (MemPlace.mem_row.2 ⟨0, by rw [hk]; omega, by simp⟩))), fun i u hu => ?_⟩
    have hil : i < len * 5 := by
      have := (List.getElem?_eq_some_iff.1 hu).1
      rw [len5, hlen] at this
      exact this
    have hu' := hu
    rw [show i = (i / 5) * 5 + i % 5 by omega] at hu'
    rw [show (5 : Nat) = codCr.k from rfl, flat_get codCr.hf (by rw [hlen]; show i / 5 < len; omega) (by show i % 5 < 5; omega)] at hu'
    have := hF (i / 5) (by omega) (i % 5) u (by omega) (by simpa [codCr] using hu')
    rw [show (i / 5) * 5 + i % 5 = i by omega] at this
    rcases Nat.eq_zero_or_pos i with h1 | h1
    · subst h1; simpa [Addr.add] using this
    · simpa [Addr.add, show ¬ i = 0 by omega] using this
end
end Go.Proofs.Ytefkjfcncpmneaa
namespace Go.Proofs.Ytefkjfcncpmneaa
open Go.ChangeShapes Go.WideShapes Go.ChangeAt Go.RowKit
theorem RdA.of_sl {α : Type} {C : Cd α} {w : World} {B c : Nat} {A : Option Addr} {xs : List α} (hc : xs.length ≤ c) (hk : 0 < C.k) (h : Sl w B C.k C.u8 A xs.length (xs.flatMap C.f)) : RdA C (hp w) A c xs := by
  refine ⟨hc, h.2.1, fun h0 => ?_⟩
  obtain ⟨b, off, rfl, _, hat⟩ := h.2.2 h0
  refine ⟨rfl, ?_⟩
  have hlen : 0 < (xs.flatMap C.f).length := by rw [flat_len C.hf]; exact Nat.mul_pos h0 hk
  have h1 := hat 0 _ (List.getElem?_eq_getElem hlen)
  show ∃ cs T fz, w.heap[b]? = some (.cells cs T fz) ∧ ∀ j u, (xs.flatMap C.f)[j]? = some u → cs[off + j]? = some u
  unfold World.cell? at h1
  split at h1
  · rename_i cs T fz hb
    refine ⟨cs, T, fz, hb, fun j u hu => ?_⟩
    have := hat j u hu
    rw [cell_of_row w b _ cs T fz hb] at this
    exact this
  · cases h1
theorem IsDg.rd {w : World} {B : Nat} {v : Value} {d : Dg} (h : IsDg w B v d) : ∃ A c, v = .agg [.slice A d.crs.length c, .int .i64 d.loops].toArray ∧ RdA cdCr (hp w) A c d.crs := by
  obtain ⟨A, c, rfl, hc, h⟩ := h
  exact ⟨A, c, rfl, RdA.of_sl (C := cdCr) hc (by decide) h⟩
end Go.Proofs.Ytefkjfcncpmneaa
namespace Go.Proofs.Ytefkjfcncpmneaa
open Go.ChangeShapes Go.WideShapes Go.ChangeAt Go.RowKit Go.Joins Go.Deep
theorem weightsAll_mem {H : Type} {P : Program} {e : TypeId} {d : DataW H} {n : Nat} : ∀ {ds : List (DataW H)}, d ∈ ds → n ∈ d.weights P e → n ∈ DataW.weightsAll P e ds
  | d0 :: ds, hd, hn => by
    simp only [DataW.weightsAll, List.mem_append]
    rcases List.mem_cons.1 hd with rfl | hd
    · exact .inl hn
    · exact .inr (weightsAll_mem hd hn)
def Light {H : Type} (P : Program) (T : TypeId) (d : DataW H) : Prop := ∀ n ∈ d.weights P T, n ≤ reachBytes
/-- What is read of type T is one x of C, of which ok is true. -/
def Rdr {H : Type} (P : Program) (w : World) (enc : TypeId × Value → H) (T : TypeId) {α : Type} (C : Cd α) (ok : α → Prop) : Prop :=
  ∀ n cs d pl, DataW.trod enc P w 0 (fun _ => true) true n T cs = some (d, pl) → Light P T d → ∃ x, (∀ j u, j < C.k → (C.f x)[j]? = some u → cs[j]? = some u) ∧ ok x
def wfI (x : Int) : Prop := -9223372036854775808 ≤ x ∧ x ≤ 9223372036854775807
theorem wfI_of {x : Int} (h : (Lit.int .i64 x).wf = true) : wfI x := by
  simpa [Lit.wf, IntKind.min, IntKind.max, IntKind.signed, IntKind.bits, wfI] using h
def SlOk {α : Type} (C : Cd α) (w : World) (ok : α → Prop) (s : SlV) : Prop := ∃ ys : List α, s.n = ys.length ∧ RdA C (hp w) s.A s.c ys ∧ ∀ y ∈ ys, ok y
section
variable {H : Type} {enc : TypeId × Value → H} {P : Program} {w : World} {T : TypeId}
theorem rdr_int (hu : P.underlying T = some (.int .i64)) : Rdr P w enc T cdInt wfI := fun n cs d pl h _ => by
  obtain ⟨a, rfl, _, hw⟩ := DataW.trod_int hu h
  exact ⟨a, fun j u _ hu => hu, wfI_of hw⟩
theorem rdr_slice {α : Type} [Inhabited α] {C : Cd α} {ok : α → Prop} (hu : P.underlying T = some (.slice C.E)) (hk : P.cellsOf C.E = C.k) (hb : P.bytesOf C.E = C.u8) (hk0 : 0 < C.k) (hr : Rdr P w enc C.E C ok) : Rdr P w enc T (cdV T) (SlOk C w ok) := fun n cs d pl h hl => by
  rcases open_slice hu h with ⟨rfl, hx⟩ | ⟨a, len, cap, m, n', D, Pl, rfl, _, hle, hm, hmm, hx, hi⟩
  · exact ⟨⟨none, 0, 0⟩, fun j u _ hu => hu, [], rfl, RdA.nil_, fun y hy => by cases hy⟩
  · simp only [if_true] at hmm
    subst hmm
    simp only [Prod.mk.injEq] at hx
    obtain ⟨rfl, _⟩ := hx
    have hwt : ∀ n ∈ (len + (m - len)) * P.bytesOf C.E :: (DataW.weightsAll P C.E ((List.range len).map D) ++ DataW.weightsAll P C.E ((List.range (m - len)).map fun j => D (len + j))), n ≤ reachBytes := by
      have := hl
      unfold Light at this
      simp only [DataW.weights, hu, List.length_map, List.length_range] at this
      exact this
    have hsz := hwt _ (List.mem_cons_self ..)
    rw [hb] at hsz
    simp only [reachBytes] at hsz
    have hL : len * C.u8 ≤ 140737488355328 := Nat.le_trans (Nat.mul_le_mul_right _ (show len ≤ len + (m - len) by omega)) (by omega)
    obtain ⟨F, hF⟩ := choose_lt (α := α) (n := len) (p := fun i x => (∀ j u, j < C.k → (C.f x)[j]? = some u → w.cell? (a.add (i * C.k + j)) = some u) ∧ ok x) (fun i hil => by
      obtain ⟨cs', hc, ht⟩ := hi i (by omega)
      rw [hk] at hc
      obtain ⟨x, hx, hok⟩ := hr n' cs' (D i) (Pl i) ht (fun q hq => hwt q (List.mem_cons_of_mem _ (List.mem_append_left _ (weightsAll_mem (List.mem_map.2 ⟨i, List.mem_range.2 hil, rfl⟩) hq))))
      obtain ⟨_, hcl, hat⟩ := World.cells?_some hc
      refine ⟨x, fun j u hj hu => ?_, hok⟩
      rw [← Go.Deep.add_add, hat j hj]
      exact hx j u hj hu)
    have hlen : ((List.range len).map F).length = len := by simp
    refine ⟨⟨some a, len, m⟩, fun j u _ hu => hu, (List.range len).map F, by rw [hlen], ⟨by rw [hlen]; exact hle, by rw [hlen]; exact hL, fun h0 => ?_⟩, fun y hy => ?_⟩
    · rw [hlen] at h0
      have hcell : ∀ j u, (((List.range len).map F).flatMap C.f)[j]? = some u → w.cell? (a.add j) = some u := fun j u hju => by
        have hjl : j < len * C.k := by
          have := (List.getElem?_eq_some_iff.1 hju).1
          rwa [flat_len C.hf, hlen] at this
        have h1 : j / C.k < len := (Nat.div_lt_iff_lt_mul hk0).2 hjl
        have h2 : j % C.k < C.k := Nat.mod_lt _ hk0
        have em : j / C.k * C.k + j % C.k = j := by rw [Nat.mul_comm]; exact Nat.div_add_mod j C.k
        have g1 := flat_get C.hf (xs := (List.range len).map F) (i := j / C.k) (by rw [hlen]; exact h1) h2
        rw [em, hju] at g1
        have := (hF (j / C.k) h1).1 (j % C.k) u h2 (by rw [g1]; simp)
        rwa [em] at this
      have hlen0 : 0 < (((List.range len).map F).flatMap C.f).length := by rw [flat_len C.hf, hlen]; exact Nat.mul_pos h0 hk0
      have hc0 := hcell 0 _ (List.getElem?_eq_getElem hlen0)
      obtain ⟨b, off, spot⟩ := a
      have hspot : spot = none := by simpa [Addr.add] using World.cell?_spot hc0
      subst hspot
      refine ⟨rfl, ?_⟩
      have hadd : ∀ j, (⟨b, off, none⟩ : Addr).add j = ⟨b, off + j, none⟩ := fun j => by
        unfold Addr.add
        split
        · rename_i e; rw [e]; rfl
        · rfl
      rw [hadd] at hc0
      unfold World.cell? at hc0
      split at hc0
      · rename_i cs T' fz hb'
        refine ⟨cs, T', fz, hb', fun j u hju => ?_⟩
        have := hcell j u hju
        rw [hadd, cell_of_row w b _ cs T' fz hb'] at this
        exact this
      · cases hc0
    · obtain ⟨i, hi', rfl⟩ := List.mem_map.1 hy
      exact (hF i (List.mem_range.1 hi')).2
/-- A table of slices, as lists. -/
theorem slok2 {α : Type} {C : Cd α} {ok : α → Prop} : ∀ {vs : List SlV}, (∀ s ∈ vs, SlOk C w ok s) → ∃ xss : List (List α), Rd2 C (hp w) vs xss ∧ ∀ xs ∈ xss, ∀ y ∈ xs, ok y
  | [], _ => ⟨[], Rd2.nil_, fun xs hxs => by cases hxs⟩
  | s :: vs, h => by
    obtain ⟨xss, h1, h2⟩ := slok2 (vs := vs) (fun s hs => h s (List.mem_cons_of_mem _ hs))
    obtain ⟨ys, hn, hr, hy⟩ := h s (List.mem_cons_self ..)
    refine ⟨ys :: xss, ⟨by simp [h1.1], fun i hi => ?_⟩, fun xs hxs => ?_⟩
    · cases i with
      | zero => exact ⟨hn, hr⟩
      | succ i => exact h1.2 i (by simpa using hi)
    · rcases List.mem_cons.1 hxs with rfl | hxs
      · exact hy
      · exact h2 xs hxs
theorem open_sl {α : Type} [Inhabited α] {C : Cd α} {ok : α → Prop} {v : Value} {d : DataW H} {p : List MemPlace} (hu : P.underlying T = some (.slice C.E)) (hk : P.cellsOf C.E = C.k) (hb : P.bytesOf C.E = C.u8) (hk0 : 0 < C.k) (hr : Rdr P w enc C.E C ok)
    {b0 : Nat} (hv : Value.okWide P w .any b0 T v) (h : DataW.Trod enc P w 0 (fun _ => true) true T v d p) {ts : List TypeId} {ds : List (DataW H)} (hsz : (DataW.weightsEach P ts ds).all (· ≤ reachBytes) = true) {j : Nat} (hj : ts[j]? = some T) (hd : ds[j]? = some d) :
    ∃ A c xs, v = .slice A xs.length c ∧ RdA C (hp w) A c xs ∧ ∀ x ∈ xs, ok x := by
  obtain ⟨a0, len, cap, rfl⟩ := okWide_slice hu hv
  obtain ⟨fuel, hf⟩ := h
  have hl : Light P T d := fun n hn => by simpa using List.all_eq_true.1 hsz n (DataW.weights_mem_each hj hd n hn)
  obtain ⟨s, hs, ys, hn, hr, hy⟩ := rdr_slice hu hk hb hk0 hr fuel _ d p hf hl
  have := hs 0 _ Nat.one_pos rfl
  simp only [Value.cells] at this
  have e : (Value.slice a0 len cap) = .slice s.A s.n s.c := by simpa using this
  exact ⟨s.A, s.c, ys, by rw [e, hn], hr, hy⟩
end
end Go.Proofs.Ytefkjfcncpmneaa
namespace Go.Proofs.Ytefkjfcncpmneaa
open Go.ChangeShapes Go.WideShapes Go.ChangeAt Go.RowKit
theorem lawColourCounts (v0 : Value) (x0 : Dg) (x1 : List (List Int)) {A1 : Option Addr} {c1 : Nat} {s1 : List SlV} (W : World) (h0 : IsDg W W.heap.size v0 x0) (h1 : RdA (cdV 33) (hp W) A1 c1 s1) (hd1 : Rd2 cdInt (hp W) s1 x1) :
    Calls Try.prog 7 #[v0, .slice A1 s1.length c1] W fun e W' => e = .returned (.bool true) ∧ Below W.heap.size W W' := by
  obtain ⟨A0, c0, rfl, r0⟩ := h0.rd
  exact law_of_ct (ColourCounts_t x0 x1 r0 h1 hd1 (SH.start W))
set_option maxRecDepth 100000 in
theorem colourCounts_lifted (os : Os) (started : os.Started) (H : Type) (enc : TypeId × Value → H) :
    ReturnsInHanded {} Try.checked os 7 .any (Rows.colourCountsSpec.pre6 enc Try.prog Try.f7 Rows.colourCountsRow.domain false) (Rows.colourCountsSpec.post enc Try.prog Try.f7 false true false false) := by
  refine law_lift (C := Try.checked) (tb := 4) (by kernel_rfl) started (by kernel_rfl) Try.func7
    (ChangeSpec.witness6 (enc := enc) (C := Try.checked) false ⟨#[], #[.agg #[.slice none 0 0, .int .i64 0], .slice none 0 0], []⟩ 8 (by kernel_rfl) (by kernel_rfl) (by kernel_rfl) (by kernel_rfl))
    rfl (by kernel_rfl) (by kernel_rfl) rfl Try.underlying4 ?_ ?_
  · intro ds hds
    match ds, hds with
    | [d0, d1], _ => rfl
  · intro W base args ds p hval hA _ hlt hsz
    rw [Try.params7] at hA hval hsz
    obtain ⟨v0, vs0, d0, ds0, p0, q0, hargs, rfl, rfl, h0, r0⟩ := trodAll_cons hA
    obtain ⟨v1, vs1, d1, ds1, p1, q1, rfl, rfl, rfl, h1, r1⟩ := trodAll_cons r0
    obtain ⟨rfl, rfl, rfl⟩ := trodAll_nil r1
    obtain rfl : args = #[v0, v1] := by cases args; simp_all
    obtain ⟨a0, i0⟩ := open_Dg (hval 0 24 v0 rfl rfl) h0 (fun x hx => hlt x (by simp [hx])) hsz (j := 0) rfl rfl
    obtain ⟨A1, c1, xs1, rfl, g1, ok1⟩ := open_sl (C := cdV 33) Try.underlying34 (by kernel_rfl) (by kernel_rfl) (by decide) (rdr_slice (C := cdInt) Try.underlying33 (by kernel_rfl) (by kernel_rfl) (by decide) (rdr_int Try.underlying3)) (hval 1 34 v1 rfl rfl) h1 hsz (j := 1) rfl rfl
    obtain ⟨l1, gd1, _⟩ := slok2 ok1
    exact lawColourCounts v0 a0 l1 W i0 g1 gd1
theorem colourCounts_holds : Rows.ColourCountsSaid :=
  OpenClaim.holds_of_wide 7 Try.f7 rfl rfl rfl rfl rfl rfl rfl ⟨rfl, rfl, rfl, rfl, rfl⟩ rfl rfl rfl rfl rfl (by kernel_rfl) Try.func7 (by kernel_rfl)
    (of_decide_eq_true (by kernel_rfl)) (by unfold Func.isWrapper; first | (rw [if_pos (by decide +kernel)]; kernel_rfl) | (rw [if_neg (by decide +kernel)]; exact ⟨rfl, rfl⟩))
    (fun os started H enc _ => colourCounts_lifted os started H enc)
#print axioms colourCounts_holds
end Go.Proofs.Ytefkjfcncpmneaa
