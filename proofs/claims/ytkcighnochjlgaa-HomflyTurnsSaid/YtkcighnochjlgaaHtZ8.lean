/- Part 8 of the proof of the law HomflyTurns: the walks through its functions and the plain laws that they need. -/
import Derived.Test.YtkcighnochjlgaaHtZ7
set_option linter.unusedSimpArgs false
set_option linter.unusedVariables false
namespace Go.Proofs.Ytkcighnochjlgaa
open Go.ChangeShapes Go.WideShapes Go.ChangeAt Go.RowKit
theorem rem_in {d : Dg} {k c i : Nat} (h1 : i < c) (h2 : i ≠ k) : ga d.crs i ∈ remN d k c := by
 induction c with
 | zero => omega
 | succ c ih =>
  rw [remN]
  split
  ·exact ih (by omega)
  ·by_cases e : i = c
   ·subst e; exact List.mem_append_right _ (List.mem_singleton.2 rfl)
   ·exact List.mem_append_left _ (ih (by omega))
theorem round2 (d : Dg) (k : Nat) (w : List Int) : roundG (sE1 d k) (sE2 d k) w 2 = stepW (stepW w (sp1 d k) (sq1 d k)) (sp2 d k) (sq2 d k) := rfl
noncomputable def SmoothOf_n0 : Code := Try.f42.body.getD .skip
noncomputable def SmoothOf_n1 : Code := cL SmoothOf_n0
noncomputable def SmoothOf_n2 : Code := cR SmoothOf_n0
noncomputable def SmoothOf_n3 : Code := cL SmoothOf_n2
noncomputable def SmoothOf_n4 : Code := cR SmoothOf_n2
noncomputable def SmoothOf_n5 : Code := cL SmoothOf_n4
noncomputable def SmoothOf_n6 : Code := cR SmoothOf_n4
noncomputable def SmoothOf_n7 : Code := cL SmoothOf_n6
noncomputable def SmoothOf_n8 : Code := cR SmoothOf_n6
noncomputable def SmoothOf_n9 : Code := cL SmoothOf_n7
noncomputable def SmoothOf_n10 : Code := cR SmoothOf_n7
noncomputable def SmoothOf_n11 : Code := cL SmoothOf_n10
noncomputable def SmoothOf_n12 : Code := cR SmoothOf_n10
noncomputable def SmoothOf_n13 : Code := cL SmoothOf_n8
noncomputable def SmoothOf_n14 : Code := cR SmoothOf_n8
noncomputable def SmoothOf_n15 : Code := cL SmoothOf_n14
noncomputable def SmoothOf_n16 : Code := cR SmoothOf_n14
noncomputable def SmoothOf_n17 : Code := cL SmoothOf_n16
noncomputable def SmoothOf_n18 : Code := cR SmoothOf_n16
noncomputable def SmoothOf_n19 : Code := cL SmoothOf_n17
noncomputable def SmoothOf_n20 : Code := cR SmoothOf_n17
noncomputable def SmoothOf_n21 : Code := cL SmoothOf_n20
noncomputable def SmoothOf_n22 : Code := cL SmoothOf_n21
noncomputable def SmoothOf_n23 : Code := cL SmoothOf_n22
noncomputable def SmoothOf_n24 : Code := cR SmoothOf_n22
noncomputable def SmoothOf_n25 : Code := cL SmoothOf_n23
noncomputable def SmoothOf_n26 : Code := cR SmoothOf_n23
noncomputable def SmoothOf_n27 : Code := cL SmoothOf_n26
noncomputable def SmoothOf_n28 : Code := cR SmoothOf_n26
noncomputable def SmoothOf_n29 : Code := cL SmoothOf_n24
noncomputable def SmoothOf_n30 : Code := cR SmoothOf_n24
noncomputable def SmoothOf_n31 : Code := cL SmoothOf_n29
noncomputable def SmoothOf_n32 : Code := cL SmoothOf_n18
noncomputable def SmoothOf_n33 : Code := cR SmoothOf_n18
noncomputable def SmoothOf_n34 : Code := cL SmoothOf_n32
noncomputable def SmoothOf_n35 : Code := cR SmoothOf_n32
noncomputable def SmoothOf_n36 : Code := cL SmoothOf_n35
noncomputable def SmoothOf_n37 : Code := cL SmoothOf_n36
noncomputable def SmoothOf_n38 : Code := cL SmoothOf_n37
noncomputable def SmoothOf_n39 : Code := cR SmoothOf_n37
noncomputable def SmoothOf_n40 : Code := cL SmoothOf_n38
noncomputable def SmoothOf_n41 : Code := cR SmoothOf_n38
noncomputable def SmoothOf_n42 : Code := cL SmoothOf_n41
noncomputable def SmoothOf_n43 : Code := cR SmoothOf_n41
noncomputable def SmoothOf_n44 : Code := cL SmoothOf_n39
noncomputable def SmoothOf_n45 : Code := cR SmoothOf_n39
noncomputable def SmoothOf_n46 : Code := cL SmoothOf_n44
noncomputable def SmoothOf_n47 : Code := cL SmoothOf_n46
noncomputable def SmoothOf_n48 : Code := cR SmoothOf_n46
noncomputable def SmoothOf_n49 : Code := cL SmoothOf_n33
noncomputable def SmoothOf_n50 : Code := cR SmoothOf_n33
noncomputable def SmoothOf_n51 : Code := cL SmoothOf_n50
noncomputable def SmoothOf_n52 : Code := cR SmoothOf_n50
noncomputable def SmoothOf_n53 : Code := cL SmoothOf_n52
noncomputable def SmoothOf_n54 : Code := cR SmoothOf_n52
noncomputable def SmoothOf_n55 : Code := cL SmoothOf_n53
noncomputable def SmoothOf_n56 : Code := cR SmoothOf_n53
noncomputable def SmoothOf_n57 : Code := cL SmoothOf_n56
noncomputable def SmoothOf_n58 : Code := cL SmoothOf_n57
noncomputable def SmoothOf_n59 : Code := cL SmoothOf_n58
noncomputable def SmoothOf_n60 : Code := cR SmoothOf_n58
noncomputable def SmoothOf_n61 : Code := cL SmoothOf_n59
noncomputable def SmoothOf_n62 : Code := cR SmoothOf_n59
noncomputable def SmoothOf_n63 : Code := cL SmoothOf_n62
noncomputable def SmoothOf_n64 : Code := cR SmoothOf_n62
noncomputable def SmoothOf_n65 : Code := cL SmoothOf_n60
noncomputable def SmoothOf_n66 : Code := cR SmoothOf_n60
noncomputable def SmoothOf_n67 : Code := cL SmoothOf_n65
noncomputable def SmoothOf_n68 : Code := cL SmoothOf_n67
noncomputable def SmoothOf_n69 : Code := cR SmoothOf_n67
noncomputable def SmoothOf_n70 : Code := cL SmoothOf_n68
noncomputable def SmoothOf_n71 : Code := cR SmoothOf_n68
noncomputable def SmoothOf_n72 : Code := cL SmoothOf_n71
noncomputable def SmoothOf_n73 : Code := cR SmoothOf_n71
noncomputable def SmoothOf_n74 : Code := cL SmoothOf_n69
noncomputable def SmoothOf_n75 : Code := cR SmoothOf_n69
noncomputable def SmoothOf_n76 : Code := cL SmoothOf_n75
noncomputable def SmoothOf_n77 : Code := cL SmoothOf_n76
noncomputable def SmoothOf_n78 : Code := cL SmoothOf_n77
noncomputable def SmoothOf_n79 : Code := cR SmoothOf_n77
noncomputable def SmoothOf_n80 : Code := cL SmoothOf_n78
noncomputable def SmoothOf_n81 : Code := cR SmoothOf_n78
noncomputable def SmoothOf_n82 : Code := cL SmoothOf_n81
noncomputable def SmoothOf_n83 : Code := cR SmoothOf_n81
noncomputable def SmoothOf_n84 : Code := cL SmoothOf_n79
noncomputable def SmoothOf_n85 : Code := cR SmoothOf_n79
noncomputable def SmoothOf_n86 : Code := cL SmoothOf_n84
noncomputable def SmoothOf_n87 : Code := cL SmoothOf_n54
noncomputable def SmoothOf_n88 : Code := cR SmoothOf_n54
noncomputable def SmoothOf_n89 : Code := cL SmoothOf_n88
noncomputable def SmoothOf_n90 : Code := cR SmoothOf_n88
noncomputable def SmoothOf_n91 : Code := cL SmoothOf_n90
noncomputable def SmoothOf_n92 : Code := cR SmoothOf_n90
noncomputable def SmoothOf_n93 : Code := cL SmoothOf_n91
noncomputable def SmoothOf_n94 : Code := cR SmoothOf_n91
noncomputable def SmoothOf_n95 : Code := cL SmoothOf_n94
noncomputable def SmoothOf_n96 : Code := cL SmoothOf_n95
noncomputable def SmoothOf_n97 : Code := cL SmoothOf_n96
noncomputable def SmoothOf_n98 : Code := cR SmoothOf_n96
noncomputable def SmoothOf_n99 : Code := cL SmoothOf_n97
noncomputable def SmoothOf_n100 : Code := cR SmoothOf_n97
noncomputable def SmoothOf_n101 : Code := cL SmoothOf_n100
noncomputable def SmoothOf_n102 : Code := cR SmoothOf_n100
noncomputable def SmoothOf_n103 : Code := cL SmoothOf_n98
noncomputable def SmoothOf_n104 : Code := cR SmoothOf_n98
noncomputable def SmoothOf_n105 : Code := cL SmoothOf_n103
noncomputable def SmoothOf_n106 : Code := cL SmoothOf_n105
noncomputable def SmoothOf_n107 : Code := cR SmoothOf_n105
noncomputable def SmoothOf_n108 : Code := cL SmoothOf_n107
noncomputable def SmoothOf_n109 : Code := cR SmoothOf_n107
noncomputable def SmoothOf_n110 : Code := cL SmoothOf_n108
noncomputable def SmoothOf_n111 : Code := cR SmoothOf_n108
noncomputable def SmoothOf_n112 : Code := cL SmoothOf_n109
noncomputable def SmoothOf_n113 : Code := cR SmoothOf_n109
noncomputable def SmoothOf_n114 : Code := cL SmoothOf_n113
noncomputable def SmoothOf_n115 : Code := cR SmoothOf_n113
noncomputable def SmoothOf_n116 : Code := cL SmoothOf_n92
noncomputable def SmoothOf_n117 : Code := cR SmoothOf_n92
noncomputable def SmoothOf_n118 : Code := cL SmoothOf_n116
noncomputable def SmoothOf_n119 : Code := cR SmoothOf_n116
noncomputable def SmoothOf_n120 : Code := cL SmoothOf_n119
noncomputable def SmoothOf_n121 : Code := cL SmoothOf_n120
noncomputable def SmoothOf_n122 : Code := cL SmoothOf_n121
noncomputable def SmoothOf_n123 : Code := cR SmoothOf_n121
noncomputable def SmoothOf_n124 : Code := cL SmoothOf_n122
noncomputable def SmoothOf_n125 : Code := cR SmoothOf_n122
noncomputable def SmoothOf_n126 : Code := cL SmoothOf_n125
noncomputable def SmoothOf_n127 : Code := cR SmoothOf_n125
noncomputable def SmoothOf_n128 : Code := cL SmoothOf_n123
noncomputable def SmoothOf_n129 : Code := cR SmoothOf_n123
noncomputable def SmoothOf_n130 : Code := cL SmoothOf_n128
noncomputable def SmoothOf_n131 : Code := cL SmoothOf_n130
noncomputable def SmoothOf_n132 : Code := cR SmoothOf_n130
noncomputable def SmoothOf_n133 : Code := cL SmoothOf_n132
noncomputable def SmoothOf_n134 : Code := cR SmoothOf_n132
noncomputable def SmoothOf_n135 : Code := cL SmoothOf_n133
noncomputable def SmoothOf_n136 : Code := cR SmoothOf_n133
noncomputable def SmoothOf_n137 : Code := cL SmoothOf_n117
noncomputable def SmoothOf_n138 : Code := cR SmoothOf_n117
set_option maxHeartbeats 4000000 in
set_option maxRecDepth 10000 in
theorem SmoothOf_t {w : World} {M : Hp} {X : Fr} (d : Dg) {dcrsA : Option Addr} {dcrsc : Nat} (k : Nat) (hdcrs : RdA cdCr (M.un X.h) dcrsA dcrsc d.crs) (hk : k < d.crs.length) (hn : d.crs.length ≤ 16) (hab : arcsB d = true) (hlo0 : 0 ≤ d.loops ∧ d.loops ≤ 16) (S : SH w M X []) : Ct Try.prog 42 [.agg [.slice dcrsA d.crs.length dcrsc, .int .i64 d.loops].toArray, .int .i64 (k : Int)] w M X (fun u N => ∃ A c, u = .agg [.slice A (smD d k).crs.length c, .int .i64 (smD d k).loops].toArray ∧ RdA cdCr N A c (smD d k).crs) := by
 unfold Ct
 have rmhdcrs : d.crs.length * 40 ≤ 140737488355328 := hdcrs.room
 refine calls_in (b := SmoothOf_n0) Try.func42 rfl Try.ntmps42 rfl (fun C hC => ?_)
 refine ws_sub [(0, _), (1, _)] ⟨rfl, rfl, trivial⟩ ?_
 refine ws_seqN SmoothOf_n1 SmoothOf_n2 rfl rfl rfl ?_
 refine ws_region rfl ?_
 refine wlo 0 1 rfl rfl rfl (wo_box (l := [_, _]) rfl rfl rfl rfl rfl S ?_)
 intro gb1 w1 S1; clear S
 refine wlo 1 2 rfl rfl rfl (wo_alloc (l := [_, _]) rfl rfl rfl zr51 rfl S1 ?_)
 intro gb2 w2 S2; clear S1
 refine wl_end rfl ?_
 refine nm_sub [(1, _), (2, _), (4, _)] ⟨rfl, rfl, rfl, trivial⟩ ?_
 refine nm_thn ?_
 refine ws_seqN SmoothOf_n3 SmoothOf_n4 rfl rfl rfl ?_
 refine ws_region rfl ?_
 refine wlo 0 1 rfl rfl rfl (wo_run rfl rfl (run_fieldAddr rfl rfl Try.underlying51 rfl (ce49) (nf49)) ?_)
 refine wlo 1 2 rfl rfl rfl (wo_run rfl rfl (run_load1 rfl rfl Try.underlying49 rfl (S2.boxc (i := 1) rfl rfl)) ?_)
 refine wlm 2 3 rfl rfl rfl rfl rfl rfl rfl ?_
 refine wlo 3 4 rfl rfl rfl (wo_run rfl rfl (run_indexM (C := cdCr) k rfl rfl rfl sl49 (by first | rfl | omega) hdcrs (by first | omega | (simp only [lens]; omega))) ?_)
 refine wlo 4 5 rfl rfl rfl (wo_run rfl rfl (run_loadN (us := [_, _, _, _, _]) rfl rfl Try.underlying108 rfl sz108 (hdcrs.cellsAt S2.um (e := k) (by first | omega | (simp only [lens]; omega)) (j := 0) ⟨rfl, rfl, rfl, rfl, rfl, trivial⟩)) ?_)
 refine wlo 5 6 rfl rfl rfl (wo_alloc (l := [_, _, _, _, _]) rfl rfl rfl zr108 rfl S2 ?_)
 intro gb3 w3 S3; clear S2
 refine wlo 6 7 rfl rfl rfl (wo_storeB (i := 0) (us := [_, _, _, _, _]) (l' := [_, _, _, _, _]) (H' := [_, _, _]) rfl rfl S3 rfl rfl rfl rfl sz108 rfl rfl rfl rfl ?_)
 intro w4 S4; clear S3
 refine wl_end rfl ?_
 refine nm_sub [(1, _), (2, _), (4, _), (5, _)] ⟨rfl, rfl, rfl, rfl, trivial⟩ ?_
 refine nm_thn ?_
 refine ws_seqN SmoothOf_n5 SmoothOf_n6 rfl rfl rfl ?_
 refine ws_draw rfl (by kernel_rfl) S4 12 rfl ?_
 clear S4
 refine wa_takeP (i := 0) (d := 28) 11 rfl (by kernel_rfl) (by kernel_rfl) (by kernel_rfl) rfl rfl rfl (fun w5 => run_fieldAddr rfl rfl Try.underlying108 rfl (ce3) (nf3)) ?_
 refine wa_take (i := 1) (d := 29) 10 rfl (by kernel_rfl) (by kernel_rfl) (by kernel_rfl) rfl rfl rfl (fun M2 N2 w6 hle2 S6 => .inl (run_load1 rfl rfl Try.underlying3 rfl (S6.suf.boxc (i := 0) rfl rfl))) ?_
 refine wa_takeP (i := 2) (d := 30) 9 rfl (by kernel_rfl) (by kernel_rfl) (by kernel_rfl) rfl rfl rfl (fun w7 => run_fieldAddr rfl rfl Try.underlying108 rfl (ce3) (nf3)) ?_
 refine wa_take (i := 3) (d := 31) 8 rfl (by kernel_rfl) (by kernel_rfl) (by kernel_rfl) rfl rfl rfl (fun M4 N4 w8 hle4 S8 => .inl (run_load1 rfl rfl Try.underlying3 rfl (S8.suf.boxc (i := 0) rfl rfl))) ?_
 refine wa_takeP (i := 4) (d := 32) 7 rfl (by kernel_rfl) (by kernel_rfl) (by kernel_rfl) rfl rfl rfl (fun w9 => run_fieldAddr rfl rfl Try.underlying108 rfl (ce3) (nf3)) ?_
 refine wa_take (i := 5) (d := 33) 6 rfl (by kernel_rfl) (by kernel_rfl) (by kernel_rfl) rfl rfl rfl (fun M6 N6 w10 hle6 S10 => .inl (run_load1 rfl rfl Try.underlying3 rfl (S10.suf.boxc (i := 0) rfl rfl))) ?_
 refine wa_takeP (i := 6) (d := 34) 5 rfl (by kernel_rfl) (by kernel_rfl) (by kernel_rfl) rfl rfl rfl (fun w11 => run_fieldAddr rfl rfl Try.underlying108 rfl (ce3) (nf3)) ?_
 refine wa_take (i := 7) (d := 35) 4 rfl (by kernel_rfl) (by kernel_rfl) (by kernel_rfl) rfl rfl rfl (fun M8 N8 w12 hle8 S12 => .inl (run_load1 rfl rfl Try.underlying3 rfl (S12.suf.boxc (i := 0) rfl rfl))) ?_
 refine wa_takeP (i := 8) (d := 6) 3 rfl (by kernel_rfl) (by kernel_rfl) (by kernel_rfl) rfl rfl rfl (fun w13 => run_assign rfl rfl) ?_
 refine wa_takeP (i := 9) (d := 7) 2 rfl (by kernel_rfl) (by kernel_rfl) (by kernel_rfl) rfl rfl rfl (fun w14 => run_assign rfl rfl) ?_
 refine wa_takeP (i := 10) (d := 8) 1 rfl (by kernel_rfl) (by kernel_rfl) (by kernel_rfl) rfl rfl rfl (fun w15 => run_assign rfl rfl) ?_
 refine wa_takeP (i := 11) (d := 9) 0 rfl (by kernel_rfl) (by kernel_rfl) (by kernel_rfl) rfl rfl rfl (fun w16 => run_assign rfl rfl) ?_
 refine wa_end (by kernel_rfl) (fun w17 S17 => ?_)
 refine nm_sub [(1, _), (2, _), (4, _), (5, _), (6, _), (7, _), (8, _), (9, _)] ⟨rfl, rfl, rfl, rfl, rfl, rfl, rfl, rfl, trivial⟩ ?_
 refine nm_thn ?_
 refine ws_seqN SmoothOf_n7 SmoothOf_n8 rfl rfl rfl ?_
 refine ws_seqN SmoothOf_n9 SmoothOf_n10 rfl rfl rfl ?_
 refine ws_region rfl ?_
 refine wlo 0 1 rfl rfl rfl (wo_run rfl rfl (run_fieldAddr rfl rfl Try.underlying108 rfl (ce4) (nf4)) ?_)
 refine wlo 1 2 rfl rfl rfl (wo_run rfl rfl (run_load1 rfl rfl Try.underlying4 rfl (S17.boxc (i := 0) rfl rfl)) ?_)
 refine wl_end rfl ?_
 refine nm_sub [(1, _), (2, _), (4, _), (5, _), (6, _), (7, _), (8, _), (9, _), (37, _)] ⟨rfl, rfl, rfl, rfl, rfl, rfl, rfl, rfl, rfl, trivial⟩ ?_
 refine nm_thn ?_
 refine ws_condN SmoothOf_n11 SmoothOf_n12 rfl rfl rfl rfl (fun hb37 => ?_) (fun hb37 => ?_)
 ·refine ws_draw rfl (by kernel_rfl) S17 12 rfl ?_
  clear S17
  refine wa_takeP (i := 0) (d := 38) 11 rfl (by kernel_rfl) (by kernel_rfl) (by kernel_rfl) rfl rfl rfl (fun w18 => run_fieldAddr rfl rfl Try.underlying108 rfl (ce3) (nf3)) ?_
  refine wa_take (i := 1) (d := 39) 10 rfl (by kernel_rfl) (by kernel_rfl) (by kernel_rfl) rfl rfl rfl (fun M14 N14 w19 hle14 S19 => .inl (run_load1 rfl rfl Try.underlying3 rfl (S19.suf.boxc (i := 0) rfl rfl))) ?_
  refine wa_takeP (i := 2) (d := 40) 9 rfl (by kernel_rfl) (by kernel_rfl) (by kernel_rfl) rfl rfl rfl (fun w20 => run_fieldAddr rfl rfl Try.underlying108 rfl (ce3) (nf3)) ?_
  refine wa_take (i := 3) (d := 41) 8 rfl (by kernel_rfl) (by kernel_rfl) (by kernel_rfl) rfl rfl rfl (fun M16 N16 w21 hle16 S21 => .inl (run_load1 rfl rfl Try.underlying3 rfl (S21.suf.boxc (i := 0) rfl rfl))) ?_
  refine wa_takeP (i := 4) (d := 42) 7 rfl (by kernel_rfl) (by kernel_rfl) (by kernel_rfl) rfl rfl rfl (fun w22 => run_fieldAddr rfl rfl Try.underlying108 rfl (ce3) (nf3)) ?_
  refine wa_take (i := 5) (d := 43) 6 rfl (by kernel_rfl) (by kernel_rfl) (by kernel_rfl) rfl rfl rfl (fun M18 N18 w23 hle18 S23 => .inl (run_load1 rfl rfl Try.underlying3 rfl (S23.suf.boxc (i := 0) rfl rfl))) ?_
  refine wa_takeP (i := 6) (d := 44) 5 rfl (by kernel_rfl) (by kernel_rfl) (by kernel_rfl) rfl rfl rfl (fun w24 => run_fieldAddr rfl rfl Try.underlying108 rfl (ce3) (nf3)) ?_
  refine wa_take (i := 7) (d := 45) 4 rfl (by kernel_rfl) (by kernel_rfl) (by kernel_rfl) rfl rfl rfl (fun M20 N20 w25 hle20 S25 => .inl (run_load1 rfl rfl Try.underlying3 rfl (S25.suf.boxc (i := 0) rfl rfl))) ?_
  refine wa_takeP (i := 8) (d := 6) 3 rfl (by kernel_rfl) (by kernel_rfl) (by kernel_rfl) rfl rfl rfl (fun w26 => run_assign rfl rfl) ?_
  refine wa_takeP (i := 9) (d := 7) 2 rfl (by kernel_rfl) (by kernel_rfl) (by kernel_rfl) rfl rfl rfl (fun w27 => run_assign rfl rfl) ?_
  refine wa_takeP (i := 10) (d := 8) 1 rfl (by kernel_rfl) (by kernel_rfl) (by kernel_rfl) rfl rfl rfl (fun w28 => run_assign rfl rfl) ?_
  refine wa_takeP (i := 11) (d := 9) 0 rfl (by kernel_rfl) (by kernel_rfl) (by kernel_rfl) rfl rfl rfl (fun w29 => run_assign rfl rfl) ?_
  refine wa_end (by kernel_rfl) (fun w30 S30 => ?_)
  refine nm_sub [(1, _), (2, _), (4, _), (6, _), (7, _), (8, _), (9, _)] ⟨rfl, rfl, rfl, rfl, rfl, rfl, rfl, trivial⟩ ?_
  refine nm_thn ?_
  refine ws_seqN SmoothOf_n13 SmoothOf_n14 rfl rfl rfl ?_
  have hs0 : 1 ≤ (ga d.crs k).a ∧ (ga d.crs k).a ≤ 2 * (d.crs.length : Int) := arcAt_bd hab hk (k := 0) (by omega)
  have hs2 : 1 ≤ (ga d.crs k).c ∧ (ga d.crs k).c ≤ 2 * (d.crs.length : Int) := arcAt_bd hab hk (k := 2) (by omega)
  have hs1 : 1 ≤ (ga d.crs k).b ∧ (ga d.crs k).b ≤ 2 * (d.crs.length : Int) := arcAt_bd hab hk (k := 1) (by omega)
  have hs3 : 1 ≤ (ga d.crs k).d ∧ (ga d.crs k).d ≤ 2 * (d.crs.length : Int) := arcAt_bd hab hk (k := 3) (by omega)
  obtain ⟨⟨hm1, hm2⟩, ⟨hm3, hm4⟩, ⟨hm5, hm6⟩, ⟨hm7, hm8⟩⟩ := sm_bd hab hk
  refine ws_eq 6 (.int .i64 ((sp1 d k : Nat) : Int)) rfl (int_eq (by unfold sp1; omega)) ?_
  refine ws_eq 7 (.int .i64 ((sq1 d k : Nat) : Int)) rfl (int_eq (by unfold sq1 abv; rw [if_pos hb37]; dsimp only; omega)) ?_
  refine ws_eq 8 (.int .i64 ((sp2 d k : Nat) : Int)) rfl (int_eq (by unfold sp2 abv; rw [if_pos hb37]; dsimp only; omega)) ?_
  refine ws_eq 9 (.int .i64 ((sq2 d k : Nat) : Int)) rfl (int_eq (by unfold sq2; omega)) ?_
  clear hs0 hs1 hs2 hs3
  refine ws_region rfl ?_
  refine wlo 0 1 rfl rfl rfl (wo_run rfl rfl (run_fieldAddr rfl rfl Try.underlying51 rfl (ce49) (nf49)) ?_)
  refine wlo 1 2 rfl rfl rfl (wo_run rfl rfl (run_load1 rfl rfl Try.underlying49 rfl (S30.boxc (i := 2) rfl rfl)) ?_)
  refine wlo 2 3 rfl rfl rfl (wo_run rfl rfl (run_len rfl rfl rfl rfl rfl rfl Try.underlying49) ?_)
  refine wlo 3 4 rfl rfl rfl (wo_run rfl rfl (run_mul rfl rfl rfl (by first | omega | (simp only [lens]; omega))) ?_)
  refine wla 4 5 rfl rfl rfl rfl rfl rfl rfl ?_
  refine wl_end rfl ?_
  refine nm_sub [(1, _), (2, _), (4, _), (6, _), (7, _), (8, _), (9, _), (10, _)] ⟨rfl, rfl, rfl, rfl, rfl, rfl, rfl, rfl, trivial⟩ ?_
  refine nm_thn ?_
  refine ws_seqN SmoothOf_n15 SmoothOf_n16 rfl rfl rfl ?_
  refine ws_region rfl ?_
  refine wlm 0 1 rfl rfl rfl rfl rfl rfl rfl ?_
  refine wlo 1 2 rfl rfl rfl (wo_run rfl rfl (run_add rfl rfl rfl (by first | omega | (simp only [lens]; omega))) ?_)
  refine wlo 2 3 rfl rfl rfl (wo_make (C := cdInt) ((2 * (d.crs.length : Int)).toNat + 1) rfl rfl rfl rfl rfl sl36 (by first | rfl | omega) (by show _ * 8 ≤ _; first | omega | (simp only [lens]; omega)) S30 ?_)
  intro vr1 w31 S31; clear S30
  refine wla 3 4 rfl rfl rfl rfl rfl rfl rfl ?_
  refine wl_end rfl ?_
  refine nm_sub [(1, _), (2, _), (4, _), (6, _), (7, _), (8, _), (9, _), (10, _), (11, _)] ⟨rfl, rfl, rfl, rfl, rfl, rfl, rfl, rfl, rfl, trivial⟩ ?_
  refine nm_thn ?_
  refine ws_seqN SmoothOf_n17 SmoothOf_n18 rfl rfl rfl ?_
  refine ws_seqN SmoothOf_n19 SmoothOf_n20 rfl rfl rfl ?_
  refine ws_region rfl ?_
  refine wla 0 1 rfl rfl rfl rfl rfl rfl rfl ?_
  refine wl_end rfl ?_
  refine nm_thn ?_
  refine ws_blockN SmoothOf_n21 0 rfl rfl rfl ?_
  refine ws_loopE (fun mx_ ax_ wx_ => ∃ (i : Nat) (ws : List Int) (vrw : Value), mx_ = 2 * d.crs.length + 1 - i ∧ Env 188 [(1, .int .i64 (k : Int)), (2, .pointer (some ⟨gb1, 0, none⟩)), (4, .pointer (some ⟨gb2, 0, none⟩)), (6, .int .i64 ((sp1 d k : Nat) : Int)), (7, .int .i64 ((sq1 d k : Nat) : Int)), (8, .int .i64 ((sp2 d k : Nat) : Int)), (9, .int .i64 ((sq2 d k : Nat) : Int)), (10, .int .i64 (2 * (d.crs.length : Int))), (11, vrw), (12, .int .i64 (i : Int))] ax_ ∧ SH wx_ M X [Rs.row cdInt vrw ws, Rs.box gb2 51 [.slice none 0 0, .int .i64 0], Rs.box gb1 51 [.slice dcrsA d.crs.length dcrsc, .int .i64 d.loops]] ∧ i ≤ 2 * d.crs.length + 1 ∧ ws = iniW (2 * d.crs.length + 1) i) rfl ?_ ?_
  ·intro ax_ hax_
   refine ⟨_, ⟨0, _, _, rfl, hax_.sub ⟨rfl, rfl, rfl, rfl, rfl, rfl, rfl, rfl, rfl, rfl, trivial⟩, S31.pick [0, 2, 3] [_, _, _] (by decide) ⟨rfl, rfl, rfl, trivial⟩, ?hq1f0, ?hq1f1⟩⟩
   case hq1f0 => omega
   case hq1f1 => rfl
  ·rintro m1 a1 w32 ⟨i, ws, vrw, rfl, he1, S32, hi, hw⟩
   clear S31
   refine ws_in he1 (c := SmoothOf_n22) rfl ?_
   clear he1 a1
   have hwl : ws.length = 2 * d.crs.length + 1 := by rw [hw, iniW_len]
   refine ws_seqN SmoothOf_n23 SmoothOf_n24 rfl rfl rfl ?_
   refine ws_seqN SmoothOf_n25 SmoothOf_n26 rfl rfl rfl ?_
   refine ws_region rfl ?_
   refine wlm 0 1 rfl rfl rfl rfl rfl rfl rfl ?_
   refine wlm 1 2 rfl rfl rfl rfl rfl rfl rfl ?_
   refine wlo 2 3 rfl rfl rfl (wo_run rfl rfl (run_leq rfl rfl rfl) ?_)
   refine wl_end rfl ?_
   refine nm_sub [(1, _), (2, _), (4, _), (6, _), (7, _), (8, _), (9, _), (10, _), (11, _), (12, _), (55, _)] ⟨rfl, rfl, rfl, rfl, rfl, rfl, rfl, rfl, rfl, rfl, rfl, trivial⟩ ?_
   refine nm_thn ?_
   refine ws_condN SmoothOf_n27 SmoothOf_n28 rfl rfl rfl rfl (fun hb55 => ?_) (fun hb55 => ?_)
   ·replace hb55 := of_decide_eq_true hb55
    refine ws_skip rfl ?_
    refine nm_sub [(1, _), (2, _), (4, _), (6, _), (7, _), (8, _), (9, _), (10, _), (11, _), (12, _)] ⟨rfl, rfl, rfl, rfl, rfl, rfl, rfl, rfl, rfl, rfl, trivial⟩ ?_
    refine nm_thn ?_
    refine ws_seqN SmoothOf_n29 SmoothOf_n30 rfl rfl rfl ?_
    refine ws_blockN SmoothOf_n31 1 rfl rfl rfl ?_
    refine ws_region rfl ?_
    refine wlm 0 1 rfl rfl rfl rfl rfl rfl rfl ?_
    refine wlm 1 2 rfl rfl rfl rfl rfl rfl rfl ?_
    refine wlm 2 3 rfl rfl rfl rfl rfl rfl rfl ?_
    refine wlo 3 4 rfl rfl rfl (wo_run rfl rfl (run_indexR (C := cdInt) (i := 0) i rfl rfl rfl sl36 S32 rfl (by first | rfl | omega) (by first | omega | (simp only [lens]; omega))) ?_)
    refine wlo 4 5 rfl rfl rfl (wo_storeR (C := cdInt) (i := 0) (e := i) (j := 0) (us := [_]) (H' := [_, _, _]) (i : Int) rfl rfl S32 rfl (by first | omega | (simp only [lens]; omega)) rfl rfl rfl sz3 rfl rfl rfl rfl ?_)
    intro w33 S33; clear S32
    refine wl_end rfl ?_
    refine nm_blk ?_
    refine nm_sub [(1, _), (2, _), (4, _), (6, _), (7, _), (8, _), (9, _), (10, _), (11, _), (12, _)] ⟨rfl, rfl, rfl, rfl, rfl, rfl, rfl, rfl, rfl, rfl, trivial⟩ ?_
    refine nm_thn ?_
    refine ws_region rfl ?_
    refine wlm 0 1 rfl rfl rfl rfl rfl rfl rfl ?_
    refine wlo 1 2 rfl rfl rfl (wo_run rfl rfl (run_add rfl rfl rfl (by first | omega | (simp only [lens]; omega))) ?_)
    refine wla 2 3 rfl rfl rfl rfl rfl rfl rfl ?_
    refine wl_end rfl ?_
    refine nm_lp ?_
    intro ax_ hax_
    refine ⟨_, ?hq2m, ⟨i + 1, _, _, rfl, hax_.sub ⟨rfl, rfl, rfl, rfl, rfl, rfl, rfl, rfl, rfl, rfl, trivial⟩, S33.pick [0, 1, 2] [_, _, _] (by decide) ⟨rfl, rfl, rfl, trivial⟩, ?hq2f0, ?hq2f1⟩⟩
    case hq2f0 => omega
    case hq2f1 => (rw [hw]; rfl)
    case hq2m => omega
   ·replace hb55 := of_decide_eq_false hb55
    refine ws_exit rfl rfl ?_
    refine nm_sub [(1, _), (2, _), (4, _), (6, _), (7, _), (8, _), (9, _), (10, _), (11, _)] ⟨rfl, rfl, rfl, rfl, rfl, rfl, rfl, rfl, rfl, trivial⟩ ?_
    refine nm_thn ?_
    refine ws_seqN SmoothOf_n32 SmoothOf_n33 rfl rfl rfl ?_
    refine ws_seqN SmoothOf_n34 SmoothOf_n35 rfl rfl rfl ?_
    refine ws_region rfl ?_
    refine wla 0 1 rfl rfl rfl rfl rfl rfl rfl ?_
    refine wl_end rfl ?_
    refine nm_thn ?_
    refine ws_blockN SmoothOf_n36 2 rfl rfl rfl ?_
    refine ws_loopE (fun mx_ ax_ wx_ => ∃ (j : Nat) (ws2 : List Int) (vrw2 : Value), mx_ = 3 - j ∧ Env 188 [(1, .int .i64 (k : Int)), (2, .pointer (some ⟨gb1, 0, none⟩)), (4, .pointer (some ⟨gb2, 0, none⟩)), (6, .int .i64 ((sp1 d k : Nat) : Int)), (7, .int .i64 ((sq1 d k : Nat) : Int)), (8, .int .i64 ((sp2 d k : Nat) : Int)), (9, .int .i64 ((sq2 d k : Nat) : Int)), (10, .int .i64 (2 * (d.crs.length : Int))), (11, vrw2), (13, .int .i64 (j : Int))] ax_ ∧ SH wx_ M X [Rs.row cdInt vrw2 ws2, Rs.box gb2 51 [.slice none 0 0, .int .i64 0], Rs.box gb1 51 [.slice dcrsA d.crs.length dcrsc, .int .i64 d.loops]] ∧ j ≤ 3 ∧ ws2 = rdsG (sE1 d k) (sE2 d k) (2 * d.crs.length + 1) 2 j) rfl ?_ ?_
    ·intro ax_ hax_
     refine ⟨_, ⟨0, _, _, rfl, hax_.sub ⟨rfl, rfl, rfl, rfl, rfl, rfl, rfl, rfl, rfl, rfl, trivial⟩, S32.pick [0, 1, 2] [_, _, _] (by decide) ⟨rfl, rfl, rfl, trivial⟩, ?hq3f0, ?hq3f1⟩⟩
     case hq3f0 => omega
     case hq3f1 => (obtain rfl : i = 2 * d.crs.length + 1 := (by omega); exact hw)
    ·rintro m2 a2 w34 ⟨j, ws2, vrw2, rfl, he2, S34, hj, hw2⟩
     clear S32
     refine ws_in he2 (c := SmoothOf_n37) rfl ?_
     clear he2 a2
     have hl2 : ws2.length = 2 * d.crs.length + 1 := by rw [hw2, rdsG_len]
     refine ws_seqN SmoothOf_n38 SmoothOf_n39 rfl rfl rfl ?_
     refine ws_seqN SmoothOf_n40 SmoothOf_n41 rfl rfl rfl ?_
     refine ws_region rfl ?_
     refine wlm 0 1 rfl rfl rfl rfl rfl rfl rfl ?_
     refine wlo 1 2 rfl rfl rfl (wo_run rfl rfl (run_lss rfl rfl rfl) ?_)
     refine wl_end rfl ?_
     refine nm_sub [(1, _), (2, _), (4, _), (6, _), (7, _), (8, _), (9, _), (10, _), (11, _), (13, _), (63, _)] ⟨rfl, rfl, rfl, rfl, rfl, rfl, rfl, rfl, rfl, rfl, rfl, trivial⟩ ?_
     refine nm_thn ?_
     refine ws_condN SmoothOf_n42 SmoothOf_n43 rfl rfl rfl rfl (fun hb63 => ?_) (fun hb63 => ?_)
     ·replace hb63 := of_decide_eq_true hb63
      refine ws_skip rfl ?_
      refine nm_sub [(1, _), (2, _), (4, _), (6, _), (7, _), (8, _), (9, _), (10, _), (11, _), (13, _)] ⟨rfl, rfl, rfl, rfl, rfl, rfl, rfl, rfl, rfl, rfl, trivial⟩ ?_
      refine nm_thn ?_
      refine ws_seqN SmoothOf_n44 SmoothOf_n45 rfl rfl rfl ?_
      refine ws_blockN SmoothOf_n46 3 rfl rfl rfl ?_
      refine ws_seqN SmoothOf_n47 SmoothOf_n48 rfl rfl rfl ?_
      refine ws_region rfl ?_
      refine wlm 0 1 rfl rfl rfl rfl rfl rfl rfl ?_
      refine wlm 1 2 rfl rfl rfl rfl rfl rfl rfl ?_
      refine wlm 2 3 rfl rfl rfl rfl rfl rfl rfl ?_
      refine wlo 3 4 rfl rfl rfl (wo_c1 rfl rfl rfl rfl rfl rfl rfl cf83 S34 (i := 0) rfl (level_w vrw2 _ ((sp1 d k : Nat) : Int) ((sq1 d k : Nat) : Int) (by first | omega | (simp only [stepW_len]; omega)) (by first | omega | (simp only [stepW_len]; omega)) (S34.lend1 (i := 0) rfl)) ?_)
      rintro vw35 w35 _ _ - S35 ⟨rfl, rfl, rfl⟩; clear S34
      change SH _ _ _ [_, _, _] at S35
      refine wl_end rfl ?_
      refine nm_sub [(1, _), (2, _), (4, _), (6, _), (7, _), (8, _), (9, _), (10, _), (11, _), (13, _)] ⟨rfl, rfl, rfl, rfl, rfl, rfl, rfl, rfl, rfl, rfl, trivial⟩ ?_
      refine nm_thn ?_
      refine ws_region rfl ?_
      refine wlm 0 1 rfl rfl rfl rfl rfl rfl rfl ?_
      refine wlm 1 2 rfl rfl rfl rfl rfl rfl rfl ?_
      refine wlm 2 3 rfl rfl rfl rfl rfl rfl rfl ?_
      refine wlo 3 4 rfl rfl rfl (wo_c1 rfl rfl rfl rfl rfl rfl rfl cf83 S35 (i := 0) rfl (level_w vrw2 _ ((sp2 d k : Nat) : Int) ((sq2 d k : Nat) : Int) (by first | omega | (simp only [stepW_len]; omega)) (by first | omega | (simp only [stepW_len]; omega)) (S35.lend1 (i := 0) rfl)) ?_)
      rintro vw36 w36 _ _ - S36 ⟨rfl, rfl, rfl⟩; clear S35
      change SH _ _ _ [_, _, _] at S36
      refine wl_end rfl ?_
      refine nm_blk ?_
      refine nm_sub [(1, _), (2, _), (4, _), (6, _), (7, _), (8, _), (9, _), (10, _), (11, _), (13, _)] ⟨rfl, rfl, rfl, rfl, rfl, rfl, rfl, rfl, rfl, rfl, trivial⟩ ?_
      refine nm_thn ?_
      refine ws_region rfl ?_
      refine wlm 0 1 rfl rfl rfl rfl rfl rfl rfl ?_
      refine wlo 1 2 rfl rfl rfl (wo_run rfl rfl (run_add rfl rfl rfl (by first | omega | (simp only [lens]; omega))) ?_)
      refine wla 2 3 rfl rfl rfl rfl rfl rfl rfl ?_
      refine wl_end rfl ?_
      refine nm_lp ?_
      intro ax_ hax_
      refine ⟨_, ?hq4m, ⟨j + 1, _, _, rfl, hax_.sub ⟨rfl, rfl, rfl, rfl, rfl, rfl, rfl, rfl, rfl, rfl, trivial⟩, S36.pick [0, 1, 2] [_, _, _] (by decide) ⟨rfl, rfl, rfl, trivial⟩, ?hq4f0, ?hq4f1⟩⟩
      case hq4f0 => omega
      case hq4f1 => (rw [rdsG, ← hw2, round2]; rfl)
      case hq4m => omega
     ·replace hb63 := of_decide_eq_false hb63
      refine ws_exit rfl rfl ?_
      refine nm_sub [(1, _), (2, _), (4, _), (10, _), (11, _)] ⟨rfl, rfl, rfl, rfl, rfl, trivial⟩ ?_
      refine nm_thn ?_
      refine ws_seqN SmoothOf_n49 SmoothOf_n50 rfl rfl rfl ?_
      obtain rfl : j = 3 := by omega
      have hclf : ws2 = smC d k := by rw [hw2, sm_law hab hk]
      have hok : ∀ x, x < 2 * d.crs.length + 1 → 0 ≤ ga ws2 x ∧ ga ws2 x ≤ x ∧ ga ws2 (ga ws2 x).toNat = ga ws2 x := by rw [hclf]; exact (smN_ok hab hk 2 (Nat.le_refl _)).2
      have hl2 : ws2.length = 2 * d.crs.length + 1 := by rw [hw2, rdsG_len]
      clear hw2
      obtain ⟨cl, rfl⟩ : ∃ cl, cl = ws2 := ⟨_, rfl⟩
      obtain ⟨oc, hocf⟩ : ∃ oc, oc = remL d k := ⟨_, rfl⟩
      refine ws_region rfl ?_
      refine wlm 0 1 rfl rfl rfl rfl rfl rfl rfl ?_
      refine wlo 1 2 rfl rfl rfl (wo_run rfl rfl (run_add rfl rfl rfl (by first | omega | (simp only [lens]; omega))) ?_)
      refine wlo 2 3 rfl rfl rfl (wo_make (C := cdBool) ((2 * (d.crs.length : Int)).toNat + 1) rfl rfl rfl rfl rfl sl117 (by first | rfl | omega) (by show _ * 1 ≤ _; first | omega | (simp only [lens]; omega)) S34 ?_)
      intro vr2 w37 S37; clear S34
      refine wla 3 4 rfl rfl rfl rfl rfl rfl rfl ?_
      refine wl_end rfl ?_
      refine nm_sub [(1, _), (2, _), (4, _), (10, _), (11, _), (14, _)] ⟨rfl, rfl, rfl, rfl, rfl, rfl, trivial⟩ ?_
      refine nm_thn ?_
      refine ws_seqN SmoothOf_n51 SmoothOf_n52 rfl rfl rfl ?_
      refine ws_region rfl ?_
      refine wlo 0 1 rfl rfl rfl (wo_run rfl rfl (run_fieldAddr rfl rfl Try.underlying51 rfl (ce3) (nf3)) ?_)
      refine wlo 1 2 rfl rfl rfl (wo_run rfl rfl (run_load1 rfl rfl Try.underlying3 rfl (S37.boxc (i := 3) rfl rfl)) ?_)
      refine wl_eq 78 (.int .i64 (d.loops + (cn (loB2 cl oc) (0 + 1) : Int))) rfl (int_eq (by rw [show cn (loB2 cl oc) (0 + 1) = 0 from rfl]; omega)) ?_
      refine wlo 2 3 rfl rfl rfl (wo_run rfl rfl (run_build (l := [_, _]) rfl rfl st51 rfl rfl) ?_)
      refine wlo 3 4 rfl rfl rfl (wo_alloc (l := [_, _]) rfl rfl rfl zr51 rfl S37 ?_)
      intro gb4 w38 S38; clear S37
      refine wlo 4 5 rfl rfl rfl (wo_storeB (i := 0) (us := [_, _]) (l' := [_, _]) (H' := [_, _, _, _, _]) rfl rfl S38 rfl rfl rfl rfl sz51 rfl rfl rfl rfl ?_)
      intro w39 S39; clear S38
      refine wl_end rfl ?_
      refine nm_sub [(1, _), (2, _), (4, _), (10, _), (11, _), (14, _), (15, _)] ⟨rfl, rfl, rfl, rfl, rfl, rfl, rfl, trivial⟩ ?_
      refine nm_thn ?_
      refine ws_seqN SmoothOf_n53 SmoothOf_n54 rfl rfl rfl ?_
      refine ws_seqN SmoothOf_n55 SmoothOf_n56 rfl rfl rfl ?_
      refine ws_region rfl ?_
      refine wla 0 1 rfl rfl rfl rfl rfl rfl rfl ?_
      refine wl_end rfl ?_
      refine nm_thn ?_
      refine ws_blockN SmoothOf_n57 4 rfl rfl rfl ?_
      refine ws_loopE (fun mx_ ax_ wx_ => ∃ (i2 : Nat) (th : List Bool) (vrt : Value), mx_ = d.crs.length - i2 ∧ Env 188 [(1, .int .i64 (k : Int)), (2, .pointer (some ⟨gb1, 0, none⟩)), (4, .pointer (some ⟨gb2, 0, none⟩)), (10, .int .i64 (2 * (d.crs.length : Int))), (11, vrw2), (14, vrt), (15, .pointer (some ⟨gb4, 0, none⟩)), (16, .int .i64 (i2 : Int))] ax_ ∧ SH wx_ M X [Rs.box gb4 51 [.slice none 0 0, .int .i64 (d.loops + (cn (loB2 cl oc) (0 + 1) : Int))], Rs.row cdBool vrt th, Rs.row cdInt vrw2 cl, Rs.box gb2 51 [.slice none 0 0, .int .i64 0], Rs.box gb1 51 [.slice dcrsA d.crs.length dcrsc, .int .i64 d.loops]] ∧ i2 ≤ d.crs.length ∧ th.length = 2 * d.crs.length + 1 ∧ (∀ x, x < 2 * d.crs.length + 1 → ga th x = lfL cl (remN d k i2) (x : Int))) rfl ?_ ?_
      ·intro ax_ hax_
       refine ⟨_, ⟨0, _, _, rfl, hax_.sub ⟨rfl, rfl, rfl, rfl, rfl, rfl, rfl, rfl, trivial⟩, S39.pick [0, 1, 2, 3, 4] [_, _, _, _, _] (by decide) ⟨rfl, rfl, rfl, rfl, rfl, trivial⟩, ?hq5f0, ?hq5f1, ?hq5f2⟩⟩
       case hq5f0 => omega
       case hq5f1 => (rw [List.length_replicate]; omega)
       case hq5f2 => (intro x hx; rw [ga_rep _ _ _ (by omega)]; rfl)
      ·rintro m3 a3 w40 ⟨i2, th, vrt, rfl, he3, S40, hi2, htl, hth⟩
       clear S39
       refine ws_in he3 (c := SmoothOf_n58) rfl ?_
       clear he3 a3
       refine ws_seqN SmoothOf_n59 SmoothOf_n60 rfl rfl rfl ?_
       refine ws_seqN SmoothOf_n61 SmoothOf_n62 rfl rfl rfl ?_
       refine ws_region rfl ?_
       refine wlm 0 1 rfl rfl rfl rfl rfl rfl rfl ?_
       refine wlo 1 2 rfl rfl rfl (wo_run rfl rfl (run_fieldAddr rfl rfl Try.underlying51 rfl (ce49) (nf49)) ?_)
       refine wlo 2 3 rfl rfl rfl (wo_run rfl rfl (run_load1 rfl rfl Try.underlying49 rfl (S40.boxc (i := 4) rfl rfl)) ?_)
       refine wlo 3 4 rfl rfl rfl (wo_run rfl rfl (run_len rfl rfl rfl rfl rfl rfl Try.underlying49) ?_)
       refine wlo 4 5 rfl rfl rfl (wo_run rfl rfl (run_lss rfl rfl rfl) ?_)
       refine wl_end rfl ?_
       refine nm_sub [(1, _), (2, _), (4, _), (10, _), (11, _), (14, _), (15, _), (16, _), (84, _)] ⟨rfl, rfl, rfl, rfl, rfl, rfl, rfl, rfl, rfl, trivial⟩ ?_
       refine nm_thn ?_
       refine ws_condN SmoothOf_n63 SmoothOf_n64 rfl rfl rfl rfl (fun hb84 => ?_) (fun hb84 => ?_)
       ·replace hb84 := of_decide_eq_true hb84
        refine ws_skip rfl ?_
        refine nm_sub [(1, _), (2, _), (4, _), (10, _), (11, _), (14, _), (15, _), (16, _)] ⟨rfl, rfl, rfl, rfl, rfl, rfl, rfl, rfl, trivial⟩ ?_
        refine nm_thn ?_
        refine ws_seqN SmoothOf_n65 SmoothOf_n66 rfl rfl rfl ?_
        refine ws_blockN SmoothOf_n67 5 rfl rfl rfl ?_
        refine ws_seqN SmoothOf_n68 SmoothOf_n69 rfl rfl rfl ?_
        refine ws_seqN SmoothOf_n70 SmoothOf_n71 rfl rfl rfl ?_
        refine ws_region rfl ?_
        refine wlm 0 1 rfl rfl rfl rfl rfl rfl rfl ?_
        refine wlm 1 2 rfl rfl rfl rfl rfl rfl rfl ?_
        refine wlo 2 3 rfl rfl rfl (wo_run rfl rfl (run_eql rfl rfl rfl) ?_)
        refine wl_end rfl ?_
        refine nm_sub [(1, _), (2, _), (4, _), (10, _), (11, _), (14, _), (15, _), (16, _), (89, _)] ⟨rfl, rfl, rfl, rfl, rfl, rfl, rfl, rfl, rfl, trivial⟩ ?_
        refine nm_thn ?_
        refine ws_condN SmoothOf_n72 SmoothOf_n73 rfl rfl rfl rfl (fun hb89 => ?_) (fun hb89 => ?_)
        ·replace hb89 := of_decide_eq_true hb89
         refine ws_exit rfl rfl ?_
         refine nm_sub [(1, _), (2, _), (4, _), (10, _), (11, _), (14, _), (15, _), (16, _)] ⟨rfl, rfl, rfl, rfl, rfl, rfl, rfl, rfl, trivial⟩ ?_
         refine nm_thn ?_
         refine ws_region rfl ?_
         refine wlm 0 1 rfl rfl rfl rfl rfl rfl rfl ?_
         refine wlo 1 2 rfl rfl rfl (wo_run rfl rfl (run_add rfl rfl rfl (by first | omega | (simp only [lens]; omega))) ?_)
         refine wla 2 3 rfl rfl rfl rfl rfl rfl rfl ?_
         refine wl_end rfl ?_
         refine nm_lp ?_
         intro ax_ hax_
         refine ⟨_, ?hq6m, ⟨i2 + 1, _, _, rfl, hax_.sub ⟨rfl, rfl, rfl, rfl, rfl, rfl, rfl, rfl, trivial⟩, S40.pick [0, 1, 2, 3, 4] [_, _, _, _, _] (by decide) ⟨rfl, rfl, rfl, rfl, rfl, trivial⟩, ?hq6f0, ?hq6f1, ?hq6f2⟩⟩
         case hq6f0 => omega
         case hq6f1 => assumption
         case hq6f2 => first | (intro x hx; rw [remN, if_pos (by omega)]; exact hth x hx) | (intro x hx; rw [remN, if_neg (by omega), lfL_snoc, htc x hx, show s3 = 4 by omega])
         case hq6m => omega
        ·replace hb89 := of_decide_eq_false hb89
         refine ws_skip rfl ?_
         refine nm_sub [(1, _), (2, _), (4, _), (10, _), (11, _), (14, _), (15, _), (16, _)] ⟨rfl, rfl, rfl, rfl, rfl, rfl, rfl, rfl, trivial⟩ ?_
         refine nm_thn ?_
         refine ws_seqN SmoothOf_n74 SmoothOf_n75 rfl rfl rfl ?_
         refine ws_region rfl ?_
         refine wla 0 1 rfl rfl rfl rfl rfl rfl rfl ?_
         refine wl_end rfl ?_
         refine nm_thn ?_
         refine ws_blockN SmoothOf_n76 6 rfl rfl rfl ?_
         refine ws_loopE (fun mx_ ax_ wx_ => ∃ (s3 : Nat) (tc : List Bool) (vrt3 : Value), mx_ = 4 - s3 ∧ Env 188 [(1, .int .i64 (k : Int)), (2, .pointer (some ⟨gb1, 0, none⟩)), (4, .pointer (some ⟨gb2, 0, none⟩)), (10, .int .i64 (2 * (d.crs.length : Int))), (11, vrw2), (14, vrt3), (15, .pointer (some ⟨gb4, 0, none⟩)), (16, .int .i64 (i2 : Int)), (17, .int .i64 (s3 : Int))] ax_ ∧ SH wx_ M X [Rs.box gb4 51 [.slice none 0 0, .int .i64 (d.loops + (cn (loB2 cl oc) (0 + 1) : Int))], Rs.row cdBool vrt3 tc, Rs.row cdInt vrw2 cl, Rs.box gb2 51 [.slice none 0 0, .int .i64 0], Rs.box gb1 51 [.slice dcrsA d.crs.length dcrsc, .int .i64 d.loops]] ∧ s3 ≤ 4 ∧ tc.length = 2 * d.crs.length + 1 ∧ (∀ x, x < 2 * d.crs.length + 1 → ga tc x = (lfL cl (remN d k i2) (x : Int) || lf1 cl (ga d.crs i2) s3 (x : Int)))) rfl ?_ ?_
         ·intro ax_ hax_
          refine ⟨_, ⟨0, _, _, rfl, hax_.sub ⟨rfl, rfl, rfl, rfl, rfl, rfl, rfl, rfl, rfl, trivial⟩, S40.pick [0, 1, 2, 3, 4] [_, _, _, _, _] (by decide) ⟨rfl, rfl, rfl, rfl, rfl, trivial⟩, ?hq7f0, ?hq7f1, ?hq7f2⟩⟩
          case hq7f0 => omega
          case hq7f1 => exact htl
          case hq7f2 => (intro x hx; rw [lf1, Bool.or_false]; exact hth x hx)
         ·rintro m4 a4 w41 ⟨s3, tc, vrt3, rfl, he4, S41, hs3, htcl, htc⟩
          clear S40
          refine ws_in he4 (c := SmoothOf_n77) rfl ?_
          clear he4 a4
          have hab3 := fun h => arcAt_bd hab (i := i2) (by omega) (k := s3) h
          refine ws_seqN SmoothOf_n78 SmoothOf_n79 rfl rfl rfl ?_
          refine ws_seqN SmoothOf_n80 SmoothOf_n81 rfl rfl rfl ?_
          refine ws_region rfl ?_
          refine wlm 0 1 rfl rfl rfl rfl rfl rfl rfl ?_
          refine wlo 1 2 rfl rfl rfl (wo_run rfl rfl (run_lss rfl rfl rfl) ?_)
          refine wl_end rfl ?_
          refine nm_sub [(1, _), (2, _), (4, _), (10, _), (11, _), (14, _), (15, _), (16, _), (17, _), (91, _)] ⟨rfl, rfl, rfl, rfl, rfl, rfl, rfl, rfl, rfl, rfl, trivial⟩ ?_
          refine nm_thn ?_
          refine ws_condN SmoothOf_n82 SmoothOf_n83 rfl rfl rfl rfl (fun hb91 => ?_) (fun hb91 => ?_)
          ·replace hb91 := of_decide_eq_true hb91
           refine ws_skip rfl ?_
           refine nm_sub [(1, _), (2, _), (4, _), (10, _), (11, _), (14, _), (15, _), (16, _), (17, _)] ⟨rfl, rfl, rfl, rfl, rfl, rfl, rfl, rfl, rfl, trivial⟩ ?_
           refine nm_thn ?_
           refine ws_seqN SmoothOf_n84 SmoothOf_n85 rfl rfl rfl ?_
           refine ws_blockN SmoothOf_n86 7 rfl rfl rfl ?_
           have hab3s := hab3 (by omega)
           have hok3 := hok (arcAt d i2 s3).toNat (by omega)
           refine ws_region rfl ?_
           refine wlm 0 1 rfl rfl rfl rfl rfl rfl rfl ?_
           refine wlm 1 2 rfl rfl rfl rfl rfl rfl rfl ?_
           refine wlo 2 3 rfl rfl rfl (wo_run rfl rfl (run_loadN (us := [_, _]) rfl rfl Try.underlying51 rfl sz51 (S41.boxcs (i := 4) rfl ⟨rfl, rfl, trivial⟩)) ?_)
           refine wlm 3 4 rfl rfl rfl rfl rfl rfl rfl ?_
           refine wlm 4 5 rfl rfl rfl rfl rfl rfl rfl ?_
           refine wlo 5 6 rfl rfl rfl (wo_run rfl rfl (run_build (l := [_, _]) rfl rfl st120 rfl rfl) ?_)
           refine wlo 6 7 rfl rfl rfl (wo_cq rfl rfl rfl rfl rfl rfl rfl cf84 S41 (ArcAt_q d i2 s3 (hdcrs.mono S41.un_XH) (by omega) (by omega) S41.lend) ?_)
           rintro _ w42 S42 rfl; clear S41
           refine wlo 7 8 rfl rfl rfl (wo_run rfl rfl (run_indexR (C := cdInt) (i := 2) ((arcAt d i2 s3).toNat) rfl rfl rfl sl36 S42 rfl (by first | rfl | omega) (by first | omega | (simp only [lens]; omega))) ?_)
           refine wlo 8 9 rfl rfl rfl (wo_run rfl rfl (run_load1 rfl rfl Try.underlying3 rfl (S42.rowc (i := 2) (e := (arcAt d i2 s3).toNat) (j := 0) rfl (by first | omega | (simp only [lens]; omega)) rfl rfl)) ?_)
           refine wlo 9 10 rfl rfl rfl (wo_run rfl rfl (run_indexR (C := cdBool) (i := 1) ((ga cl ((arcAt d i2 s3).toNat)).toNat) rfl rfl rfl sl117 S42 rfl (by first | rfl | omega) (by first | omega | (simp only [lens]; omega))) ?_)
           refine wlo 10 11 rfl rfl rfl (wo_storeR (C := cdBool) (i := 1) (e := (ga cl ((arcAt d i2 s3).toNat)).toNat) (j := 0) (us := [_]) (H' := [_, _, _, _, _]) true rfl rfl S42 rfl (by first | omega | (simp only [lens]; omega)) rfl rfl rfl sz4 rfl rfl rfl rfl ?_)
           intro w43 S43; clear S42
           refine wl_end rfl ?_
           refine nm_blk ?_
           refine nm_sub [(1, _), (2, _), (4, _), (10, _), (11, _), (14, _), (15, _), (16, _), (17, _)] ⟨rfl, rfl, rfl, rfl, rfl, rfl, rfl, rfl, rfl, trivial⟩ ?_
           refine nm_thn ?_
           refine ws_region rfl ?_
           refine wlm 0 1 rfl rfl rfl rfl rfl rfl rfl ?_
           refine wlo 1 2 rfl rfl rfl (wo_run rfl rfl (run_add rfl rfl rfl (by first | omega | (simp only [lens]; omega))) ?_)
           refine wla 2 3 rfl rfl rfl rfl rfl rfl rfl ?_
           refine wl_end rfl ?_
           refine nm_lp ?_
           intro ax_ hax_
           refine ⟨_, ?hq8m, ⟨s3 + 1, _, _, rfl, hax_.sub ⟨rfl, rfl, rfl, rfl, rfl, rfl, rfl, rfl, rfl, trivial⟩, S43.pick [0, 1, 2, 3, 4] [_, _, _, _, _] (by decide) ⟨rfl, rfl, rfl, rfl, rfl, trivial⟩, ?hq8f0, ?hq8f1, ?hq8f2⟩⟩
           case hq8f0 => omega
           case hq8f1 => simpa using htcl
           case hq8f2 => (intro x hx; have hq := htc x hx; rw [ga_set _ _ _ _ (by omega), lf1]; by_cases e9 : (x : Int) = ga cl (crArc (ga d.crs i2) s3).toNat; (rw [if_pos (show (ga cl (arcAt d i2 s3).toNat).toNat = x by unfold arcAt; omega)]; simp [e9]); (rw [if_neg (show ¬ (ga cl (arcAt d i2 s3).toNat).toNat = x by (unfold arcAt at *; omega)), hq]; simp [e9]))
           case hq8m => omega
          ·replace hb91 := of_decide_eq_false hb91
           refine ws_exit rfl rfl ?_
           refine nm_blk ?_
           refine nm_sub [(1, _), (2, _), (4, _), (10, _), (11, _), (14, _), (15, _), (16, _)] ⟨rfl, rfl, rfl, rfl, rfl, rfl, rfl, rfl, trivial⟩ ?_
           refine nm_thn ?_
           refine ws_region rfl ?_
           refine wlm 0 1 rfl rfl rfl rfl rfl rfl rfl ?_
           refine wlo 1 2 rfl rfl rfl (wo_run rfl rfl (run_add rfl rfl rfl (by first | omega | (simp only [lens]; omega))) ?_)
           refine wla 2 3 rfl rfl rfl rfl rfl rfl rfl ?_
           refine wl_end rfl ?_
           refine nm_lp ?_
           intro ax_ hax_
           refine ⟨_, ?hq9m, ⟨i2 + 1, _, _, rfl, hax_.sub ⟨rfl, rfl, rfl, rfl, rfl, rfl, rfl, rfl, trivial⟩, S41.pick [0, 1, 2, 3, 4] [_, _, _, _, _] (by decide) ⟨rfl, rfl, rfl, rfl, rfl, trivial⟩, ?hq9f0, ?hq9f1, ?hq9f2⟩⟩
           case hq9f0 => omega
           case hq9f1 => assumption
           case hq9f2 => first | (intro x hx; rw [remN, if_pos (by omega)]; exact hth x hx) | (intro x hx; rw [remN, if_neg (by omega), lfL_snoc, htc x hx, show s3 = 4 by omega])
           case hq9m => omega
       ·replace hb84 := of_decide_eq_false hb84
        refine ws_exit rfl rfl ?_
        refine nm_sub [(1, _), (2, _), (4, _), (10, _), (11, _), (14, _), (15, _)] ⟨rfl, rfl, rfl, rfl, rfl, rfl, rfl, trivial⟩ ?_
        refine nm_thn ?_
        refine ws_seqN SmoothOf_n87 SmoothOf_n88 rfl rfl rfl ?_
        obtain rfl : i2 = d.crs.length := by omega
        have hlf : ∀ x, x < 2 * d.crs.length + 1 → ga th x = lfL cl oc (x : Int) := fun x hx => by rw [hocf]; exact hth x hx
        clear hth
        refine ws_region rfl ?_
        refine wlm 0 1 rfl rfl rfl rfl rfl rfl rfl ?_
        refine wlo 1 2 rfl rfl rfl (wo_run rfl rfl (run_add rfl rfl rfl (by first | omega | (simp only [lens]; omega))) ?_)
        refine wlo 2 3 rfl rfl rfl (wo_make (C := cdInt) ((2 * (d.crs.length : Int)).toNat + 1) rfl rfl rfl rfl rfl sl36 (by first | rfl | omega) (by show _ * 8 ≤ _; first | omega | (simp only [lens]; omega)) S40 ?_)
        intro vr3 w44 S44; clear S40
        refine wla 3 4 rfl rfl rfl rfl rfl rfl rfl ?_
        refine wl_end rfl ?_
        refine nm_sub [(1, _), (2, _), (4, _), (10, _), (11, _), (14, _), (15, _), (18, _)] ⟨rfl, rfl, rfl, rfl, rfl, rfl, rfl, rfl, trivial⟩ ?_
        refine nm_thn ?_
        refine ws_seqN SmoothOf_n89 SmoothOf_n90 rfl rfl rfl ?_
        refine ws_region rfl ?_
        refine wla 0 1 rfl rfl rfl rfl rfl rfl rfl ?_
        refine wl_end rfl ?_
        refine nm_thn ?_
        refine ws_seqN SmoothOf_n91 SmoothOf_n92 rfl rfl rfl ?_
        refine ws_seqN SmoothOf_n93 SmoothOf_n94 rfl rfl rfl ?_
        refine ws_region rfl ?_
        refine wla 0 1 rfl rfl rfl rfl rfl rfl rfl ?_
        refine wl_end rfl ?_
        refine nm_thn ?_
        refine ws_blockN SmoothOf_n95 8 rfl rfl rfl ?_
        refine ws_loopE (fun mx_ ax_ wx_ => ∃ (a6 : Nat) (nu : List Int) (vrn : Value), mx_ = 2 * d.crs.length - a6 ∧ Env 188 [(1, .int .i64 (k : Int)), (2, .pointer (some ⟨gb1, 0, none⟩)), (4, .pointer (some ⟨gb2, 0, none⟩)), (10, .int .i64 (2 * (d.crs.length : Int))), (11, vrw2), (14, vrt), (15, .pointer (some ⟨gb4, 0, none⟩)), (18, vrn), (19, .int .i64 ((cn (rtB2 cl oc) (a6 + 1) + 1 : Nat) : Int)), (20, .int .i64 ((a6 + 1 : Nat) : Int))] ax_ ∧ SH wx_ M X [Rs.row cdInt vrn nu, Rs.box gb4 51 [.slice none 0 0, .int .i64 (d.loops + (cn (loB2 cl oc) (a6 + 1) : Int))], Rs.row cdBool vrt th, Rs.row cdInt vrw2 cl, Rs.box gb2 51 [.slice none 0 0, .int .i64 0], Rs.box gb1 51 [.slice dcrsA d.crs.length dcrsc, .int .i64 d.loops]] ∧ a6 ≤ 2 * d.crs.length ∧ nu.length = 2 * d.crs.length + 1 ∧ (∀ x, x < a6 + 1 → rtB2 cl oc x = true → ga nu x = (cn (rtB2 cl oc) (x + 1) : Int))) rfl ?_ ?_
        ·intro ax_ hax_
         refine ⟨_, ⟨0, _, _, rfl, hax_.sub ⟨rfl, rfl, rfl, rfl, rfl, rfl, rfl, rfl, rfl, rfl, trivial⟩, S44.pick [0, 1, 2, 3, 4, 5] [_, _, _, _, _, _] (by decide) ⟨rfl, rfl, rfl, rfl, rfl, rfl, trivial⟩, ?hq10f0, ?hq10f1, ?hq10f2⟩⟩
         case hq10f0 => omega
         case hq10f1 => (rw [List.length_replicate]; omega)
         case hq10f2 => (intro x hx h9; obtain rfl : x = 0 := (by omega); cases h9)
        ·rintro m5 a5 w45 ⟨a6, nu, vrn, rfl, he5, S45, ha6, hnl, hnu⟩
         clear S44
         refine ws_in he5 (c := SmoothOf_n96) rfl ?_
         clear he5 a5
         have hcn1 := cn_le (rtB2 cl oc) (a6 + 1)
         have hcn2 := cn_le (loB2 cl oc) (a6 + 1)
         have hok6 := fun h => hok (a6 + 1) h
         refine ws_seqN SmoothOf_n97 SmoothOf_n98 rfl rfl rfl ?_
         refine ws_seqN SmoothOf_n99 SmoothOf_n100 rfl rfl rfl ?_
         refine ws_region rfl ?_
         refine wlm 0 1 rfl rfl rfl rfl rfl rfl rfl ?_
         refine wlm 1 2 rfl rfl rfl rfl rfl rfl rfl ?_
         refine wlo 2 3 rfl rfl rfl (wo_run rfl rfl (run_leq rfl rfl rfl) ?_)
         refine wl_end rfl ?_
         refine nm_sub [(1, _), (2, _), (4, _), (10, _), (11, _), (14, _), (15, _), (18, _), (19, _), (20, _), (109, _)] ⟨rfl, rfl, rfl, rfl, rfl, rfl, rfl, rfl, rfl, rfl, rfl, trivial⟩ ?_
         refine nm_thn ?_
         refine ws_condN SmoothOf_n101 SmoothOf_n102 rfl rfl rfl rfl (fun hb109 => ?_) (fun hb109 => ?_)
         ·replace hb109 := of_decide_eq_true hb109
          refine ws_skip rfl ?_
          refine nm_sub [(1, _), (2, _), (4, _), (10, _), (11, _), (14, _), (15, _), (18, _), (19, _), (20, _)] ⟨rfl, rfl, rfl, rfl, rfl, rfl, rfl, rfl, rfl, rfl, trivial⟩ ?_
          refine nm_thn ?_
          refine ws_seqN SmoothOf_n103 SmoothOf_n104 rfl rfl rfl ?_
          refine ws_blockN SmoothOf_n105 9 rfl rfl rfl ?_
          refine ws_seqN SmoothOf_n106 SmoothOf_n107 rfl rfl rfl ?_
          refine ws_region rfl ?_
          refine wlm 0 1 rfl rfl rfl rfl rfl rfl rfl ?_
          refine wlm 1 2 rfl rfl rfl rfl rfl rfl rfl ?_
          refine wlo 2 3 rfl rfl rfl (wo_run rfl rfl (run_indexR (C := cdBool) (i := 2) (a6 + 1) rfl rfl rfl sl117 S45 rfl (by first | rfl | omega) (by first | omega | (simp only [lens]; omega))) ?_)
          refine wlo 3 4 rfl rfl rfl (wo_run rfl rfl (run_load1 rfl rfl Try.underlying4 rfl (S45.rowc (i := 2) (e := a6 + 1) (j := 0) rfl (by first | omega | (simp only [lens]; omega)) rfl rfl)) ?_)
          refine wl_end rfl ?_
          refine nm_sub [(1, _), (2, _), (4, _), (10, _), (11, _), (14, _), (15, _), (18, _), (19, _), (20, _), (115, _)] ⟨rfl, rfl, rfl, rfl, rfl, rfl, rfl, rfl, rfl, rfl, rfl, trivial⟩ ?_
          refine nm_thn ?_
          refine ws_condN SmoothOf_n108 SmoothOf_n109 rfl rfl rfl rfl (fun hb115 => ?_) (fun hb115 => ?_)
          ·have hlx := hlf (a6 + 1) (by omega)
           obtain ⟨hq1, hq2, hq3⟩ := lf_root hab hk (x := a6 + 1) (by rw [← hclf, ← hocf, ← hlx]; exact hb115)
           rw [← hclf] at hq3
           have hrt : rtB2 cl oc (a6 + 1) = true := by unfold rtB2; rw [decide_eq_true hq3, ← hlx]; simp; exact hb115
           have hlo : loB2 cl oc (a6 + 1) = false := by unfold loB2; rw [← hlx]; simp; intro _; exact hb115
           refine ws_seqN SmoothOf_n110 SmoothOf_n111 rfl rfl rfl ?_
           refine ws_region rfl ?_
           refine wlm 0 1 rfl rfl rfl rfl rfl rfl rfl ?_
           refine wlm 1 2 rfl rfl rfl rfl rfl rfl rfl ?_
           refine wlm 2 3 rfl rfl rfl rfl rfl rfl rfl ?_
           refine wlo 3 4 rfl rfl rfl (wo_run rfl rfl (run_indexR (C := cdInt) (i := 0) (a6 + 1) rfl rfl rfl sl36 S45 rfl (by first | rfl | omega) (by first | omega | (simp only [lens]; omega))) ?_)
           refine wlo 4 5 rfl rfl rfl (wo_storeR (C := cdInt) (i := 0) (e := a6 + 1) (j := 0) (us := [_]) (H' := [_, _, _, _, _, _]) ((cn (rtB2 cl oc) (a6 + 1) + 1 : Nat) : Int) rfl rfl S45 rfl (by first | omega | (simp only [lens]; omega)) rfl rfl rfl sz3 rfl rfl rfl rfl ?_)
           intro w46 S46; clear S45
           refine wl_end rfl ?_
           refine nm_sub [(1, _), (2, _), (4, _), (10, _), (11, _), (14, _), (15, _), (18, _), (19, _), (20, _)] ⟨rfl, rfl, rfl, rfl, rfl, rfl, rfl, rfl, rfl, rfl, trivial⟩ ?_
           refine nm_thn ?_
           refine ws_region rfl ?_
           refine wlm 0 1 rfl rfl rfl rfl rfl rfl rfl ?_
           refine wlo 1 2 rfl rfl rfl (wo_run rfl rfl (run_add rfl rfl rfl (by first | omega | (simp only [lens]; omega))) ?_)
           refine wla 2 3 rfl rfl rfl rfl rfl rfl rfl ?_
           refine wl_end rfl ?_
           refine nm_blk ?_
           refine nm_sub [(1, _), (2, _), (4, _), (10, _), (11, _), (14, _), (15, _), (18, _), (19, _), (20, _)] ⟨rfl, rfl, rfl, rfl, rfl, rfl, rfl, rfl, rfl, rfl, trivial⟩ ?_
           refine nm_thn ?_
           refine ws_eq 19 (.int .i64 ((cn (rtB2 cl oc) (a6 + 1 + 1) + 1 : Nat) : Int)) rfl (int_eq (by rw [cn_yes hrt]; omega)) ?_
           rw [← cn_no hlo] at S46
           refine ws_region rfl ?_
           refine wlm 0 1 rfl rfl rfl rfl rfl rfl rfl ?_
           refine wlo 1 2 rfl rfl rfl (wo_run rfl rfl (run_add rfl rfl rfl (by first | omega | (simp only [lens]; omega))) ?_)
           refine wla 2 3 rfl rfl rfl rfl rfl rfl rfl ?_
           refine wl_end rfl ?_
           refine nm_lp ?_
           intro ax_ hax_
           refine ⟨_, ?hq11m, ⟨a6 + 1, _, _, rfl, hax_.sub ⟨rfl, rfl, rfl, rfl, rfl, rfl, rfl, rfl, rfl, rfl, trivial⟩, S46.pick [0, 1, 2, 3, 4, 5] [_, _, _, _, _, _] (by decide) ⟨rfl, rfl, rfl, rfl, rfl, rfl, trivial⟩, ?hq11f0, ?hq11f1, ?hq11f2⟩⟩
           case hq11f0 => omega
           case hq11f1 => first | assumption | simpa using hnl
           case hq11f2 => first | (intro x hx h9; by_cases e : x = a6 + 1; (subst e; rw [ga_set _ _ _ _ (by omega), if_pos rfl, cn_yes h9]); (rw [ga_set _ _ _ _ (by omega), if_neg (fun h => e h.symm)]; exact hnu x (by omega) h9)) | (intro x hx h9; by_cases e : x = a6 + 1; (subst e; rw [hrt] at h9; cases h9); exact hnu x (by omega) h9)
           case hq11m => omega
          ·refine ws_seqN SmoothOf_n112 SmoothOf_n113 rfl rfl rfl ?_
           refine ws_region rfl ?_
           refine wlm 0 1 rfl rfl rfl rfl rfl rfl rfl ?_
           refine wlm 1 2 rfl rfl rfl rfl rfl rfl rfl ?_
           refine wlo 2 3 rfl rfl rfl (wo_run rfl rfl (run_indexR (C := cdInt) (i := 3) (a6 + 1) rfl rfl rfl sl36 S45 rfl (by first | rfl | omega) (by first | omega | (simp only [lens]; omega))) ?_)
           refine wlo 3 4 rfl rfl rfl (wo_run rfl rfl (run_load1 rfl rfl Try.underlying3 rfl (S45.rowc (i := 3) (e := a6 + 1) (j := 0) rfl (by first | omega | (simp only [lens]; omega)) rfl rfl)) ?_)
           refine wlm 4 5 rfl rfl rfl rfl rfl rfl rfl ?_
           refine wlo 5 6 rfl rfl rfl (wo_run rfl rfl (run_eql rfl rfl rfl) ?_)
           refine wl_end rfl ?_
           refine nm_sub [(1, _), (2, _), (4, _), (10, _), (11, _), (14, _), (15, _), (18, _), (19, _), (20, _), (127, _)] ⟨rfl, rfl, rfl, rfl, rfl, rfl, rfl, rfl, rfl, rfl, rfl, trivial⟩ ?_
           refine nm_thn ?_
           refine ws_condN SmoothOf_n114 SmoothOf_n115 rfl rfl rfl rfl (fun hb127 => ?_) (fun hb127 => ?_)
           ·replace hb127 := of_decide_eq_true hb127
            have hlx := hlf (a6 + 1) (by omega)
            have hrt : rtB2 cl oc (a6 + 1) = false := by unfold rtB2; rw [← hlx]; simp; intro _; exact hb115
            have hlo : loB2 cl oc (a6 + 1) = true := by unfold loB2; rw [decide_eq_true (show ga cl (a6 + 1) = ((a6 + 1 : Nat) : Int) from hb127), ← hlx]; simp; exact hb115
            refine ws_region rfl ?_
            refine wlo 0 1 rfl rfl rfl (wo_run rfl rfl (run_fieldAddr rfl rfl Try.underlying51 rfl (ce3) (nf3)) ?_)
            refine wlo 1 2 rfl rfl rfl (wo_run rfl rfl (run_load1 rfl rfl Try.underlying3 rfl (S45.boxc (i := 1) rfl rfl)) ?_)
            refine wlo 2 3 rfl rfl rfl (wo_run rfl rfl (run_add rfl rfl rfl (by first | omega | (simp only [lens]; omega))) ?_)
            refine wlo 3 4 rfl rfl rfl (wo_run rfl rfl (run_fieldAddr rfl rfl Try.underlying51 rfl (ce3) (nf3)) ?_)
            refine wlo 4 5 rfl rfl rfl (wo_storeB (i := 1) (us := [_]) (l' := [_, _]) (H' := [_, _, _, _, _, _]) rfl rfl S45 rfl rfl rfl rfl sz3 rfl rfl rfl rfl ?_)
            intro w47 S47; clear S45
            refine wl_end rfl ?_
            refine nm_blk ?_
            refine nm_sub [(1, _), (2, _), (4, _), (10, _), (11, _), (14, _), (15, _), (18, _), (19, _), (20, _)] ⟨rfl, rfl, rfl, rfl, rfl, rfl, rfl, rfl, rfl, rfl, trivial⟩ ?_
            refine nm_thn ?_
            refine ws_eq 19 (.int .i64 ((cn (rtB2 cl oc) (a6 + 1 + 1) + 1 : Nat) : Int)) rfl (int_eq (by rw [cn_no hrt])) ?_
            rw [cast_add, ← cn_yes hlo] at S47
            refine ws_region rfl ?_
            refine wlm 0 1 rfl rfl rfl rfl rfl rfl rfl ?_
            refine wlo 1 2 rfl rfl rfl (wo_run rfl rfl (run_add rfl rfl rfl (by first | omega | (simp only [lens]; omega))) ?_)
            refine wla 2 3 rfl rfl rfl rfl rfl rfl rfl ?_
            refine wl_end rfl ?_
            refine nm_lp ?_
            intro ax_ hax_
            refine ⟨_, ?hq12m, ⟨a6 + 1, _, _, rfl, hax_.sub ⟨rfl, rfl, rfl, rfl, rfl, rfl, rfl, rfl, rfl, rfl, trivial⟩, S47.pick [0, 1, 2, 3, 4, 5] [_, _, _, _, _, _] (by decide) ⟨rfl, rfl, rfl, rfl, rfl, rfl, trivial⟩, ?hq12f0, ?hq12f1, ?hq12f2⟩⟩
            case hq12f0 => omega
            case hq12f1 => first | assumption | simpa using hnl
            case hq12f2 => first | (intro x hx h9; by_cases e : x = a6 + 1; (subst e; rw [ga_set _ _ _ _ (by omega), if_pos rfl, cn_yes h9]); (rw [ga_set _ _ _ _ (by omega), if_neg (fun h => e h.symm)]; exact hnu x (by omega) h9)) | (intro x hx h9; by_cases e : x = a6 + 1; (subst e; rw [hrt] at h9; cases h9); exact hnu x (by omega) h9)
            case hq12m => omega
           ·replace hb127 := of_decide_eq_false hb127
            have hlx := hlf (a6 + 1) (by omega)
            have hrt : rtB2 cl oc (a6 + 1) = false := by unfold rtB2; rw [← hlx]; simp; intro _; exact hb115
            have hlo : loB2 cl oc (a6 + 1) = false := by unfold loB2; rw [decide_eq_false (show ¬ ga cl (a6 + 1) = ((a6 + 1 : Nat) : Int) from hb127)]; simp
            refine ws_skip rfl ?_
            refine nm_blk ?_
            refine nm_sub [(1, _), (2, _), (4, _), (10, _), (11, _), (14, _), (15, _), (18, _), (19, _), (20, _)] ⟨rfl, rfl, rfl, rfl, rfl, rfl, rfl, rfl, rfl, rfl, trivial⟩ ?_
            refine nm_thn ?_
            refine ws_eq 19 (.int .i64 ((cn (rtB2 cl oc) (a6 + 1 + 1) + 1 : Nat) : Int)) rfl (int_eq (by rw [cn_no hrt])) ?_
            rw [← cn_no hlo] at S45
            refine ws_region rfl ?_
            refine wlm 0 1 rfl rfl rfl rfl rfl rfl rfl ?_
            refine wlo 1 2 rfl rfl rfl (wo_run rfl rfl (run_add rfl rfl rfl (by first | omega | (simp only [lens]; omega))) ?_)
            refine wla 2 3 rfl rfl rfl rfl rfl rfl rfl ?_
            refine wl_end rfl ?_
            refine nm_lp ?_
            intro ax_ hax_
            refine ⟨_, ?hq13m, ⟨a6 + 1, _, _, rfl, hax_.sub ⟨rfl, rfl, rfl, rfl, rfl, rfl, rfl, rfl, rfl, rfl, trivial⟩, S45.pick [0, 1, 2, 3, 4, 5] [_, _, _, _, _, _] (by decide) ⟨rfl, rfl, rfl, rfl, rfl, rfl, trivial⟩, ?hq13f0, ?hq13f1, ?hq13f2⟩⟩
            case hq13f0 => omega
            case hq13f1 => first | assumption | simpa using hnl
            case hq13f2 => first | (intro x hx h9; by_cases e : x = a6 + 1; (subst e; rw [ga_set _ _ _ _ (by omega), if_pos rfl, cn_yes h9]); (rw [ga_set _ _ _ _ (by omega), if_neg (fun h => e h.symm)]; exact hnu x (by omega) h9)) | (intro x hx h9; by_cases e : x = a6 + 1; (subst e; rw [hrt] at h9; cases h9); exact hnu x (by omega) h9)
            case hq13m => omega
         ·replace hb109 := of_decide_eq_false hb109
          refine ws_exit rfl rfl ?_
          refine nm_sub [(1, _), (2, _), (4, _), (11, _), (15, _), (18, _)] ⟨rfl, rfl, rfl, rfl, rfl, rfl, trivial⟩ ?_
          refine nm_thn ?_
          refine ws_seqN SmoothOf_n116 SmoothOf_n117 rfl rfl rfl ?_
          refine ws_seqN SmoothOf_n118 SmoothOf_n119 rfl rfl rfl ?_
          obtain rfl : a6 = 2 * d.crs.length := by omega
          refine ws_region rfl ?_
          refine wla 0 1 rfl rfl rfl rfl rfl rfl rfl ?_
          refine wl_end rfl ?_
          refine nm_thn ?_
          refine ws_blockN SmoothOf_n120 10 rfl rfl rfl ?_
          have S48 := S45.nilrow cdCr; clear S45
          refine ws_loopE (fun mx_ ax_ wx_ => ∃ (i5 : Nat) (c5 : List Cr) (vr5 : Value), mx_ = d.crs.length - i5 ∧ Env 188 [(1, .int .i64 (k : Int)), (2, .pointer (some ⟨gb1, 0, none⟩)), (4, .pointer (some ⟨gb2, 0, none⟩)), (11, vrw2), (15, .pointer (some ⟨gb4, 0, none⟩)), (18, vrn), (21, .int .i64 (i5 : Int))] ax_ ∧ SH wx_ M X [Rs.row cdCr vr5 c5, Rs.row cdInt vrn nu, Rs.box gb4 51 [vr5, .int .i64 (d.loops + (cn (loB2 cl oc) (2 * d.crs.length + 1) : Int))], Rs.row cdInt vrw2 cl, Rs.box gb2 51 [.slice none 0 0, .int .i64 0], Rs.box gb1 51 [.slice dcrsA d.crs.length dcrsc, .int .i64 d.loops]] ∧ i5 ≤ d.crs.length ∧ c5 = (remN d k i5).map (nuC cl oc)) rfl ?_ ?_
          ·intro ax_ hax_
           refine ⟨_, ⟨0, _, _, rfl, hax_.sub ⟨rfl, rfl, rfl, rfl, rfl, rfl, rfl, trivial⟩, S48.pick [0, 1, 2, 4, 5, 6] [_, _, _, _, _, _] (by decide) ⟨rfl, rfl, rfl, rfl, rfl, rfl, trivial⟩, ?hq14f0, ?hq14f1⟩⟩
           case hq14f0 => omega
           case hq14f1 => rfl
          ·rintro m6 a6 w48 ⟨i5, c5, vr5, rfl, he6, S49, hi5, hc5⟩
           clear S48
           refine ws_in he6 (c := SmoothOf_n121) rfl ?_
           clear he6 a6
           have hcl5 : c5.length ≤ i5 := by rw [hc5, List.length_map]; exact remN_len _ _ _
           refine ws_seqN SmoothOf_n122 SmoothOf_n123 rfl rfl rfl ?_
           refine ws_seqN SmoothOf_n124 SmoothOf_n125 rfl rfl rfl ?_
           refine ws_region rfl ?_
           refine wlm 0 1 rfl rfl rfl rfl rfl rfl rfl ?_
           refine wlo 1 2 rfl rfl rfl (wo_run rfl rfl (run_fieldAddr rfl rfl Try.underlying51 rfl (ce49) (nf49)) ?_)
           refine wlo 2 3 rfl rfl rfl (wo_run rfl rfl (run_load1 rfl rfl Try.underlying49 rfl (S49.boxc (i := 5) rfl rfl)) ?_)
           refine wlo 3 4 rfl rfl rfl (wo_run rfl rfl (run_len rfl rfl rfl rfl rfl rfl Try.underlying49) ?_)
           refine wlo 4 5 rfl rfl rfl (wo_run rfl rfl (run_lss rfl rfl rfl) ?_)
           refine wl_end rfl ?_
           refine nm_sub [(1, _), (2, _), (4, _), (11, _), (15, _), (18, _), (21, _), (136, _)] ⟨rfl, rfl, rfl, rfl, rfl, rfl, rfl, rfl, trivial⟩ ?_
           refine nm_thn ?_
           refine ws_condN SmoothOf_n126 SmoothOf_n127 rfl rfl rfl rfl (fun hb136 => ?_) (fun hb136 => ?_)
           ·replace hb136 := of_decide_eq_true hb136
            refine ws_skip rfl ?_
            refine nm_sub [(1, _), (2, _), (4, _), (11, _), (15, _), (18, _), (21, _)] ⟨rfl, rfl, rfl, rfl, rfl, rfl, rfl, trivial⟩ ?_
            refine nm_thn ?_
            refine ws_seqN SmoothOf_n128 SmoothOf_n129 rfl rfl rfl ?_
            refine ws_blockN SmoothOf_n130 11 rfl rfl rfl ?_
            refine ws_seqN SmoothOf_n131 SmoothOf_n132 rfl rfl rfl ?_
            refine ws_region rfl ?_
            refine wlm 0 1 rfl rfl rfl rfl rfl rfl rfl ?_
            refine wlm 1 2 rfl rfl rfl rfl rfl rfl rfl ?_
            refine wlo 2 3 rfl rfl rfl (wo_run rfl rfl (run_neq rfl rfl rfl) ?_)
            refine wl_end rfl ?_
            refine nm_sub [(1, _), (2, _), (4, _), (11, _), (15, _), (18, _), (21, _), (141, _)] ⟨rfl, rfl, rfl, rfl, rfl, rfl, rfl, rfl, trivial⟩ ?_
            refine nm_thn ?_
            refine ws_condN SmoothOf_n133 SmoothOf_n134 rfl rfl rfl rfl (fun hb141 => ?_) (fun hb141 => ?_)
            ·replace hb141 := of_decide_eq_true hb141
             have hmem7 : ga d.crs i5 ∈ remL d k := rem_in (by omega) (by omega)
             have hside0 : 1 ≤ (ga d.crs i5).a ∧ (ga d.crs i5).a ≤ 2 * (d.crs.length : Int) := rem_arc hab (Nat.le_refl _) hmem7 (s := 0) (by omega)
             obtain ⟨hoo0, hpp0, _⟩ := hok (ga d.crs i5).a.toNat (by omega)
             have hside1 : 1 ≤ (ga d.crs i5).b ∧ (ga d.crs i5).b ≤ 2 * (d.crs.length : Int) := rem_arc hab (Nat.le_refl _) hmem7 (s := 1) (by omega)
             obtain ⟨hoo1, hpp1, _⟩ := hok (ga d.crs i5).b.toNat (by omega)
             have hside2 : 1 ≤ (ga d.crs i5).c ∧ (ga d.crs i5).c ≤ 2 * (d.crs.length : Int) := rem_arc hab (Nat.le_refl _) hmem7 (s := 2) (by omega)
             obtain ⟨hoo2, hpp2, _⟩ := hok (ga d.crs i5).c.toNat (by omega)
             have hside3 : 1 ≤ (ga d.crs i5).d ∧ (ga d.crs i5).d ≤ 2 * (d.crs.length : Int) := rem_arc hab (Nat.le_refl _) hmem7 (s := 3) (by omega)
             obtain ⟨hoo3, hpp3, _⟩ := hok (ga d.crs i5).d.toNat (by omega)
             have hnv : ∀ s, s < 4 → ga nu (ga cl (crArc (ga d.crs i5) s).toNat).toNat = nuA cl oc (crArc (ga d.crs i5) s) := fun s hs => by
              have := rem_nu hab hk (nu := nu) (by rw [← hclf, ← hocf]; exact hnu) hmem7 hs
              rw [← hclf, ← hocf] at this
              exact this
             refine ws_seqN SmoothOf_n135 SmoothOf_n136 rfl rfl rfl ?_
             refine ws_region rfl ?_
             refine wlo 0 1 rfl rfl rfl (wo_run rfl rfl (run_fieldAddr rfl rfl Try.underlying51 rfl (ce49) (nf49)) ?_)
             refine wlo 1 2 rfl rfl rfl (wo_run rfl rfl (run_load1 rfl rfl Try.underlying49 rfl (S49.boxc (i := 5) rfl rfl)) ?_)
             refine wlm 2 3 rfl rfl rfl rfl rfl rfl rfl ?_
             refine wlo 3 4 rfl rfl rfl (wo_run rfl rfl (run_indexM (C := cdCr) i5 rfl rfl rfl sl49 (by first | rfl | omega) hdcrs (by first | omega | (simp only [lens]; omega))) ?_)
             refine wlo 4 5 rfl rfl rfl (wo_run rfl rfl (run_loadN (us := [_, _, _, _, _]) rfl rfl Try.underlying108 rfl sz108 (hdcrs.cellsAt S49.um (e := i5) (by first | omega | (simp only [lens]; omega)) (j := 0) ⟨rfl, rfl, rfl, rfl, rfl, trivial⟩)) ?_)
             refine wlo 5 6 rfl rfl rfl (wo_alloc (l := [_, _, _, _, _]) rfl rfl rfl zr108 rfl S49 ?_)
             intro gb5 w49 S50; clear S49
             refine wlo 6 7 rfl rfl rfl (wo_storeB (i := 0) (us := [_, _, _, _, _]) (l' := [_, _, _, _, _]) (H' := [_, _, _, _, _, _, _]) rfl rfl S50 rfl rfl rfl rfl sz108 rfl rfl rfl rfl ?_)
             intro w50 S51; clear S50
             refine wl_end rfl ?_
             refine nm_sub [(1, _), (2, _), (4, _), (11, _), (15, _), (18, _), (21, _), (22, _)] ⟨rfl, rfl, rfl, rfl, rfl, rfl, rfl, rfl, trivial⟩ ?_
             refine nm_thn ?_
             refine ws_draw rfl (by kernel_rfl) S51 41 rfl ?_
             clear S51
             refine wa_takeP (i := 0) (d := 147) 40 rfl (by kernel_rfl) (by kernel_rfl) (by kernel_rfl) rfl rfl rfl (fun w51 => run_fieldAddr rfl rfl Try.underlying51 rfl (ce49) (nf49)) ?_
             refine wa_take (i := 1) (d := 148) 39 rfl (by kernel_rfl) (by kernel_rfl) (by kernel_rfl) rfl rfl rfl (fun M26 N26 w52 hle32 S53 => .inl (run_load1 rfl rfl Try.underlying49 rfl (S53.suf.boxc (i := 3) rfl rfl))) ?_
             refine wa_takeP (i := 2) (d := 149) 38 rfl (by kernel_rfl) (by kernel_rfl) (by kernel_rfl) rfl rfl rfl (fun w53 => run_move rfl rfl) ?_
             refine wa_takeP (i := 3) (d := 150) 37 rfl (by kernel_rfl) (by kernel_rfl) (by kernel_rfl) rfl rfl rfl (fun w54 => run_move rfl rfl) ?_
             refine wa_takeP (i := 4) (d := 151) 36 rfl (by kernel_rfl) (by kernel_rfl) (by kernel_rfl) rfl rfl rfl (fun w55 => run_fieldAddr rfl rfl Try.underlying108 rfl (ce3) (nf3)) ?_
             refine wa_take (i := 5) (d := 152) 35 rfl (by kernel_rfl) (by kernel_rfl) (by kernel_rfl) rfl rfl rfl (fun M30 N30 w56 hle36 S57 => .inl (run_load1 rfl rfl Try.underlying3 rfl (S57.suf.boxc (i := 0) rfl rfl))) ?_
             refine wa_take (i := 6) (d := 153) 34 rfl (by kernel_rfl) (by kernel_rfl) (by kernel_rfl) rfl rfl rfl (fun M31 N31 w57 hle37 S58 => .inl (run_indexR (C := cdInt) (i := 4) (((ga d.crs i5).a).toNat) rfl rfl rfl sl36 S58.suf rfl (by first | rfl | omega) (by first | omega | (simp only [lens]; omega)))) ?_
             refine wa_take (i := 7) (d := 154) 33 rfl (by kernel_rfl) (by kernel_rfl) (by kernel_rfl) rfl rfl rfl (fun M32 N32 w58 hle38 S59 => .inl (run_load1 rfl rfl Try.underlying3 rfl (S59.suf.rowc (i := 4) (e := ((ga d.crs i5).a).toNat) (j := 0) rfl (by first | omega | (simp only [lens]; omega)) rfl rfl))) ?_
             refine wa_take (i := 8) (d := 155) 32 rfl (by kernel_rfl) (by kernel_rfl) (by kernel_rfl) rfl rfl rfl (fun M33 N33 w59 hle39 S60 => .inl (run_indexR (C := cdInt) (i := 2) ((ga cl (((ga d.crs i5).a).toNat)).toNat) rfl rfl rfl sl36 S60.suf rfl (by first | rfl | omega) (by first | omega | (simp only [lens]; omega)))) ?_
             refine wa_take (i := 9) (d := 156) 31 rfl (by kernel_rfl) (by kernel_rfl) (by kernel_rfl) rfl rfl rfl (fun M34 N34 w60 hle40 S61 => .inl (run_load1 rfl rfl Try.underlying3 rfl (S61.suf.rowc (i := 2) (e := (ga cl (((ga d.crs i5).a).toNat)).toNat) (j := 0) rfl (by first | omega | (simp only [lens]; omega)) rfl rfl))) ?_
             refine wa_takeP (i := 10) (d := 157) 30 rfl (by kernel_rfl) (by kernel_rfl) (by kernel_rfl) rfl rfl rfl (fun w61 => run_move rfl rfl) ?_
             refine wa_takeP (i := 11) (d := 158) 29 rfl (by kernel_rfl) (by kernel_rfl) (by kernel_rfl) rfl rfl rfl (fun w62 => run_move rfl rfl) ?_
             refine wa_takeP (i := 12) (d := 159) 28 rfl (by kernel_rfl) (by kernel_rfl) (by kernel_rfl) rfl rfl rfl (fun w63 => run_fieldAddr rfl rfl Try.underlying108 rfl (ce3) (nf3)) ?_
             refine wa_take (i := 13) (d := 160) 27 rfl (by kernel_rfl) (by kernel_rfl) (by kernel_rfl) rfl rfl rfl (fun M38 N38 w64 hle44 S65 => .inl (run_load1 rfl rfl Try.underlying3 rfl (S65.suf.boxc (i := 0) rfl rfl))) ?_
             refine wa_take (i := 14) (d := 161) 26 rfl (by kernel_rfl) (by kernel_rfl) (by kernel_rfl) rfl rfl rfl (fun M39 N39 w65 hle45 S66 => .inl (run_indexR (C := cdInt) (i := 4) (((ga d.crs i5).b).toNat) rfl rfl rfl sl36 S66.suf rfl (by first | rfl | omega) (by first | omega | (simp only [lens]; omega)))) ?_
             refine wa_take (i := 15) (d := 162) 25 rfl (by kernel_rfl) (by kernel_rfl) (by kernel_rfl) rfl rfl rfl (fun M40 N40 w66 hle46 S67 => .inl (run_load1 rfl rfl Try.underlying3 rfl (S67.suf.rowc (i := 4) (e := ((ga d.crs i5).b).toNat) (j := 0) rfl (by first | omega | (simp only [lens]; omega)) rfl rfl))) ?_
             refine wa_take (i := 16) (d := 163) 24 rfl (by kernel_rfl) (by kernel_rfl) (by kernel_rfl) rfl rfl rfl (fun M41 N41 w67 hle47 S68 => .inl (run_indexR (C := cdInt) (i := 2) ((ga cl (((ga d.crs i5).b).toNat)).toNat) rfl rfl rfl sl36 S68.suf rfl (by first | rfl | omega) (by first | omega | (simp only [lens]; omega)))) ?_
             refine wa_take (i := 17) (d := 164) 23 rfl (by kernel_rfl) (by kernel_rfl) (by kernel_rfl) rfl rfl rfl (fun M42 N42 w68 hle48 S69 => .inl (run_load1 rfl rfl Try.underlying3 rfl (S69.suf.rowc (i := 2) (e := (ga cl (((ga d.crs i5).b).toNat)).toNat) (j := 0) rfl (by first | omega | (simp only [lens]; omega)) rfl rfl))) ?_
             refine wa_takeP (i := 18) (d := 165) 22 rfl (by kernel_rfl) (by kernel_rfl) (by kernel_rfl) rfl rfl rfl (fun w69 => run_move rfl rfl) ?_
             refine wa_takeP (i := 19) (d := 166) 21 rfl (by kernel_rfl) (by kernel_rfl) (by kernel_rfl) rfl rfl rfl (fun w70 => run_move rfl rfl) ?_
             refine wa_takeP (i := 20) (d := 167) 20 rfl (by kernel_rfl) (by kernel_rfl) (by kernel_rfl) rfl rfl rfl (fun w71 => run_fieldAddr rfl rfl Try.underlying108 rfl (ce3) (nf3)) ?_
             refine wa_take (i := 21) (d := 168) 19 rfl (by kernel_rfl) (by kernel_rfl) (by kernel_rfl) rfl rfl rfl (fun M46 N46 w72 hle52 S73 => .inl (run_load1 rfl rfl Try.underlying3 rfl (S73.suf.boxc (i := 0) rfl rfl))) ?_
             refine wa_take (i := 22) (d := 169) 18 rfl (by kernel_rfl) (by kernel_rfl) (by kernel_rfl) rfl rfl rfl (fun M47 N47 w73 hle53 S74 => .inl (run_indexR (C := cdInt) (i := 4) (((ga d.crs i5).c).toNat) rfl rfl rfl sl36 S74.suf rfl (by first | rfl | omega) (by first | omega | (simp only [lens]; omega)))) ?_
             refine wa_take (i := 23) (d := 170) 17 rfl (by kernel_rfl) (by kernel_rfl) (by kernel_rfl) rfl rfl rfl (fun M48 N48 w74 hle54 S75 => .inl (run_load1 rfl rfl Try.underlying3 rfl (S75.suf.rowc (i := 4) (e := ((ga d.crs i5).c).toNat) (j := 0) rfl (by first | omega | (simp only [lens]; omega)) rfl rfl))) ?_
             refine wa_take (i := 24) (d := 171) 16 rfl (by kernel_rfl) (by kernel_rfl) (by kernel_rfl) rfl rfl rfl (fun M49 N49 w75 hle55 S76 => .inl (run_indexR (C := cdInt) (i := 2) ((ga cl (((ga d.crs i5).c).toNat)).toNat) rfl rfl rfl sl36 S76.suf rfl (by first | rfl | omega) (by first | omega | (simp only [lens]; omega)))) ?_
             refine wa_take (i := 25) (d := 172) 15 rfl (by kernel_rfl) (by kernel_rfl) (by kernel_rfl) rfl rfl rfl (fun M50 N50 w76 hle56 S77 => .inl (run_load1 rfl rfl Try.underlying3 rfl (S77.suf.rowc (i := 2) (e := (ga cl (((ga d.crs i5).c).toNat)).toNat) (j := 0) rfl (by first | omega | (simp only [lens]; omega)) rfl rfl))) ?_
             refine wa_takeP (i := 26) (d := 173) 14 rfl (by kernel_rfl) (by kernel_rfl) (by kernel_rfl) rfl rfl rfl (fun w77 => run_move rfl rfl) ?_
             refine wa_takeP (i := 27) (d := 174) 13 rfl (by kernel_rfl) (by kernel_rfl) (by kernel_rfl) rfl rfl rfl (fun w78 => run_move rfl rfl) ?_
             refine wa_takeP (i := 28) (d := 175) 12 rfl (by kernel_rfl) (by kernel_rfl) (by kernel_rfl) rfl rfl rfl (fun w79 => run_fieldAddr rfl rfl Try.underlying108 rfl (ce3) (nf3)) ?_
             refine wa_take (i := 29) (d := 176) 11 rfl (by kernel_rfl) (by kernel_rfl) (by kernel_rfl) rfl rfl rfl (fun M54 N54 w80 hle60 S81 => .inl (run_load1 rfl rfl Try.underlying3 rfl (S81.suf.boxc (i := 0) rfl rfl))) ?_
             refine wa_take (i := 30) (d := 177) 10 rfl (by kernel_rfl) (by kernel_rfl) (by kernel_rfl) rfl rfl rfl (fun M55 N55 w81 hle61 S82 => .inl (run_indexR (C := cdInt) (i := 4) (((ga d.crs i5).d).toNat) rfl rfl rfl sl36 S82.suf rfl (by first | rfl | omega) (by first | omega | (simp only [lens]; omega)))) ?_
             refine wa_take (i := 31) (d := 178) 9 rfl (by kernel_rfl) (by kernel_rfl) (by kernel_rfl) rfl rfl rfl (fun M56 N56 w82 hle62 S83 => .inl (run_load1 rfl rfl Try.underlying3 rfl (S83.suf.rowc (i := 4) (e := ((ga d.crs i5).d).toNat) (j := 0) rfl (by first | omega | (simp only [lens]; omega)) rfl rfl))) ?_
             refine wa_take (i := 32) (d := 179) 8 rfl (by kernel_rfl) (by kernel_rfl) (by kernel_rfl) rfl rfl rfl (fun M57 N57 w83 hle63 S84 => .inl (run_indexR (C := cdInt) (i := 2) ((ga cl (((ga d.crs i5).d).toNat)).toNat) rfl rfl rfl sl36 S84.suf rfl (by first | rfl | omega) (by first | omega | (simp only [lens]; omega)))) ?_
             refine wa_take (i := 33) (d := 180) 7 rfl (by kernel_rfl) (by kernel_rfl) (by kernel_rfl) rfl rfl rfl (fun M58 N58 w84 hle64 S85 => .inl (run_load1 rfl rfl Try.underlying3 rfl (S85.suf.rowc (i := 2) (e := (ga cl (((ga d.crs i5).d).toNat)).toNat) (j := 0) rfl (by first | omega | (simp only [lens]; omega)) rfl rfl))) ?_
             refine wa_takeP (i := 34) (d := 181) 6 rfl (by kernel_rfl) (by kernel_rfl) (by kernel_rfl) rfl rfl rfl (fun w85 => run_fieldAddr rfl rfl Try.underlying108 rfl (ce4) (nf4)) ?_
             refine wa_take (i := 35) (d := 182) 5 rfl (by kernel_rfl) (by kernel_rfl) (by kernel_rfl) rfl rfl rfl (fun M60 N60 w86 hle66 S87 => .inl (run_load1 rfl rfl Try.underlying4 rfl (S87.suf.boxc (i := 0) rfl rfl))) ?_
             refine wa_take (i := 36) (d := 183) 4 rfl (by kernel_rfl) (by kernel_rfl) (by kernel_rfl) rfl rfl rfl (fun M61 N61 w87 hle67 S88 => .inl (run_build (l := [_, _, _, _, _]) rfl rfl st108 rfl rfl)) ?_
             refine wa_only (i := 37) 3 rfl (by kernel_rfl) rfl rfl (fun w89 S90 => ?_)
             refine (wo_buildSlice1 (C := cdCr) (l := [_, _, _, _, _]) rfl rfl rfl rfl sl49 rfl rfl rfl rfl S90 ?_)
             intro gb6 w90 S91; clear S90
             refine LeftW.grow [_] (Hp.le_refl _) S91 ?_; clear S91
             change WA _ _ _ _ _ _ _ _ _ _ _ _ [_, _, _, _, _, _, _, _]
             refine wa_only (i := 38) 2 rfl (by kernel_rfl) rfl rfl (fun w92 S93 => ?_)
             refine (wo_append1 (C := cdCr) (i := 2) (q := 0) (⟨ga nu ((ga cl (((ga d.crs i5).a).toNat)).toNat), ga nu ((ga cl (((ga d.crs i5).b).toNat)).toNat), ga nu ((ga cl (((ga d.crs i5).c).toNat)).toNat), ga nu ((ga cl (((ga d.crs i5).d).toNat)).toNat), (ga d.crs i5).plus⟩ : Cr) rfl rfl rfl rfl rfl rfl rfl rfl sl49 S93 rfl rfl rfl (by show (_ + 1) * 40 ≤ _; first | omega | (simp only [lens]; omega)) ?_)
             intro vr5 w93 S94; clear S93
             have S95 := S94.pick [1, 2, 3, 4, 5, 6, 7] [_, _, _, _, _, _, _] (by decide) ⟨rfl, rfl, rfl, rfl, rfl, rfl, rfl, trivial⟩; clear S94
             refine LeftW.turn (by kernel_rfl) S95 ?_; clear S95
             change WA _ _ _ _ _ _ _ _ _ _ _ _ [_, _, _, _, _, _, _]
             refine wa_takeP (i := 39) (d := 186) 1 rfl (by kernel_rfl) (by kernel_rfl) (by kernel_rfl) rfl rfl rfl (fun w94 => run_fieldAddr rfl rfl Try.underlying51 rfl (ce49) (nf49)) ?_
             refine wa_only (i := 40) 0 rfl (by kernel_rfl) rfl rfl (fun w96 S98 => ?_)
             refine (wo_storeB (i := 3) (us := [_]) (l' := [_, _]) (H' := [_, _, _, _, _, _, _]) rfl rfl S98 rfl rfl rfl (S98.cells1 (i := 1) rfl) sz49 rfl (ones_cons (S98.one (i := 1) rfl) rfl) rfl rfl ?_)
             intro w97 S99; clear S98
             refine LeftW.turn (by kernel_rfl) S99 ?_; clear S99
             change WA _ _ _ _ _ _ _ _ _ _ _ _ [_, _, _, _, _, _, _]
             refine wa_end (by kernel_rfl) (fun w98 S100 => ?_)
             refine nm_blk ?_
             refine nm_sub [(1, _), (2, _), (4, _), (11, _), (15, _), (18, _), (21, _)] ⟨rfl, rfl, rfl, rfl, rfl, rfl, rfl, trivial⟩ ?_
             refine nm_thn ?_
             refine ws_region rfl ?_
             refine wlm 0 1 rfl rfl rfl rfl rfl rfl rfl ?_
             refine wlo 1 2 rfl rfl rfl (wo_run rfl rfl (run_add rfl rfl rfl (by first | omega | (simp only [lens]; omega))) ?_)
             refine wla 2 3 rfl rfl rfl rfl rfl rfl rfl ?_
             refine wl_end rfl ?_
             refine nm_lp ?_
             intro ax_ hax_
             refine ⟨_, ?hq15m, ⟨i5 + 1, _, _, rfl, hax_.sub ⟨rfl, rfl, rfl, rfl, rfl, rfl, rfl, trivial⟩, S100.pick [1, 2, 3, 4, 5, 6] [_, _, _, _, _, _] (by decide) ⟨rfl, rfl, rfl, rfl, rfl, rfl, trivial⟩, ?hq15f0, ?hq15f1⟩⟩
             case hq15f0 => omega
             case hq15f1 => first | (rw [remN, if_pos (by omega)]; exact hc5) | (rw [remN, if_neg (by omega), List.map_append, ← hc5]; refine congrArg _ ?_; show [(⟨ga nu (ga cl (crArc (ga d.crs i5) 0).toNat).toNat, ga nu (ga cl (crArc (ga d.crs i5) 1).toNat).toNat, ga nu (ga cl (crArc (ga d.crs i5) 2).toNat).toNat, ga nu (ga cl (crArc (ga d.crs i5) 3).toNat).toNat, (ga d.crs i5).plus⟩ : Cr)] = _; rw [hnv 0 (by omega), hnv 1 (by omega), hnv 2 (by omega), hnv 3 (by omega)]; rfl)
             case hq15m => omega
            ·replace hb141 := of_decide_eq_false hb141
             refine ws_skip rfl ?_
             refine nm_blk ?_
             refine nm_sub [(1, _), (2, _), (4, _), (11, _), (15, _), (18, _), (21, _)] ⟨rfl, rfl, rfl, rfl, rfl, rfl, rfl, trivial⟩ ?_
             refine nm_thn ?_
             refine ws_region rfl ?_
             refine wlm 0 1 rfl rfl rfl rfl rfl rfl rfl ?_
             refine wlo 1 2 rfl rfl rfl (wo_run rfl rfl (run_add rfl rfl rfl (by first | omega | (simp only [lens]; omega))) ?_)
             refine wla 2 3 rfl rfl rfl rfl rfl rfl rfl ?_
             refine wl_end rfl ?_
             refine nm_lp ?_
             intro ax_ hax_
             refine ⟨_, ?hq16m, ⟨i5 + 1, _, _, rfl, hax_.sub ⟨rfl, rfl, rfl, rfl, rfl, rfl, rfl, trivial⟩, S49.pick [0, 1, 2, 3, 4, 5] [_, _, _, _, _, _] (by decide) ⟨rfl, rfl, rfl, rfl, rfl, rfl, trivial⟩, ?hq16f0, ?hq16f1⟩⟩
             case hq16f0 => omega
             case hq16f1 => first | (rw [remN, if_pos (by omega)]; exact hc5) | (rw [remN, if_neg (by omega), List.map_append, ← hc5]; refine congrArg _ ?_; show [(⟨ga nu (ga cl (crArc (ga d.crs i5) 0).toNat).toNat, ga nu (ga cl (crArc (ga d.crs i5) 1).toNat).toNat, ga nu (ga cl (crArc (ga d.crs i5) 2).toNat).toNat, ga nu (ga cl (crArc (ga d.crs i5) 3).toNat).toNat, (ga d.crs i5).plus⟩ : Cr)] = _; rw [hnv 0 (by omega), hnv 1 (by omega), hnv 2 (by omega), hnv 3 (by omega)]; rfl)
             case hq16m => omega
           ·replace hb136 := of_decide_eq_false hb136
            refine ws_exit rfl rfl ?_
            refine nm_sub [(4, _), (15, _)] ⟨rfl, rfl, trivial⟩ ?_
            refine nm_thn ?_
            refine ws_seqN SmoothOf_n137 SmoothOf_n138 rfl rfl rfl ?_
            refine ws_region rfl ?_
            refine wlo 0 1 rfl rfl rfl (wo_run rfl rfl (run_loadN (us := [_, _]) rfl rfl Try.underlying51 rfl sz51 (S49.boxcs (i := 2) rfl ⟨rfl, rfl, trivial⟩)) ?_)
            refine wlo 1 2 rfl rfl rfl (wo_storeB (i := 4) (us := [_, _]) (l' := [_, _]) (H' := [_, _, _, _, _, _]) rfl rfl S49 rfl rfl rfl rfl sz51 rfl (ones_cons (S49.one (i := 0) rfl) (ones_cons rfl rfl)) rfl rfl ?_)
            intro w99 S101; clear S49
            refine wl_end rfl ?_
            refine nm_sub [(4, _)] ⟨rfl, trivial⟩ ?_
            refine nm_thn ?_
            obtain ⟨M66, hle72, S102, ⟨A1, c1, e1, hr1⟩⟩ := S101.pubrow (i := 0) (H' := [_, _, _, _, _, _]) rfl rfl (by show _ * 40 ≤ _; first | omega | (simp only [lens]; omega))
            clear S101; subst e1
            replace hdcrs := hdcrs.mono (Hp.un_mono hle72 S102.mx)
            refine ws_ret hC [_] rfl rfl ⟨⟨_, rfl, loadVarN (us := [_, _]) Try.underlying51 rfl sz51 (S102.boxcs (i := 4) rfl ⟨rfl, rfl, trivial⟩)⟩, trivial⟩ ?_
            refine ⟨_, rfl, _, hle72, (S102.pick [] [] (by decide) trivial), ?_⟩
            obtain rfl : i5 = d.crs.length := by omega
            have e9 : (smD d k).crs = c5 := by rw [hc5, hclf, hocf]; rfl
            have e8 : (smD d k).loops = d.loops + (cn (loB2 cl oc) (2 * d.crs.length + 1) : Int) := by rw [hclf, hocf]; rfl
            rw [e9, e8]
            exact ⟨_, _, rfl, hr1⟩
 ·refine ws_skip rfl ?_
  refine nm_sub [(1, _), (2, _), (4, _), (6, _), (7, _), (8, _), (9, _)] ⟨rfl, rfl, rfl, rfl, rfl, rfl, rfl, trivial⟩ ?_
  refine nm_thn ?_
  refine ws_seqN SmoothOf_n13 SmoothOf_n14 rfl rfl rfl ?_
  have hs0 : 1 ≤ (ga d.crs k).a ∧ (ga d.crs k).a ≤ 2 * (d.crs.length : Int) := arcAt_bd hab hk (k := 0) (by omega)
  have hs2 : 1 ≤ (ga d.crs k).c ∧ (ga d.crs k).c ≤ 2 * (d.crs.length : Int) := arcAt_bd hab hk (k := 2) (by omega)
  have hs1 : 1 ≤ (ga d.crs k).b ∧ (ga d.crs k).b ≤ 2 * (d.crs.length : Int) := arcAt_bd hab hk (k := 1) (by omega)
  have hs3 : 1 ≤ (ga d.crs k).d ∧ (ga d.crs k).d ≤ 2 * (d.crs.length : Int) := arcAt_bd hab hk (k := 3) (by omega)
  obtain ⟨⟨hm1, hm2⟩, ⟨hm3, hm4⟩, ⟨hm5, hm6⟩, ⟨hm7, hm8⟩⟩ := sm_bd hab hk
  refine ws_eq 6 (.int .i64 ((sp1 d k : Nat) : Int)) rfl (int_eq (by unfold sp1; omega)) ?_
  refine ws_eq 7 (.int .i64 ((sq1 d k : Nat) : Int)) rfl (int_eq (by unfold sq1 abv; rw [if_neg (by simp [hb37])]; dsimp only; omega)) ?_
  refine ws_eq 8 (.int .i64 ((sp2 d k : Nat) : Int)) rfl (int_eq (by unfold sp2 abv; rw [if_neg (by simp [hb37])]; dsimp only; omega)) ?_
  refine ws_eq 9 (.int .i64 ((sq2 d k : Nat) : Int)) rfl (int_eq (by unfold sq2; omega)) ?_
  clear hs0 hs1 hs2 hs3
  refine ws_region rfl ?_
  refine wlo 0 1 rfl rfl rfl (wo_run rfl rfl (run_fieldAddr rfl rfl Try.underlying51 rfl (ce49) (nf49)) ?_)
  refine wlo 1 2 rfl rfl rfl (wo_run rfl rfl (run_load1 rfl rfl Try.underlying49 rfl (S17.boxc (i := 2) rfl rfl)) ?_)
  refine wlo 2 3 rfl rfl rfl (wo_run rfl rfl (run_len rfl rfl rfl rfl rfl rfl Try.underlying49) ?_)
  refine wlo 3 4 rfl rfl rfl (wo_run rfl rfl (run_mul rfl rfl rfl (by first | omega | (simp only [lens]; omega))) ?_)
  refine wla 4 5 rfl rfl rfl rfl rfl rfl rfl ?_
  refine wl_end rfl ?_
  refine nm_sub [(1, _), (2, _), (4, _), (6, _), (7, _), (8, _), (9, _), (10, _)] ⟨rfl, rfl, rfl, rfl, rfl, rfl, rfl, rfl, trivial⟩ ?_
  refine nm_thn ?_
  refine ws_seqN SmoothOf_n15 SmoothOf_n16 rfl rfl rfl ?_
  refine ws_region rfl ?_
  refine wlm 0 1 rfl rfl rfl rfl rfl rfl rfl ?_
  refine wlo 1 2 rfl rfl rfl (wo_run rfl rfl (run_add rfl rfl rfl (by first | omega | (simp only [lens]; omega))) ?_)
  refine wlo 2 3 rfl rfl rfl (wo_make (C := cdInt) ((2 * (d.crs.length : Int)).toNat + 1) rfl rfl rfl rfl rfl sl36 (by first | rfl | omega) (by show _ * 8 ≤ _; first | omega | (simp only [lens]; omega)) S17 ?_)
  intro vr6 w100 S103; clear S17
  refine wla 3 4 rfl rfl rfl rfl rfl rfl rfl ?_
  refine wl_end rfl ?_
  refine nm_sub [(1, _), (2, _), (4, _), (6, _), (7, _), (8, _), (9, _), (10, _), (11, _)] ⟨rfl, rfl, rfl, rfl, rfl, rfl, rfl, rfl, rfl, trivial⟩ ?_
  refine nm_thn ?_
  refine ws_seqN SmoothOf_n17 SmoothOf_n18 rfl rfl rfl ?_
  refine ws_seqN SmoothOf_n19 SmoothOf_n20 rfl rfl rfl ?_
  refine ws_region rfl ?_
  refine wla 0 1 rfl rfl rfl rfl rfl rfl rfl ?_
  refine wl_end rfl ?_
  refine nm_thn ?_
  refine ws_blockN SmoothOf_n21 0 rfl rfl rfl ?_
  refine ws_loopE (fun mx_ ax_ wx_ => ∃ (i : Nat) (ws : List Int) (vrw : Value), mx_ = 2 * d.crs.length + 1 - i ∧ Env 188 [(1, .int .i64 (k : Int)), (2, .pointer (some ⟨gb1, 0, none⟩)), (4, .pointer (some ⟨gb2, 0, none⟩)), (6, .int .i64 ((sp1 d k : Nat) : Int)), (7, .int .i64 ((sq1 d k : Nat) : Int)), (8, .int .i64 ((sp2 d k : Nat) : Int)), (9, .int .i64 ((sq2 d k : Nat) : Int)), (10, .int .i64 (2 * (d.crs.length : Int))), (11, vrw), (12, .int .i64 (i : Int))] ax_ ∧ SH wx_ M X [Rs.row cdInt vrw ws, Rs.box gb2 51 [.slice none 0 0, .int .i64 0], Rs.box gb1 51 [.slice dcrsA d.crs.length dcrsc, .int .i64 d.loops]] ∧ i ≤ 2 * d.crs.length + 1 ∧ ws = iniW (2 * d.crs.length + 1) i) rfl ?_ ?_
  ·intro ax_ hax_
   refine ⟨_, ⟨0, _, _, rfl, hax_.sub ⟨rfl, rfl, rfl, rfl, rfl, rfl, rfl, rfl, rfl, rfl, trivial⟩, S103.pick [0, 2, 3] [_, _, _] (by decide) ⟨rfl, rfl, rfl, trivial⟩, ?hq17f0, ?hq17f1⟩⟩
   case hq17f0 => omega
   case hq17f1 => rfl
  ·rintro m7 a7 w101 ⟨i, ws, vrw, rfl, he7, S104, hi, hw⟩
   clear S103
   refine ws_in he7 (c := SmoothOf_n22) rfl ?_
   clear he7 a7
   have hwl : ws.length = 2 * d.crs.length + 1 := by rw [hw, iniW_len]
   refine ws_seqN SmoothOf_n23 SmoothOf_n24 rfl rfl rfl ?_
   refine ws_seqN SmoothOf_n25 SmoothOf_n26 rfl rfl rfl ?_
   refine ws_region rfl ?_
   refine wlm 0 1 rfl rfl rfl rfl rfl rfl rfl ?_
   refine wlm 1 2 rfl rfl rfl rfl rfl rfl rfl ?_
   refine wlo 2 3 rfl rfl rfl (wo_run rfl rfl (run_leq rfl rfl rfl) ?_)
   refine wl_end rfl ?_
   refine nm_sub [(1, _), (2, _), (4, _), (6, _), (7, _), (8, _), (9, _), (10, _), (11, _), (12, _), (55, _)] ⟨rfl, rfl, rfl, rfl, rfl, rfl, rfl, rfl, rfl, rfl, rfl, trivial⟩ ?_
   refine nm_thn ?_
   refine ws_condN SmoothOf_n27 SmoothOf_n28 rfl rfl rfl rfl (fun hb55 => ?_) (fun hb55 => ?_)
   ·replace hb55 := of_decide_eq_true hb55
    refine ws_skip rfl ?_
    refine nm_sub [(1, _), (2, _), (4, _), (6, _), (7, _), (8, _), (9, _), (10, _), (11, _), (12, _)] ⟨rfl, rfl, rfl, rfl, rfl, rfl, rfl, rfl, rfl, rfl, trivial⟩ ?_
    refine nm_thn ?_
    refine ws_seqN SmoothOf_n29 SmoothOf_n30 rfl rfl rfl ?_
    refine ws_blockN SmoothOf_n31 1 rfl rfl rfl ?_
    refine ws_region rfl ?_
    refine wlm 0 1 rfl rfl rfl rfl rfl rfl rfl ?_
    refine wlm 1 2 rfl rfl rfl rfl rfl rfl rfl ?_
    refine wlm 2 3 rfl rfl rfl rfl rfl rfl rfl ?_
    refine wlo 3 4 rfl rfl rfl (wo_run rfl rfl (run_indexR (C := cdInt) (i := 0) i rfl rfl rfl sl36 S104 rfl (by first | rfl | omega) (by first | omega | (simp only [lens]; omega))) ?_)
    refine wlo 4 5 rfl rfl rfl (wo_storeR (C := cdInt) (i := 0) (e := i) (j := 0) (us := [_]) (H' := [_, _, _]) (i : Int) rfl rfl S104 rfl (by first | omega | (simp only [lens]; omega)) rfl rfl rfl sz3 rfl rfl rfl rfl ?_)
    intro w102 S105; clear S104
    refine wl_end rfl ?_
    refine nm_blk ?_
    refine nm_sub [(1, _), (2, _), (4, _), (6, _), (7, _), (8, _), (9, _), (10, _), (11, _), (12, _)] ⟨rfl, rfl, rfl, rfl, rfl, rfl, rfl, rfl, rfl, rfl, trivial⟩ ?_
    refine nm_thn ?_
    refine ws_region rfl ?_
    refine wlm 0 1 rfl rfl rfl rfl rfl rfl rfl ?_
    refine wlo 1 2 rfl rfl rfl (wo_run rfl rfl (run_add rfl rfl rfl (by first | omega | (simp only [lens]; omega))) ?_)
    refine wla 2 3 rfl rfl rfl rfl rfl rfl rfl ?_
    refine wl_end rfl ?_
    refine nm_lp ?_
    intro ax_ hax_
    refine ⟨_, ?hq18m, ⟨i + 1, _, _, rfl, hax_.sub ⟨rfl, rfl, rfl, rfl, rfl, rfl, rfl, rfl, rfl, rfl, trivial⟩, S105.pick [0, 1, 2] [_, _, _] (by decide) ⟨rfl, rfl, rfl, trivial⟩, ?hq18f0, ?hq18f1⟩⟩
    case hq18f0 => omega
    case hq18f1 => (rw [hw]; rfl)
    case hq18m => omega
   ·replace hb55 := of_decide_eq_false hb55
    refine ws_exit rfl rfl ?_
    refine nm_sub [(1, _), (2, _), (4, _), (6, _), (7, _), (8, _), (9, _), (10, _), (11, _)] ⟨rfl, rfl, rfl, rfl, rfl, rfl, rfl, rfl, rfl, trivial⟩ ?_
    refine nm_thn ?_
    refine ws_seqN SmoothOf_n32 SmoothOf_n33 rfl rfl rfl ?_
    refine ws_seqN SmoothOf_n34 SmoothOf_n35 rfl rfl rfl ?_
    refine ws_region rfl ?_
    refine wla 0 1 rfl rfl rfl rfl rfl rfl rfl ?_
    refine wl_end rfl ?_
    refine nm_thn ?_
    refine ws_blockN SmoothOf_n36 2 rfl rfl rfl ?_
    refine ws_loopE (fun mx_ ax_ wx_ => ∃ (j : Nat) (ws2 : List Int) (vrw2 : Value), mx_ = 3 - j ∧ Env 188 [(1, .int .i64 (k : Int)), (2, .pointer (some ⟨gb1, 0, none⟩)), (4, .pointer (some ⟨gb2, 0, none⟩)), (6, .int .i64 ((sp1 d k : Nat) : Int)), (7, .int .i64 ((sq1 d k : Nat) : Int)), (8, .int .i64 ((sp2 d k : Nat) : Int)), (9, .int .i64 ((sq2 d k : Nat) : Int)), (10, .int .i64 (2 * (d.crs.length : Int))), (11, vrw2), (13, .int .i64 (j : Int))] ax_ ∧ SH wx_ M X [Rs.row cdInt vrw2 ws2, Rs.box gb2 51 [.slice none 0 0, .int .i64 0], Rs.box gb1 51 [.slice dcrsA d.crs.length dcrsc, .int .i64 d.loops]] ∧ j ≤ 3 ∧ ws2 = rdsG (sE1 d k) (sE2 d k) (2 * d.crs.length + 1) 2 j) rfl ?_ ?_
    ·intro ax_ hax_
     refine ⟨_, ⟨0, _, _, rfl, hax_.sub ⟨rfl, rfl, rfl, rfl, rfl, rfl, rfl, rfl, rfl, rfl, trivial⟩, S104.pick [0, 1, 2] [_, _, _] (by decide) ⟨rfl, rfl, rfl, trivial⟩, ?hq19f0, ?hq19f1⟩⟩
     case hq19f0 => omega
     case hq19f1 => (obtain rfl : i = 2 * d.crs.length + 1 := (by omega); exact hw)
    ·rintro m8 a8 w103 ⟨j, ws2, vrw2, rfl, he8, S106, hj, hw2⟩
     clear S104
     refine ws_in he8 (c := SmoothOf_n37) rfl ?_
     clear he8 a8
     have hl2 : ws2.length = 2 * d.crs.length + 1 := by rw [hw2, rdsG_len]
     refine ws_seqN SmoothOf_n38 SmoothOf_n39 rfl rfl rfl ?_
     refine ws_seqN SmoothOf_n40 SmoothOf_n41 rfl rfl rfl ?_
     refine ws_region rfl ?_
     refine wlm 0 1 rfl rfl rfl rfl rfl rfl rfl ?_
     refine wlo 1 2 rfl rfl rfl (wo_run rfl rfl (run_lss rfl rfl rfl) ?_)
     refine wl_end rfl ?_
     refine nm_sub [(1, _), (2, _), (4, _), (6, _), (7, _), (8, _), (9, _), (10, _), (11, _), (13, _), (63, _)] ⟨rfl, rfl, rfl, rfl, rfl, rfl, rfl, rfl, rfl, rfl, rfl, trivial⟩ ?_
     refine nm_thn ?_
     refine ws_condN SmoothOf_n42 SmoothOf_n43 rfl rfl rfl rfl (fun hb63 => ?_) (fun hb63 => ?_)
     ·replace hb63 := of_decide_eq_true hb63
      refine ws_skip rfl ?_
      refine nm_sub [(1, _), (2, _), (4, _), (6, _), (7, _), (8, _), (9, _), (10, _), (11, _), (13, _)] ⟨rfl, rfl, rfl, rfl, rfl, rfl, rfl, rfl, rfl, rfl, trivial⟩ ?_
      refine nm_thn ?_
      refine ws_seqN SmoothOf_n44 SmoothOf_n45 rfl rfl rfl ?_
      refine ws_blockN SmoothOf_n46 3 rfl rfl rfl ?_
      refine ws_seqN SmoothOf_n47 SmoothOf_n48 rfl rfl rfl ?_
      refine ws_region rfl ?_
      refine wlm 0 1 rfl rfl rfl rfl rfl rfl rfl ?_
      refine wlm 1 2 rfl rfl rfl rfl rfl rfl rfl ?_
      refine wlm 2 3 rfl rfl rfl rfl rfl rfl rfl ?_
      refine wlo 3 4 rfl rfl rfl (wo_c1 rfl rfl rfl rfl rfl rfl rfl cf83 S106 (i := 0) rfl (level_w vrw2 _ ((sp1 d k : Nat) : Int) ((sq1 d k : Nat) : Int) (by first | omega | (simp only [stepW_len]; omega)) (by first | omega | (simp only [stepW_len]; omega)) (S106.lend1 (i := 0) rfl)) ?_)
      rintro vw104 w104 _ _ - S107 ⟨rfl, rfl, rfl⟩; clear S106
      change SH _ _ _ [_, _, _] at S107
      refine wl_end rfl ?_
      refine nm_sub [(1, _), (2, _), (4, _), (6, _), (7, _), (8, _), (9, _), (10, _), (11, _), (13, _)] ⟨rfl, rfl, rfl, rfl, rfl, rfl, rfl, rfl, rfl, rfl, trivial⟩ ?_
      refine nm_thn ?_
      refine ws_region rfl ?_
      refine wlm 0 1 rfl rfl rfl rfl rfl rfl rfl ?_
      refine wlm 1 2 rfl rfl rfl rfl rfl rfl rfl ?_
      refine wlm 2 3 rfl rfl rfl rfl rfl rfl rfl ?_
      refine wlo 3 4 rfl rfl rfl (wo_c1 rfl rfl rfl rfl rfl rfl rfl cf83 S107 (i := 0) rfl (level_w vrw2 _ ((sp2 d k : Nat) : Int) ((sq2 d k : Nat) : Int) (by first | omega | (simp only [stepW_len]; omega)) (by first | omega | (simp only [stepW_len]; omega)) (S107.lend1 (i := 0) rfl)) ?_)
      rintro vw105 w105 _ _ - S108 ⟨rfl, rfl, rfl⟩; clear S107
      change SH _ _ _ [_, _, _] at S108
      refine wl_end rfl ?_
      refine nm_blk ?_
      refine nm_sub [(1, _), (2, _), (4, _), (6, _), (7, _), (8, _), (9, _), (10, _), (11, _), (13, _)] ⟨rfl, rfl, rfl, rfl, rfl, rfl, rfl, rfl, rfl, rfl, trivial⟩ ?_
      refine nm_thn ?_
      refine ws_region rfl ?_
      refine wlm 0 1 rfl rfl rfl rfl rfl rfl rfl ?_
      refine wlo 1 2 rfl rfl rfl (wo_run rfl rfl (run_add rfl rfl rfl (by first | omega | (simp only [lens]; omega))) ?_)
      refine wla 2 3 rfl rfl rfl rfl rfl rfl rfl ?_
      refine wl_end rfl ?_
      refine nm_lp ?_
      intro ax_ hax_
      refine ⟨_, ?hq20m, ⟨j + 1, _, _, rfl, hax_.sub ⟨rfl, rfl, rfl, rfl, rfl, rfl, rfl, rfl, rfl, rfl, trivial⟩, S108.pick [0, 1, 2] [_, _, _] (by decide) ⟨rfl, rfl, rfl, trivial⟩, ?hq20f0, ?hq20f1⟩⟩
      case hq20f0 => omega
      case hq20f1 => (rw [rdsG, ← hw2, round2]; rfl)
      case hq20m => omega
     ·replace hb63 := of_decide_eq_false hb63
      refine ws_exit rfl rfl ?_
      refine nm_sub [(1, _), (2, _), (4, _), (10, _), (11, _)] ⟨rfl, rfl, rfl, rfl, rfl, trivial⟩ ?_
      refine nm_thn ?_
      refine ws_seqN SmoothOf_n49 SmoothOf_n50 rfl rfl rfl ?_
      obtain rfl : j = 3 := by omega
      have hclf : ws2 = smC d k := by rw [hw2, sm_law hab hk]
      have hok : ∀ x, x < 2 * d.crs.length + 1 → 0 ≤ ga ws2 x ∧ ga ws2 x ≤ x ∧ ga ws2 (ga ws2 x).toNat = ga ws2 x := by rw [hclf]; exact (smN_ok hab hk 2 (Nat.le_refl _)).2
      have hl2 : ws2.length = 2 * d.crs.length + 1 := by rw [hw2, rdsG_len]
      clear hw2
      obtain ⟨cl, rfl⟩ : ∃ cl, cl = ws2 := ⟨_, rfl⟩
      obtain ⟨oc, hocf⟩ : ∃ oc, oc = remL d k := ⟨_, rfl⟩
      refine ws_region rfl ?_
      refine wlm 0 1 rfl rfl rfl rfl rfl rfl rfl ?_
      refine wlo 1 2 rfl rfl rfl (wo_run rfl rfl (run_add rfl rfl rfl (by first | omega | (simp only [lens]; omega))) ?_)
      refine wlo 2 3 rfl rfl rfl (wo_make (C := cdBool) ((2 * (d.crs.length : Int)).toNat + 1) rfl rfl rfl rfl rfl sl117 (by first | rfl | omega) (by show _ * 1 ≤ _; first | omega | (simp only [lens]; omega)) S106 ?_)
      intro vr7 w106 S109; clear S106
      refine wla 3 4 rfl rfl rfl rfl rfl rfl rfl ?_
      refine wl_end rfl ?_
      refine nm_sub [(1, _), (2, _), (4, _), (10, _), (11, _), (14, _)] ⟨rfl, rfl, rfl, rfl, rfl, rfl, trivial⟩ ?_
      refine nm_thn ?_
      refine ws_seqN SmoothOf_n51 SmoothOf_n52 rfl rfl rfl ?_
      refine ws_region rfl ?_
      refine wlo 0 1 rfl rfl rfl (wo_run rfl rfl (run_fieldAddr rfl rfl Try.underlying51 rfl (ce3) (nf3)) ?_)
      refine wlo 1 2 rfl rfl rfl (wo_run rfl rfl (run_load1 rfl rfl Try.underlying3 rfl (S109.boxc (i := 3) rfl rfl)) ?_)
      refine wl_eq 78 (.int .i64 (d.loops + (cn (loB2 cl oc) (0 + 1) : Int))) rfl (int_eq (by rw [show cn (loB2 cl oc) (0 + 1) = 0 from rfl]; omega)) ?_
      refine wlo 2 3 rfl rfl rfl (wo_run rfl rfl (run_build (l := [_, _]) rfl rfl st51 rfl rfl) ?_)
      refine wlo 3 4 rfl rfl rfl (wo_alloc (l := [_, _]) rfl rfl rfl zr51 rfl S109 ?_)
      intro gb7 w107 S110; clear S109
      refine wlo 4 5 rfl rfl rfl (wo_storeB (i := 0) (us := [_, _]) (l' := [_, _]) (H' := [_, _, _, _, _]) rfl rfl S110 rfl rfl rfl rfl sz51 rfl rfl rfl rfl ?_)
      intro w108 S111; clear S110
      refine wl_end rfl ?_
      refine nm_sub [(1, _), (2, _), (4, _), (10, _), (11, _), (14, _), (15, _)] ⟨rfl, rfl, rfl, rfl, rfl, rfl, rfl, trivial⟩ ?_
      refine nm_thn ?_
      refine ws_seqN SmoothOf_n53 SmoothOf_n54 rfl rfl rfl ?_
      refine ws_seqN SmoothOf_n55 SmoothOf_n56 rfl rfl rfl ?_
      refine ws_region rfl ?_
      refine wla 0 1 rfl rfl rfl rfl rfl rfl rfl ?_
      refine wl_end rfl ?_
      refine nm_thn ?_
      refine ws_blockN SmoothOf_n57 4 rfl rfl rfl ?_
      refine ws_loopE (fun mx_ ax_ wx_ => ∃ (i2 : Nat) (th : List Bool) (vrt : Value), mx_ = d.crs.length - i2 ∧ Env 188 [(1, .int .i64 (k : Int)), (2, .pointer (some ⟨gb1, 0, none⟩)), (4, .pointer (some ⟨gb2, 0, none⟩)), (10, .int .i64 (2 * (d.crs.length : Int))), (11, vrw2), (14, vrt), (15, .pointer (some ⟨gb7, 0, none⟩)), (16, .int .i64 (i2 : Int))] ax_ ∧ SH wx_ M X [Rs.box gb7 51 [.slice none 0 0, .int .i64 (d.loops + (cn (loB2 cl oc) (0 + 1) : Int))], Rs.row cdBool vrt th, Rs.row cdInt vrw2 cl, Rs.box gb2 51 [.slice none 0 0, .int .i64 0], Rs.box gb1 51 [.slice dcrsA d.crs.length dcrsc, .int .i64 d.loops]] ∧ i2 ≤ d.crs.length ∧ th.length = 2 * d.crs.length + 1 ∧ (∀ x, x < 2 * d.crs.length + 1 → ga th x = lfL cl (remN d k i2) (x : Int))) rfl ?_ ?_
      ·intro ax_ hax_
       refine ⟨_, ⟨0, _, _, rfl, hax_.sub ⟨rfl, rfl, rfl, rfl, rfl, rfl, rfl, rfl, trivial⟩, S111.pick [0, 1, 2, 3, 4] [_, _, _, _, _] (by decide) ⟨rfl, rfl, rfl, rfl, rfl, trivial⟩, ?hq21f0, ?hq21f1, ?hq21f2⟩⟩
       case hq21f0 => omega
       case hq21f1 => (rw [List.length_replicate]; omega)
       case hq21f2 => (intro x hx; rw [ga_rep _ _ _ (by omega)]; rfl)
      ·rintro m9 a9 w109 ⟨i2, th, vrt, rfl, he9, S112, hi2, htl, hth⟩
       clear S111
       refine ws_in he9 (c := SmoothOf_n58) rfl ?_
       clear he9 a9
       refine ws_seqN SmoothOf_n59 SmoothOf_n60 rfl rfl rfl ?_
       refine ws_seqN SmoothOf_n61 SmoothOf_n62 rfl rfl rfl ?_
       refine ws_region rfl ?_
       refine wlm 0 1 rfl rfl rfl rfl rfl rfl rfl ?_
       refine wlo 1 2 rfl rfl rfl (wo_run rfl rfl (run_fieldAddr rfl rfl Try.underlying51 rfl (ce49) (nf49)) ?_)
       refine wlo 2 3 rfl rfl rfl (wo_run rfl rfl (run_load1 rfl rfl Try.underlying49 rfl (S112.boxc (i := 4) rfl rfl)) ?_)
       refine wlo 3 4 rfl rfl rfl (wo_run rfl rfl (run_len rfl rfl rfl rfl rfl rfl Try.underlying49) ?_)
       refine wlo 4 5 rfl rfl rfl (wo_run rfl rfl (run_lss rfl rfl rfl) ?_)
       refine wl_end rfl ?_
       refine nm_sub [(1, _), (2, _), (4, _), (10, _), (11, _), (14, _), (15, _), (16, _), (84, _)] ⟨rfl, rfl, rfl, rfl, rfl, rfl, rfl, rfl, rfl, trivial⟩ ?_
       refine nm_thn ?_
       refine ws_condN SmoothOf_n63 SmoothOf_n64 rfl rfl rfl rfl (fun hb84 => ?_) (fun hb84 => ?_)
       ·replace hb84 := of_decide_eq_true hb84
        refine ws_skip rfl ?_
        refine nm_sub [(1, _), (2, _), (4, _), (10, _), (11, _), (14, _), (15, _), (16, _)] ⟨rfl, rfl, rfl, rfl, rfl, rfl, rfl, rfl, trivial⟩ ?_
        refine nm_thn ?_
        refine ws_seqN SmoothOf_n65 SmoothOf_n66 rfl rfl rfl ?_
        refine ws_blockN SmoothOf_n67 5 rfl rfl rfl ?_
        refine ws_seqN SmoothOf_n68 SmoothOf_n69 rfl rfl rfl ?_
        refine ws_seqN SmoothOf_n70 SmoothOf_n71 rfl rfl rfl ?_
        refine ws_region rfl ?_
        refine wlm 0 1 rfl rfl rfl rfl rfl rfl rfl ?_
        refine wlm 1 2 rfl rfl rfl rfl rfl rfl rfl ?_
        refine wlo 2 3 rfl rfl rfl (wo_run rfl rfl (run_eql rfl rfl rfl) ?_)
        refine wl_end rfl ?_
        refine nm_sub [(1, _), (2, _), (4, _), (10, _), (11, _), (14, _), (15, _), (16, _), (89, _)] ⟨rfl, rfl, rfl, rfl, rfl, rfl, rfl, rfl, rfl, trivial⟩ ?_
        refine nm_thn ?_
        refine ws_condN SmoothOf_n72 SmoothOf_n73 rfl rfl rfl rfl (fun hb89 => ?_) (fun hb89 => ?_)
        ·replace hb89 := of_decide_eq_true hb89
         refine ws_exit rfl rfl ?_
         refine nm_sub [(1, _), (2, _), (4, _), (10, _), (11, _), (14, _), (15, _), (16, _)] ⟨rfl, rfl, rfl, rfl, rfl, rfl, rfl, rfl, trivial⟩ ?_
         refine nm_thn ?_
         refine ws_region rfl ?_
         refine wlm 0 1 rfl rfl rfl rfl rfl rfl rfl ?_
         refine wlo 1 2 rfl rfl rfl (wo_run rfl rfl (run_add rfl rfl rfl (by first | omega | (simp only [lens]; omega))) ?_)
         refine wla 2 3 rfl rfl rfl rfl rfl rfl rfl ?_
         refine wl_end rfl ?_
         refine nm_lp ?_
         intro ax_ hax_
         refine ⟨_, ?hq22m, ⟨i2 + 1, _, _, rfl, hax_.sub ⟨rfl, rfl, rfl, rfl, rfl, rfl, rfl, rfl, trivial⟩, S112.pick [0, 1, 2, 3, 4] [_, _, _, _, _] (by decide) ⟨rfl, rfl, rfl, rfl, rfl, trivial⟩, ?hq22f0, ?hq22f1, ?hq22f2⟩⟩
         case hq22f0 => omega
         case hq22f1 => assumption
         case hq22f2 => first | (intro x hx; rw [remN, if_pos (by omega)]; exact hth x hx) | (intro x hx; rw [remN, if_neg (by omega), lfL_snoc, htc x hx, show s3 = 4 by omega])
         case hq22m => omega
        ·replace hb89 := of_decide_eq_false hb89
         refine ws_skip rfl ?_
         refine nm_sub [(1, _), (2, _), (4, _), (10, _), (11, _), (14, _), (15, _), (16, _)] ⟨rfl, rfl, rfl, rfl, rfl, rfl, rfl, rfl, trivial⟩ ?_
         refine nm_thn ?_
         refine ws_seqN SmoothOf_n74 SmoothOf_n75 rfl rfl rfl ?_
         refine ws_region rfl ?_
         refine wla 0 1 rfl rfl rfl rfl rfl rfl rfl ?_
         refine wl_end rfl ?_
         refine nm_thn ?_
         refine ws_blockN SmoothOf_n76 6 rfl rfl rfl ?_
         refine ws_loopE (fun mx_ ax_ wx_ => ∃ (s3 : Nat) (tc : List Bool) (vrt3 : Value), mx_ = 4 - s3 ∧ Env 188 [(1, .int .i64 (k : Int)), (2, .pointer (some ⟨gb1, 0, none⟩)), (4, .pointer (some ⟨gb2, 0, none⟩)), (10, .int .i64 (2 * (d.crs.length : Int))), (11, vrw2), (14, vrt3), (15, .pointer (some ⟨gb7, 0, none⟩)), (16, .int .i64 (i2 : Int)), (17, .int .i64 (s3 : Int))] ax_ ∧ SH wx_ M X [Rs.box gb7 51 [.slice none 0 0, .int .i64 (d.loops + (cn (loB2 cl oc) (0 + 1) : Int))], Rs.row cdBool vrt3 tc, Rs.row cdInt vrw2 cl, Rs.box gb2 51 [.slice none 0 0, .int .i64 0], Rs.box gb1 51 [.slice dcrsA d.crs.length dcrsc, .int .i64 d.loops]] ∧ s3 ≤ 4 ∧ tc.length = 2 * d.crs.length + 1 ∧ (∀ x, x < 2 * d.crs.length + 1 → ga tc x = (lfL cl (remN d k i2) (x : Int) || lf1 cl (ga d.crs i2) s3 (x : Int)))) rfl ?_ ?_
         ·intro ax_ hax_
          refine ⟨_, ⟨0, _, _, rfl, hax_.sub ⟨rfl, rfl, rfl, rfl, rfl, rfl, rfl, rfl, rfl, trivial⟩, S112.pick [0, 1, 2, 3, 4] [_, _, _, _, _] (by decide) ⟨rfl, rfl, rfl, rfl, rfl, trivial⟩, ?hq23f0, ?hq23f1, ?hq23f2⟩⟩
          case hq23f0 => omega
          case hq23f1 => exact htl
          case hq23f2 => (intro x hx; rw [lf1, Bool.or_false]; exact hth x hx)
         ·rintro m10 a10 w110 ⟨s3, tc, vrt3, rfl, he10, S113, hs3, htcl, htc⟩
          clear S112
          refine ws_in he10 (c := SmoothOf_n77) rfl ?_
          clear he10 a10
          have hab3 := fun h => arcAt_bd hab (i := i2) (by omega) (k := s3) h
          refine ws_seqN SmoothOf_n78 SmoothOf_n79 rfl rfl rfl ?_
          refine ws_seqN SmoothOf_n80 SmoothOf_n81 rfl rfl rfl ?_
          refine ws_region rfl ?_
          refine wlm 0 1 rfl rfl rfl rfl rfl rfl rfl ?_
          refine wlo 1 2 rfl rfl rfl (wo_run rfl rfl (run_lss rfl rfl rfl) ?_)
          refine wl_end rfl ?_
          refine nm_sub [(1, _), (2, _), (4, _), (10, _), (11, _), (14, _), (15, _), (16, _), (17, _), (91, _)] ⟨rfl, rfl, rfl, rfl, rfl, rfl, rfl, rfl, rfl, rfl, trivial⟩ ?_
          refine nm_thn ?_
          refine ws_condN SmoothOf_n82 SmoothOf_n83 rfl rfl rfl rfl (fun hb91 => ?_) (fun hb91 => ?_)
          ·replace hb91 := of_decide_eq_true hb91
           refine ws_skip rfl ?_
           refine nm_sub [(1, _), (2, _), (4, _), (10, _), (11, _), (14, _), (15, _), (16, _), (17, _)] ⟨rfl, rfl, rfl, rfl, rfl, rfl, rfl, rfl, rfl, trivial⟩ ?_
           refine nm_thn ?_
           refine ws_seqN SmoothOf_n84 SmoothOf_n85 rfl rfl rfl ?_
           refine ws_blockN SmoothOf_n86 7 rfl rfl rfl ?_
           have hab3s := hab3 (by omega)
           have hok3 := hok (arcAt d i2 s3).toNat (by omega)
           refine ws_region rfl ?_
           refine wlm 0 1 rfl rfl rfl rfl rfl rfl rfl ?_
           refine wlm 1 2 rfl rfl rfl rfl rfl rfl rfl ?_
           refine wlo 2 3 rfl rfl rfl (wo_run rfl rfl (run_loadN (us := [_, _]) rfl rfl Try.underlying51 rfl sz51 (S113.boxcs (i := 4) rfl ⟨rfl, rfl, trivial⟩)) ?_)
           refine wlm 3 4 rfl rfl rfl rfl rfl rfl rfl ?_
           refine wlm 4 5 rfl rfl rfl rfl rfl rfl rfl ?_
           refine wlo 5 6 rfl rfl rfl (wo_run rfl rfl (run_build (l := [_, _]) rfl rfl st120 rfl rfl) ?_)
           refine wlo 6 7 rfl rfl rfl (wo_cq rfl rfl rfl rfl rfl rfl rfl cf84 S113 (ArcAt_q d i2 s3 (hdcrs.mono S113.un_XH) (by omega) (by omega) S113.lend) ?_)
           rintro _ w111 S114 rfl; clear S113
           refine wlo 7 8 rfl rfl rfl (wo_run rfl rfl (run_indexR (C := cdInt) (i := 2) ((arcAt d i2 s3).toNat) rfl rfl rfl sl36 S114 rfl (by first | rfl | omega) (by first | omega | (simp only [lens]; omega))) ?_)
           refine wlo 8 9 rfl rfl rfl (wo_run rfl rfl (run_load1 rfl rfl Try.underlying3 rfl (S114.rowc (i := 2) (e := (arcAt d i2 s3).toNat) (j := 0) rfl (by first | omega | (simp only [lens]; omega)) rfl rfl)) ?_)
           refine wlo 9 10 rfl rfl rfl (wo_run rfl rfl (run_indexR (C := cdBool) (i := 1) ((ga cl ((arcAt d i2 s3).toNat)).toNat) rfl rfl rfl sl117 S114 rfl (by first | rfl | omega) (by first | omega | (simp only [lens]; omega))) ?_)
           refine wlo 10 11 rfl rfl rfl (wo_storeR (C := cdBool) (i := 1) (e := (ga cl ((arcAt d i2 s3).toNat)).toNat) (j := 0) (us := [_]) (H' := [_, _, _, _, _]) true rfl rfl S114 rfl (by first | omega | (simp only [lens]; omega)) rfl rfl rfl sz4 rfl rfl rfl rfl ?_)
           intro w112 S115; clear S114
           refine wl_end rfl ?_
           refine nm_blk ?_
           refine nm_sub [(1, _), (2, _), (4, _), (10, _), (11, _), (14, _), (15, _), (16, _), (17, _)] ⟨rfl, rfl, rfl, rfl, rfl, rfl, rfl, rfl, rfl, trivial⟩ ?_
           refine nm_thn ?_
           refine ws_region rfl ?_
           refine wlm 0 1 rfl rfl rfl rfl rfl rfl rfl ?_
           refine wlo 1 2 rfl rfl rfl (wo_run rfl rfl (run_add rfl rfl rfl (by first | omega | (simp only [lens]; omega))) ?_)
           refine wla 2 3 rfl rfl rfl rfl rfl rfl rfl ?_
           refine wl_end rfl ?_
           refine nm_lp ?_
           intro ax_ hax_
           refine ⟨_, ?hq24m, ⟨s3 + 1, _, _, rfl, hax_.sub ⟨rfl, rfl, rfl, rfl, rfl, rfl, rfl, rfl, rfl, trivial⟩, S115.pick [0, 1, 2, 3, 4] [_, _, _, _, _] (by decide) ⟨rfl, rfl, rfl, rfl, rfl, trivial⟩, ?hq24f0, ?hq24f1, ?hq24f2⟩⟩
           case hq24f0 => omega
           case hq24f1 => simpa using htcl
           case hq24f2 => (intro x hx; have hq := htc x hx; rw [ga_set _ _ _ _ (by omega), lf1]; by_cases e9 : (x : Int) = ga cl (crArc (ga d.crs i2) s3).toNat; (rw [if_pos (show (ga cl (arcAt d i2 s3).toNat).toNat = x by unfold arcAt; omega)]; simp [e9]); (rw [if_neg (show ¬ (ga cl (arcAt d i2 s3).toNat).toNat = x by (unfold arcAt at *; omega)), hq]; simp [e9]))
           case hq24m => omega
          ·replace hb91 := of_decide_eq_false hb91
           refine ws_exit rfl rfl ?_
           refine nm_blk ?_
           refine nm_sub [(1, _), (2, _), (4, _), (10, _), (11, _), (14, _), (15, _), (16, _)] ⟨rfl, rfl, rfl, rfl, rfl, rfl, rfl, rfl, trivial⟩ ?_
           refine nm_thn ?_
           refine ws_region rfl ?_
           refine wlm 0 1 rfl rfl rfl rfl rfl rfl rfl ?_
           refine wlo 1 2 rfl rfl rfl (wo_run rfl rfl (run_add rfl rfl rfl (by first | omega | (simp only [lens]; omega))) ?_)
           refine wla 2 3 rfl rfl rfl rfl rfl rfl rfl ?_
           refine wl_end rfl ?_
           refine nm_lp ?_
           intro ax_ hax_
           refine ⟨_, ?hq25m, ⟨i2 + 1, _, _, rfl, hax_.sub ⟨rfl, rfl, rfl, rfl, rfl, rfl, rfl, rfl, trivial⟩, S113.pick [0, 1, 2, 3, 4] [_, _, _, _, _] (by decide) ⟨rfl, rfl, rfl, rfl, rfl, trivial⟩, ?hq25f0, ?hq25f1, ?hq25f2⟩⟩
           case hq25f0 => omega
           case hq25f1 => assumption
           case hq25f2 => first | (intro x hx; rw [remN, if_pos (by omega)]; exact hth x hx) | (intro x hx; rw [remN, if_neg (by omega), lfL_snoc, htc x hx, show s3 = 4 by omega])
           case hq25m => omega
       ·replace hb84 := of_decide_eq_false hb84
        refine ws_exit rfl rfl ?_
        refine nm_sub [(1, _), (2, _), (4, _), (10, _), (11, _), (14, _), (15, _)] ⟨rfl, rfl, rfl, rfl, rfl, rfl, rfl, trivial⟩ ?_
        refine nm_thn ?_
        refine ws_seqN SmoothOf_n87 SmoothOf_n88 rfl rfl rfl ?_
        obtain rfl : i2 = d.crs.length := by omega
        have hlf : ∀ x, x < 2 * d.crs.length + 1 → ga th x = lfL cl oc (x : Int) := fun x hx => by rw [hocf]; exact hth x hx
        clear hth
        refine ws_region rfl ?_
        refine wlm 0 1 rfl rfl rfl rfl rfl rfl rfl ?_
        refine wlo 1 2 rfl rfl rfl (wo_run rfl rfl (run_add rfl rfl rfl (by first | omega | (simp only [lens]; omega))) ?_)
        refine wlo 2 3 rfl rfl rfl (wo_make (C := cdInt) ((2 * (d.crs.length : Int)).toNat + 1) rfl rfl rfl rfl rfl sl36 (by first | rfl | omega) (by show _ * 8 ≤ _; first | omega | (simp only [lens]; omega)) S112 ?_)
        intro vr8 w113 S116; clear S112
        refine wla 3 4 rfl rfl rfl rfl rfl rfl rfl ?_
        refine wl_end rfl ?_
        refine nm_sub [(1, _), (2, _), (4, _), (10, _), (11, _), (14, _), (15, _), (18, _)] ⟨rfl, rfl, rfl, rfl, rfl, rfl, rfl, rfl, trivial⟩ ?_
        refine nm_thn ?_
        refine ws_seqN SmoothOf_n89 SmoothOf_n90 rfl rfl rfl ?_
        refine ws_region rfl ?_
        refine wla 0 1 rfl rfl rfl rfl rfl rfl rfl ?_
        refine wl_end rfl ?_
        refine nm_thn ?_
        refine ws_seqN SmoothOf_n91 SmoothOf_n92 rfl rfl rfl ?_
        refine ws_seqN SmoothOf_n93 SmoothOf_n94 rfl rfl rfl ?_
        refine ws_region rfl ?_
        refine wla 0 1 rfl rfl rfl rfl rfl rfl rfl ?_
        refine wl_end rfl ?_
        refine nm_thn ?_
        refine ws_blockN SmoothOf_n95 8 rfl rfl rfl ?_
        refine ws_loopE (fun mx_ ax_ wx_ => ∃ (a6 : Nat) (nu : List Int) (vrn : Value), mx_ = 2 * d.crs.length - a6 ∧ Env 188 [(1, .int .i64 (k : Int)), (2, .pointer (some ⟨gb1, 0, none⟩)), (4, .pointer (some ⟨gb2, 0, none⟩)), (10, .int .i64 (2 * (d.crs.length : Int))), (11, vrw2), (14, vrt), (15, .pointer (some ⟨gb7, 0, none⟩)), (18, vrn), (19, .int .i64 ((cn (rtB2 cl oc) (a6 + 1) + 1 : Nat) : Int)), (20, .int .i64 ((a6 + 1 : Nat) : Int))] ax_ ∧ SH wx_ M X [Rs.row cdInt vrn nu, Rs.box gb7 51 [.slice none 0 0, .int .i64 (d.loops + (cn (loB2 cl oc) (a6 + 1) : Int))], Rs.row cdBool vrt th, Rs.row cdInt vrw2 cl, Rs.box gb2 51 [.slice none 0 0, .int .i64 0], Rs.box gb1 51 [.slice dcrsA d.crs.length dcrsc, .int .i64 d.loops]] ∧ a6 ≤ 2 * d.crs.length ∧ nu.length = 2 * d.crs.length + 1 ∧ (∀ x, x < a6 + 1 → rtB2 cl oc x = true → ga nu x = (cn (rtB2 cl oc) (x + 1) : Int))) rfl ?_ ?_
        ·intro ax_ hax_
         refine ⟨_, ⟨0, _, _, rfl, hax_.sub ⟨rfl, rfl, rfl, rfl, rfl, rfl, rfl, rfl, rfl, rfl, trivial⟩, S116.pick [0, 1, 2, 3, 4, 5] [_, _, _, _, _, _] (by decide) ⟨rfl, rfl, rfl, rfl, rfl, rfl, trivial⟩, ?hq26f0, ?hq26f1, ?hq26f2⟩⟩
         case hq26f0 => omega
         case hq26f1 => (rw [List.length_replicate]; omega)
         case hq26f2 => (intro x hx h9; obtain rfl : x = 0 := (by omega); cases h9)
        ·rintro m11 a11 w114 ⟨a6, nu, vrn, rfl, he11, S117, ha6, hnl, hnu⟩
         clear S116
         refine ws_in he11 (c := SmoothOf_n96) rfl ?_
         clear he11 a11
         have hcn1 := cn_le (rtB2 cl oc) (a6 + 1)
         have hcn2 := cn_le (loB2 cl oc) (a6 + 1)
         have hok6 := fun h => hok (a6 + 1) h
         refine ws_seqN SmoothOf_n97 SmoothOf_n98 rfl rfl rfl ?_
         refine ws_seqN SmoothOf_n99 SmoothOf_n100 rfl rfl rfl ?_
         refine ws_region rfl ?_
         refine wlm 0 1 rfl rfl rfl rfl rfl rfl rfl ?_
         refine wlm 1 2 rfl rfl rfl rfl rfl rfl rfl ?_
         refine wlo 2 3 rfl rfl rfl (wo_run rfl rfl (run_leq rfl rfl rfl) ?_)
         refine wl_end rfl ?_
         refine nm_sub [(1, _), (2, _), (4, _), (10, _), (11, _), (14, _), (15, _), (18, _), (19, _), (20, _), (109, _)] ⟨rfl, rfl, rfl, rfl, rfl, rfl, rfl, rfl, rfl, rfl, rfl, trivial⟩ ?_
         refine nm_thn ?_
         refine ws_condN SmoothOf_n101 SmoothOf_n102 rfl rfl rfl rfl (fun hb109 => ?_) (fun hb109 => ?_)
         ·replace hb109 := of_decide_eq_true hb109
          refine ws_skip rfl ?_
          refine nm_sub [(1, _), (2, _), (4, _), (10, _), (11, _), (14, _), (15, _), (18, _), (19, _), (20, _)] ⟨rfl, rfl, rfl, rfl, rfl, rfl, rfl, rfl, rfl, rfl, trivial⟩ ?_
          refine nm_thn ?_
          refine ws_seqN SmoothOf_n103 SmoothOf_n104 rfl rfl rfl ?_
          refine ws_blockN SmoothOf_n105 9 rfl rfl rfl ?_
          refine ws_seqN SmoothOf_n106 SmoothOf_n107 rfl rfl rfl ?_
          refine ws_region rfl ?_
          refine wlm 0 1 rfl rfl rfl rfl rfl rfl rfl ?_
          refine wlm 1 2 rfl rfl rfl rfl rfl rfl rfl ?_
          refine wlo 2 3 rfl rfl rfl (wo_run rfl rfl (run_indexR (C := cdBool) (i := 2) (a6 + 1) rfl rfl rfl sl117 S117 rfl (by first | rfl | omega) (by first | omega | (simp only [lens]; omega))) ?_)
          refine wlo 3 4 rfl rfl rfl (wo_run rfl rfl (run_load1 rfl rfl Try.underlying4 rfl (S117.rowc (i := 2) (e := a6 + 1) (j := 0) rfl (by first | omega | (simp only [lens]; omega)) rfl rfl)) ?_)
          refine wl_end rfl ?_
          refine nm_sub [(1, _), (2, _), (4, _), (10, _), (11, _), (14, _), (15, _), (18, _), (19, _), (20, _), (115, _)] ⟨rfl, rfl, rfl, rfl, rfl, rfl, rfl, rfl, rfl, rfl, rfl, trivial⟩ ?_
          refine nm_thn ?_
          refine ws_condN SmoothOf_n108 SmoothOf_n109 rfl rfl rfl rfl (fun hb115 => ?_) (fun hb115 => ?_)
          ·have hlx := hlf (a6 + 1) (by omega)
           obtain ⟨hq1, hq2, hq3⟩ := lf_root hab hk (x := a6 + 1) (by rw [← hclf, ← hocf, ← hlx]; exact hb115)
           rw [← hclf] at hq3
           have hrt : rtB2 cl oc (a6 + 1) = true := by unfold rtB2; rw [decide_eq_true hq3, ← hlx]; simp; exact hb115
           have hlo : loB2 cl oc (a6 + 1) = false := by unfold loB2; rw [← hlx]; simp; intro _; exact hb115
           refine ws_seqN SmoothOf_n110 SmoothOf_n111 rfl rfl rfl ?_
           refine ws_region rfl ?_
           refine wlm 0 1 rfl rfl rfl rfl rfl rfl rfl ?_
           refine wlm 1 2 rfl rfl rfl rfl rfl rfl rfl ?_
           refine wlm 2 3 rfl rfl rfl rfl rfl rfl rfl ?_
           refine wlo 3 4 rfl rfl rfl (wo_run rfl rfl (run_indexR (C := cdInt) (i := 0) (a6 + 1) rfl rfl rfl sl36 S117 rfl (by first | rfl | omega) (by first | omega | (simp only [lens]; omega))) ?_)
           refine wlo 4 5 rfl rfl rfl (wo_storeR (C := cdInt) (i := 0) (e := a6 + 1) (j := 0) (us := [_]) (H' := [_, _, _, _, _, _]) ((cn (rtB2 cl oc) (a6 + 1) + 1 : Nat) : Int) rfl rfl S117 rfl (by first | omega | (simp only [lens]; omega)) rfl rfl rfl sz3 rfl rfl rfl rfl ?_)
           intro w115 S118; clear S117
           refine wl_end rfl ?_
           refine nm_sub [(1, _), (2, _), (4, _), (10, _), (11, _), (14, _), (15, _), (18, _), (19, _), (20, _)] ⟨rfl, rfl, rfl, rfl, rfl, rfl, rfl, rfl, rfl, rfl, trivial⟩ ?_
           refine nm_thn ?_
           refine ws_region rfl ?_
           refine wlm 0 1 rfl rfl rfl rfl rfl rfl rfl ?_
           refine wlo 1 2 rfl rfl rfl (wo_run rfl rfl (run_add rfl rfl rfl (by first | omega | (simp only [lens]; omega))) ?_)
           refine wla 2 3 rfl rfl rfl rfl rfl rfl rfl ?_
           refine wl_end rfl ?_
           refine nm_blk ?_
           refine nm_sub [(1, _), (2, _), (4, _), (10, _), (11, _), (14, _), (15, _), (18, _), (19, _), (20, _)] ⟨rfl, rfl, rfl, rfl, rfl, rfl, rfl, rfl, rfl, rfl, trivial⟩ ?_
           refine nm_thn ?_
           refine ws_eq 19 (.int .i64 ((cn (rtB2 cl oc) (a6 + 1 + 1) + 1 : Nat) : Int)) rfl (int_eq (by rw [cn_yes hrt]; omega)) ?_
           rw [← cn_no hlo] at S118
           refine ws_region rfl ?_
           refine wlm 0 1 rfl rfl rfl rfl rfl rfl rfl ?_
           refine wlo 1 2 rfl rfl rfl (wo_run rfl rfl (run_add rfl rfl rfl (by first | omega | (simp only [lens]; omega))) ?_)
           refine wla 2 3 rfl rfl rfl rfl rfl rfl rfl ?_
           refine wl_end rfl ?_
           refine nm_lp ?_
           intro ax_ hax_
           refine ⟨_, ?hq27m, ⟨a6 + 1, _, _, rfl, hax_.sub ⟨rfl, rfl, rfl, rfl, rfl, rfl, rfl, rfl, rfl, rfl, trivial⟩, S118.pick [0, 1, 2, 3, 4, 5] [_, _, _, _, _, _] (by decide) ⟨rfl, rfl, rfl, rfl, rfl, rfl, trivial⟩, ?hq27f0, ?hq27f1, ?hq27f2⟩⟩
           case hq27f0 => omega
           case hq27f1 => first | assumption | simpa using hnl
           case hq27f2 => first | (intro x hx h9; by_cases e : x = a6 + 1; (subst e; rw [ga_set _ _ _ _ (by omega), if_pos rfl, cn_yes h9]); (rw [ga_set _ _ _ _ (by omega), if_neg (fun h => e h.symm)]; exact hnu x (by omega) h9)) | (intro x hx h9; by_cases e : x = a6 + 1; (subst e; rw [hrt] at h9; cases h9); exact hnu x (by omega) h9)
           case hq27m => omega
          ·refine ws_seqN SmoothOf_n112 SmoothOf_n113 rfl rfl rfl ?_
           refine ws_region rfl ?_
           refine wlm 0 1 rfl rfl rfl rfl rfl rfl rfl ?_
           refine wlm 1 2 rfl rfl rfl rfl rfl rfl rfl ?_
           refine wlo 2 3 rfl rfl rfl (wo_run rfl rfl (run_indexR (C := cdInt) (i := 3) (a6 + 1) rfl rfl rfl sl36 S117 rfl (by first | rfl | omega) (by first | omega | (simp only [lens]; omega))) ?_)
           refine wlo 3 4 rfl rfl rfl (wo_run rfl rfl (run_load1 rfl rfl Try.underlying3 rfl (S117.rowc (i := 3) (e := a6 + 1) (j := 0) rfl (by first | omega | (simp only [lens]; omega)) rfl rfl)) ?_)
           refine wlm 4 5 rfl rfl rfl rfl rfl rfl rfl ?_
           refine wlo 5 6 rfl rfl rfl (wo_run rfl rfl (run_eql rfl rfl rfl) ?_)
           refine wl_end rfl ?_
           refine nm_sub [(1, _), (2, _), (4, _), (10, _), (11, _), (14, _), (15, _), (18, _), (19, _), (20, _), (127, _)] ⟨rfl, rfl, rfl, rfl, rfl, rfl, rfl, rfl, rfl, rfl, rfl, trivial⟩ ?_
           refine nm_thn ?_
           refine ws_condN SmoothOf_n114 SmoothOf_n115 rfl rfl rfl rfl (fun hb127 => ?_) (fun hb127 => ?_)
           ·replace hb127 := of_decide_eq_true hb127
            have hlx := hlf (a6 + 1) (by omega)
            have hrt : rtB2 cl oc (a6 + 1) = false := by unfold rtB2; rw [← hlx]; simp; intro _; exact hb115
            have hlo : loB2 cl oc (a6 + 1) = true := by unfold loB2; rw [decide_eq_true (show ga cl (a6 + 1) = ((a6 + 1 : Nat) : Int) from hb127), ← hlx]; simp; exact hb115
            refine ws_region rfl ?_
            refine wlo 0 1 rfl rfl rfl (wo_run rfl rfl (run_fieldAddr rfl rfl Try.underlying51 rfl (ce3) (nf3)) ?_)
            refine wlo 1 2 rfl rfl rfl (wo_run rfl rfl (run_load1 rfl rfl Try.underlying3 rfl (S117.boxc (i := 1) rfl rfl)) ?_)
            refine wlo 2 3 rfl rfl rfl (wo_run rfl rfl (run_add rfl rfl rfl (by first | omega | (simp only [lens]; omega))) ?_)
            refine wlo 3 4 rfl rfl rfl (wo_run rfl rfl (run_fieldAddr rfl rfl Try.underlying51 rfl (ce3) (nf3)) ?_)
            refine wlo 4 5 rfl rfl rfl (wo_storeB (i := 1) (us := [_]) (l' := [_, _]) (H' := [_, _, _, _, _, _]) rfl rfl S117 rfl rfl rfl rfl sz3 rfl rfl rfl rfl ?_)
            intro w116 S119; clear S117
            refine wl_end rfl ?_
            refine nm_blk ?_
            refine nm_sub [(1, _), (2, _), (4, _), (10, _), (11, _), (14, _), (15, _), (18, _), (19, _), (20, _)] ⟨rfl, rfl, rfl, rfl, rfl, rfl, rfl, rfl, rfl, rfl, trivial⟩ ?_
            refine nm_thn ?_
            refine ws_eq 19 (.int .i64 ((cn (rtB2 cl oc) (a6 + 1 + 1) + 1 : Nat) : Int)) rfl (int_eq (by rw [cn_no hrt])) ?_
            rw [cast_add, ← cn_yes hlo] at S119
            refine ws_region rfl ?_
            refine wlm 0 1 rfl rfl rfl rfl rfl rfl rfl ?_
            refine wlo 1 2 rfl rfl rfl (wo_run rfl rfl (run_add rfl rfl rfl (by first | omega | (simp only [lens]; omega))) ?_)
            refine wla 2 3 rfl rfl rfl rfl rfl rfl rfl ?_
            refine wl_end rfl ?_
            refine nm_lp ?_
            intro ax_ hax_
            refine ⟨_, ?hq28m, ⟨a6 + 1, _, _, rfl, hax_.sub ⟨rfl, rfl, rfl, rfl, rfl, rfl, rfl, rfl, rfl, rfl, trivial⟩, S119.pick [0, 1, 2, 3, 4, 5] [_, _, _, _, _, _] (by decide) ⟨rfl, rfl, rfl, rfl, rfl, rfl, trivial⟩, ?hq28f0, ?hq28f1, ?hq28f2⟩⟩
            case hq28f0 => omega
            case hq28f1 => first | assumption | simpa using hnl
            case hq28f2 => first | (intro x hx h9; by_cases e : x = a6 + 1; (subst e; rw [ga_set _ _ _ _ (by omega), if_pos rfl, cn_yes h9]); (rw [ga_set _ _ _ _ (by omega), if_neg (fun h => e h.symm)]; exact hnu x (by omega) h9)) | (intro x hx h9; by_cases e : x = a6 + 1; (subst e; rw [hrt] at h9; cases h9); exact hnu x (by omega) h9)
            case hq28m => omega
           ·replace hb127 := of_decide_eq_false hb127
            have hlx := hlf (a6 + 1) (by omega)
            have hrt : rtB2 cl oc (a6 + 1) = false := by unfold rtB2; rw [← hlx]; simp; intro _; exact hb115
            have hlo : loB2 cl oc (a6 + 1) = false := by unfold loB2; rw [decide_eq_false (show ¬ ga cl (a6 + 1) = ((a6 + 1 : Nat) : Int) from hb127)]; simp
            refine ws_skip rfl ?_
            refine nm_blk ?_
            refine nm_sub [(1, _), (2, _), (4, _), (10, _), (11, _), (14, _), (15, _), (18, _), (19, _), (20, _)] ⟨rfl, rfl, rfl, rfl, rfl, rfl, rfl, rfl, rfl, rfl, trivial⟩ ?_
            refine nm_thn ?_
            refine ws_eq 19 (.int .i64 ((cn (rtB2 cl oc) (a6 + 1 + 1) + 1 : Nat) : Int)) rfl (int_eq (by rw [cn_no hrt])) ?_
            rw [← cn_no hlo] at S117
            refine ws_region rfl ?_
            refine wlm 0 1 rfl rfl rfl rfl rfl rfl rfl ?_
            refine wlo 1 2 rfl rfl rfl (wo_run rfl rfl (run_add rfl rfl rfl (by first | omega | (simp only [lens]; omega))) ?_)
            refine wla 2 3 rfl rfl rfl rfl rfl rfl rfl ?_
            refine wl_end rfl ?_
            refine nm_lp ?_
            intro ax_ hax_
            refine ⟨_, ?hq29m, ⟨a6 + 1, _, _, rfl, hax_.sub ⟨rfl, rfl, rfl, rfl, rfl, rfl, rfl, rfl, rfl, rfl, trivial⟩, S117.pick [0, 1, 2, 3, 4, 5] [_, _, _, _, _, _] (by decide) ⟨rfl, rfl, rfl, rfl, rfl, rfl, trivial⟩, ?hq29f0, ?hq29f1, ?hq29f2⟩⟩
            case hq29f0 => omega
            case hq29f1 => first | assumption | simpa using hnl
            case hq29f2 => first | (intro x hx h9; by_cases e : x = a6 + 1; (subst e; rw [ga_set _ _ _ _ (by omega), if_pos rfl, cn_yes h9]); (rw [ga_set _ _ _ _ (by omega), if_neg (fun h => e h.symm)]; exact hnu x (by omega) h9)) | (intro x hx h9; by_cases e : x = a6 + 1; (subst e; rw [hrt] at h9; cases h9); exact hnu x (by omega) h9)
            case hq29m => omega
         ·replace hb109 := of_decide_eq_false hb109
          refine ws_exit rfl rfl ?_
          refine nm_sub [(1, _), (2, _), (4, _), (11, _), (15, _), (18, _)] ⟨rfl, rfl, rfl, rfl, rfl, rfl, trivial⟩ ?_
          refine nm_thn ?_
          refine ws_seqN SmoothOf_n116 SmoothOf_n117 rfl rfl rfl ?_
          refine ws_seqN SmoothOf_n118 SmoothOf_n119 rfl rfl rfl ?_
          obtain rfl : a6 = 2 * d.crs.length := by omega
          refine ws_region rfl ?_
          refine wla 0 1 rfl rfl rfl rfl rfl rfl rfl ?_
          refine wl_end rfl ?_
          refine nm_thn ?_
          refine ws_blockN SmoothOf_n120 10 rfl rfl rfl ?_
          have S120 := S117.nilrow cdCr; clear S117
          refine ws_loopE (fun mx_ ax_ wx_ => ∃ (i5 : Nat) (c5 : List Cr) (vr5 : Value), mx_ = d.crs.length - i5 ∧ Env 188 [(1, .int .i64 (k : Int)), (2, .pointer (some ⟨gb1, 0, none⟩)), (4, .pointer (some ⟨gb2, 0, none⟩)), (11, vrw2), (15, .pointer (some ⟨gb7, 0, none⟩)), (18, vrn), (21, .int .i64 (i5 : Int))] ax_ ∧ SH wx_ M X [Rs.row cdCr vr5 c5, Rs.row cdInt vrn nu, Rs.box gb7 51 [vr5, .int .i64 (d.loops + (cn (loB2 cl oc) (2 * d.crs.length + 1) : Int))], Rs.row cdInt vrw2 cl, Rs.box gb2 51 [.slice none 0 0, .int .i64 0], Rs.box gb1 51 [.slice dcrsA d.crs.length dcrsc, .int .i64 d.loops]] ∧ i5 ≤ d.crs.length ∧ c5 = (remN d k i5).map (nuC cl oc)) rfl ?_ ?_
          ·intro ax_ hax_
           refine ⟨_, ⟨0, _, _, rfl, hax_.sub ⟨rfl, rfl, rfl, rfl, rfl, rfl, rfl, trivial⟩, S120.pick [0, 1, 2, 4, 5, 6] [_, _, _, _, _, _] (by decide) ⟨rfl, rfl, rfl, rfl, rfl, rfl, trivial⟩, ?hq30f0, ?hq30f1⟩⟩
           case hq30f0 => omega
           case hq30f1 => rfl
          ·rintro m12 a12 w117 ⟨i5, c5, vr5, rfl, he12, S121, hi5, hc5⟩
           clear S120
           refine ws_in he12 (c := SmoothOf_n121) rfl ?_
           clear he12 a12
           have hcl5 : c5.length ≤ i5 := by rw [hc5, List.length_map]; exact remN_len _ _ _
           refine ws_seqN SmoothOf_n122 SmoothOf_n123 rfl rfl rfl ?_
           refine ws_seqN SmoothOf_n124 SmoothOf_n125 rfl rfl rfl ?_
           refine ws_region rfl ?_
           refine wlm 0 1 rfl rfl rfl rfl rfl rfl rfl ?_
           refine wlo 1 2 rfl rfl rfl (wo_run rfl rfl (run_fieldAddr rfl rfl Try.underlying51 rfl (ce49) (nf49)) ?_)
           refine wlo 2 3 rfl rfl rfl (wo_run rfl rfl (run_load1 rfl rfl Try.underlying49 rfl (S121.boxc (i := 5) rfl rfl)) ?_)
           refine wlo 3 4 rfl rfl rfl (wo_run rfl rfl (run_len rfl rfl rfl rfl rfl rfl Try.underlying49) ?_)
           refine wlo 4 5 rfl rfl rfl (wo_run rfl rfl (run_lss rfl rfl rfl) ?_)
           refine wl_end rfl ?_
           refine nm_sub [(1, _), (2, _), (4, _), (11, _), (15, _), (18, _), (21, _), (136, _)] ⟨rfl, rfl, rfl, rfl, rfl, rfl, rfl, rfl, trivial⟩ ?_
           refine nm_thn ?_
           refine ws_condN SmoothOf_n126 SmoothOf_n127 rfl rfl rfl rfl (fun hb136 => ?_) (fun hb136 => ?_)
           ·replace hb136 := of_decide_eq_true hb136
            refine ws_skip rfl ?_
            refine nm_sub [(1, _), (2, _), (4, _), (11, _), (15, _), (18, _), (21, _)] ⟨rfl, rfl, rfl, rfl, rfl, rfl, rfl, trivial⟩ ?_
            refine nm_thn ?_
            refine ws_seqN SmoothOf_n128 SmoothOf_n129 rfl rfl rfl ?_
            refine ws_blockN SmoothOf_n130 11 rfl rfl rfl ?_
            refine ws_seqN SmoothOf_n131 SmoothOf_n132 rfl rfl rfl ?_
            refine ws_region rfl ?_
            refine wlm 0 1 rfl rfl rfl rfl rfl rfl rfl ?_
            refine wlm 1 2 rfl rfl rfl rfl rfl rfl rfl ?_
            refine wlo 2 3 rfl rfl rfl (wo_run rfl rfl (run_neq rfl rfl rfl) ?_)
            refine wl_end rfl ?_
            refine nm_sub [(1, _), (2, _), (4, _), (11, _), (15, _), (18, _), (21, _), (141, _)] ⟨rfl, rfl, rfl, rfl, rfl, rfl, rfl, rfl, trivial⟩ ?_
            refine nm_thn ?_
            refine ws_condN SmoothOf_n133 SmoothOf_n134 rfl rfl rfl rfl (fun hb141 => ?_) (fun hb141 => ?_)
            ·replace hb141 := of_decide_eq_true hb141
             have hmem7 : ga d.crs i5 ∈ remL d k := rem_in (by omega) (by omega)
             have hside0 : 1 ≤ (ga d.crs i5).a ∧ (ga d.crs i5).a ≤ 2 * (d.crs.length : Int) := rem_arc hab (Nat.le_refl _) hmem7 (s := 0) (by omega)
             obtain ⟨hoo0, hpp0, _⟩ := hok (ga d.crs i5).a.toNat (by omega)
             have hside1 : 1 ≤ (ga d.crs i5).b ∧ (ga d.crs i5).b ≤ 2 * (d.crs.length : Int) := rem_arc hab (Nat.le_refl _) hmem7 (s := 1) (by omega)
             obtain ⟨hoo1, hpp1, _⟩ := hok (ga d.crs i5).b.toNat (by omega)
             have hside2 : 1 ≤ (ga d.crs i5).c ∧ (ga d.crs i5).c ≤ 2 * (d.crs.length : Int) := rem_arc hab (Nat.le_refl _) hmem7 (s := 2) (by omega)
             obtain ⟨hoo2, hpp2, _⟩ := hok (ga d.crs i5).c.toNat (by omega)
             have hside3 : 1 ≤ (ga d.crs i5).d ∧ (ga d.crs i5).d ≤ 2 * (d.crs.length : Int) := rem_arc hab (Nat.le_refl _) hmem7 (s := 3) (by omega)
             obtain ⟨hoo3, hpp3, _⟩ := hok (ga d.crs i5).d.toNat (by omega)
             have hnv : ∀ s, s < 4 → ga nu (ga cl (crArc (ga d.crs i5) s).toNat).toNat = nuA cl oc (crArc (ga d.crs i5) s) := fun s hs => by
              have := rem_nu hab hk (nu := nu) (by rw [← hclf, ← hocf]; exact hnu) hmem7 hs
              rw [← hclf, ← hocf] at this
              exact this
             refine ws_seqN SmoothOf_n135 SmoothOf_n136 rfl rfl rfl ?_
             refine ws_region rfl ?_
             refine wlo 0 1 rfl rfl rfl (wo_run rfl rfl (run_fieldAddr rfl rfl Try.underlying51 rfl (ce49) (nf49)) ?_)
             refine wlo 1 2 rfl rfl rfl (wo_run rfl rfl (run_load1 rfl rfl Try.underlying49 rfl (S121.boxc (i := 5) rfl rfl)) ?_)
             refine wlm 2 3 rfl rfl rfl rfl rfl rfl rfl ?_
             refine wlo 3 4 rfl rfl rfl (wo_run rfl rfl (run_indexM (C := cdCr) i5 rfl rfl rfl sl49 (by first | rfl | omega) hdcrs (by first | omega | (simp only [lens]; omega))) ?_)
             refine wlo 4 5 rfl rfl rfl (wo_run rfl rfl (run_loadN (us := [_, _, _, _, _]) rfl rfl Try.underlying108 rfl sz108 (hdcrs.cellsAt S121.um (e := i5) (by first | omega | (simp only [lens]; omega)) (j := 0) ⟨rfl, rfl, rfl, rfl, rfl, trivial⟩)) ?_)
             refine wlo 5 6 rfl rfl rfl (wo_alloc (l := [_, _, _, _, _]) rfl rfl rfl zr108 rfl S121 ?_)
             intro gb8 w118 S122; clear S121
             refine wlo 6 7 rfl rfl rfl (wo_storeB (i := 0) (us := [_, _, _, _, _]) (l' := [_, _, _, _, _]) (H' := [_, _, _, _, _, _, _]) rfl rfl S122 rfl rfl rfl rfl sz108 rfl rfl rfl rfl ?_)
             intro w119 S123; clear S122
             refine wl_end rfl ?_
             refine nm_sub [(1, _), (2, _), (4, _), (11, _), (15, _), (18, _), (21, _), (22, _)] ⟨rfl, rfl, rfl, rfl, rfl, rfl, rfl, rfl, trivial⟩ ?_
             refine nm_thn ?_
             refine ws_draw rfl (by kernel_rfl) S123 41 rfl ?_
             clear S123
             refine wa_takeP (i := 0) (d := 147) 40 rfl (by kernel_rfl) (by kernel_rfl) (by kernel_rfl) rfl rfl rfl (fun w120 => run_fieldAddr rfl rfl Try.underlying51 rfl (ce49) (nf49)) ?_
             refine wa_take (i := 1) (d := 148) 39 rfl (by kernel_rfl) (by kernel_rfl) (by kernel_rfl) rfl rfl rfl (fun M68 N67 w121 hle80 S125 => .inl (run_load1 rfl rfl Try.underlying49 rfl (S125.suf.boxc (i := 3) rfl rfl))) ?_
             refine wa_takeP (i := 2) (d := 149) 38 rfl (by kernel_rfl) (by kernel_rfl) (by kernel_rfl) rfl rfl rfl (fun w122 => run_move rfl rfl) ?_
             refine wa_takeP (i := 3) (d := 150) 37 rfl (by kernel_rfl) (by kernel_rfl) (by kernel_rfl) rfl rfl rfl (fun w123 => run_move rfl rfl) ?_
             refine wa_takeP (i := 4) (d := 151) 36 rfl (by kernel_rfl) (by kernel_rfl) (by kernel_rfl) rfl rfl rfl (fun w124 => run_fieldAddr rfl rfl Try.underlying108 rfl (ce3) (nf3)) ?_
             refine wa_take (i := 5) (d := 152) 35 rfl (by kernel_rfl) (by kernel_rfl) (by kernel_rfl) rfl rfl rfl (fun M72 N71 w125 hle84 S129 => .inl (run_load1 rfl rfl Try.underlying3 rfl (S129.suf.boxc (i := 0) rfl rfl))) ?_
             refine wa_take (i := 6) (d := 153) 34 rfl (by kernel_rfl) (by kernel_rfl) (by kernel_rfl) rfl rfl rfl (fun M73 N72 w126 hle85 S130 => .inl (run_indexR (C := cdInt) (i := 4) (((ga d.crs i5).a).toNat) rfl rfl rfl sl36 S130.suf rfl (by first | rfl | omega) (by first | omega | (simp only [lens]; omega)))) ?_
             refine wa_take (i := 7) (d := 154) 33 rfl (by kernel_rfl) (by kernel_rfl) (by kernel_rfl) rfl rfl rfl (fun M74 N73 w127 hle86 S131 => .inl (run_load1 rfl rfl Try.underlying3 rfl (S131.suf.rowc (i := 4) (e := ((ga d.crs i5).a).toNat) (j := 0) rfl (by first | omega | (simp only [lens]; omega)) rfl rfl))) ?_
             refine wa_take (i := 8) (d := 155) 32 rfl (by kernel_rfl) (by kernel_rfl) (by kernel_rfl) rfl rfl rfl (fun M75 N74 w128 hle87 S132 => .inl (run_indexR (C := cdInt) (i := 2) ((ga cl (((ga d.crs i5).a).toNat)).toNat) rfl rfl rfl sl36 S132.suf rfl (by first | rfl | omega) (by first | omega | (simp only [lens]; omega)))) ?_
             refine wa_take (i := 9) (d := 156) 31 rfl (by kernel_rfl) (by kernel_rfl) (by kernel_rfl) rfl rfl rfl (fun M76 N75 w129 hle88 S133 => .inl (run_load1 rfl rfl Try.underlying3 rfl (S133.suf.rowc (i := 2) (e := (ga cl (((ga d.crs i5).a).toNat)).toNat) (j := 0) rfl (by first | omega | (simp only [lens]; omega)) rfl rfl))) ?_
             refine wa_takeP (i := 10) (d := 157) 30 rfl (by kernel_rfl) (by kernel_rfl) (by kernel_rfl) rfl rfl rfl (fun w130 => run_move rfl rfl) ?_
             refine wa_takeP (i := 11) (d := 158) 29 rfl (by kernel_rfl) (by kernel_rfl) (by kernel_rfl) rfl rfl rfl (fun w131 => run_move rfl rfl) ?_
             refine wa_takeP (i := 12) (d := 159) 28 rfl (by kernel_rfl) (by kernel_rfl) (by kernel_rfl) rfl rfl rfl (fun w132 => run_fieldAddr rfl rfl Try.underlying108 rfl (ce3) (nf3)) ?_
             refine wa_take (i := 13) (d := 160) 27 rfl (by kernel_rfl) (by kernel_rfl) (by kernel_rfl) rfl rfl rfl (fun M80 N79 w133 hle92 S137 => .inl (run_load1 rfl rfl Try.underlying3 rfl (S137.suf.boxc (i := 0) rfl rfl))) ?_
             refine wa_take (i := 14) (d := 161) 26 rfl (by kernel_rfl) (by kernel_rfl) (by kernel_rfl) rfl rfl rfl (fun M81 N80 w134 hle93 S138 => .inl (run_indexR (C := cdInt) (i := 4) (((ga d.crs i5).b).toNat) rfl rfl rfl sl36 S138.suf rfl (by first | rfl | omega) (by first | omega | (simp only [lens]; omega)))) ?_
             refine wa_take (i := 15) (d := 162) 25 rfl (by kernel_rfl) (by kernel_rfl) (by kernel_rfl) rfl rfl rfl (fun M82 N81 w135 hle94 S139 => .inl (run_load1 rfl rfl Try.underlying3 rfl (S139.suf.rowc (i := 4) (e := ((ga d.crs i5).b).toNat) (j := 0) rfl (by first | omega | (simp only [lens]; omega)) rfl rfl))) ?_
             refine wa_take (i := 16) (d := 163) 24 rfl (by kernel_rfl) (by kernel_rfl) (by kernel_rfl) rfl rfl rfl (fun M83 N82 w136 hle95 S140 => .inl (run_indexR (C := cdInt) (i := 2) ((ga cl (((ga d.crs i5).b).toNat)).toNat) rfl rfl rfl sl36 S140.suf rfl (by first | rfl | omega) (by first | omega | (simp only [lens]; omega)))) ?_
             refine wa_take (i := 17) (d := 164) 23 rfl (by kernel_rfl) (by kernel_rfl) (by kernel_rfl) rfl rfl rfl (fun M84 N83 w137 hle96 S141 => .inl (run_load1 rfl rfl Try.underlying3 rfl (S141.suf.rowc (i := 2) (e := (ga cl (((ga d.crs i5).b).toNat)).toNat) (j := 0) rfl (by first | omega | (simp only [lens]; omega)) rfl rfl))) ?_
             refine wa_takeP (i := 18) (d := 165) 22 rfl (by kernel_rfl) (by kernel_rfl) (by kernel_rfl) rfl rfl rfl (fun w138 => run_move rfl rfl) ?_
             refine wa_takeP (i := 19) (d := 166) 21 rfl (by kernel_rfl) (by kernel_rfl) (by kernel_rfl) rfl rfl rfl (fun w139 => run_move rfl rfl) ?_
             refine wa_takeP (i := 20) (d := 167) 20 rfl (by kernel_rfl) (by kernel_rfl) (by kernel_rfl) rfl rfl rfl (fun w140 => run_fieldAddr rfl rfl Try.underlying108 rfl (ce3) (nf3)) ?_
             refine wa_take (i := 21) (d := 168) 19 rfl (by kernel_rfl) (by kernel_rfl) (by kernel_rfl) rfl rfl rfl (fun M88 N87 w141 hle100 S145 => .inl (run_load1 rfl rfl Try.underlying3 rfl (S145.suf.boxc (i := 0) rfl rfl))) ?_
             refine wa_take (i := 22) (d := 169) 18 rfl (by kernel_rfl) (by kernel_rfl) (by kernel_rfl) rfl rfl rfl (fun M89 N88 w142 hle101 S146 => .inl (run_indexR (C := cdInt) (i := 4) (((ga d.crs i5).c).toNat) rfl rfl rfl sl36 S146.suf rfl (by first | rfl | omega) (by first | omega | (simp only [lens]; omega)))) ?_
             refine wa_take (i := 23) (d := 170) 17 rfl (by kernel_rfl) (by kernel_rfl) (by kernel_rfl) rfl rfl rfl (fun M90 N89 w143 hle102 S147 => .inl (run_load1 rfl rfl Try.underlying3 rfl (S147.suf.rowc (i := 4) (e := ((ga d.crs i5).c).toNat) (j := 0) rfl (by first | omega | (simp only [lens]; omega)) rfl rfl))) ?_
             refine wa_take (i := 24) (d := 171) 16 rfl (by kernel_rfl) (by kernel_rfl) (by kernel_rfl) rfl rfl rfl (fun M91 N90 w144 hle103 S148 => .inl (run_indexR (C := cdInt) (i := 2) ((ga cl (((ga d.crs i5).c).toNat)).toNat) rfl rfl rfl sl36 S148.suf rfl (by first | rfl | omega) (by first | omega | (simp only [lens]; omega)))) ?_
             refine wa_take (i := 25) (d := 172) 15 rfl (by kernel_rfl) (by kernel_rfl) (by kernel_rfl) rfl rfl rfl (fun M92 N91 w145 hle104 S149 => .inl (run_load1 rfl rfl Try.underlying3 rfl (S149.suf.rowc (i := 2) (e := (ga cl (((ga d.crs i5).c).toNat)).toNat) (j := 0) rfl (by first | omega | (simp only [lens]; omega)) rfl rfl))) ?_
             refine wa_takeP (i := 26) (d := 173) 14 rfl (by kernel_rfl) (by kernel_rfl) (by kernel_rfl) rfl rfl rfl (fun w146 => run_move rfl rfl) ?_
             refine wa_takeP (i := 27) (d := 174) 13 rfl (by kernel_rfl) (by kernel_rfl) (by kernel_rfl) rfl rfl rfl (fun w147 => run_move rfl rfl) ?_
             refine wa_takeP (i := 28) (d := 175) 12 rfl (by kernel_rfl) (by kernel_rfl) (by kernel_rfl) rfl rfl rfl (fun w148 => run_fieldAddr rfl rfl Try.underlying108 rfl (ce3) (nf3)) ?_
             refine wa_take (i := 29) (d := 176) 11 rfl (by kernel_rfl) (by kernel_rfl) (by kernel_rfl) rfl rfl rfl (fun M96 N95 w149 hle108 S153 => .inl (run_load1 rfl rfl Try.underlying3 rfl (S153.suf.boxc (i := 0) rfl rfl))) ?_
             refine wa_take (i := 30) (d := 177) 10 rfl (by kernel_rfl) (by kernel_rfl) (by kernel_rfl) rfl rfl rfl (fun M97 N96 w150 hle109 S154 => .inl (run_indexR (C := cdInt) (i := 4) (((ga d.crs i5).d).toNat) rfl rfl rfl sl36 S154.suf rfl (by first | rfl | omega) (by first | omega | (simp only [lens]; omega)))) ?_
             refine wa_take (i := 31) (d := 178) 9 rfl (by kernel_rfl) (by kernel_rfl) (by kernel_rfl) rfl rfl rfl (fun M98 N97 w151 hle110 S155 => .inl (run_load1 rfl rfl Try.underlying3 rfl (S155.suf.rowc (i := 4) (e := ((ga d.crs i5).d).toNat) (j := 0) rfl (by first | omega | (simp only [lens]; omega)) rfl rfl))) ?_
             refine wa_take (i := 32) (d := 179) 8 rfl (by kernel_rfl) (by kernel_rfl) (by kernel_rfl) rfl rfl rfl (fun M99 N98 w152 hle111 S156 => .inl (run_indexR (C := cdInt) (i := 2) ((ga cl (((ga d.crs i5).d).toNat)).toNat) rfl rfl rfl sl36 S156.suf rfl (by first | rfl | omega) (by first | omega | (simp only [lens]; omega)))) ?_
             refine wa_take (i := 33) (d := 180) 7 rfl (by kernel_rfl) (by kernel_rfl) (by kernel_rfl) rfl rfl rfl (fun M100 N99 w153 hle112 S157 => .inl (run_load1 rfl rfl Try.underlying3 rfl (S157.suf.rowc (i := 2) (e := (ga cl (((ga d.crs i5).d).toNat)).toNat) (j := 0) rfl (by first | omega | (simp only [lens]; omega)) rfl rfl))) ?_
             refine wa_takeP (i := 34) (d := 181) 6 rfl (by kernel_rfl) (by kernel_rfl) (by kernel_rfl) rfl rfl rfl (fun w154 => run_fieldAddr rfl rfl Try.underlying108 rfl (ce4) (nf4)) ?_
             refine wa_take (i := 35) (d := 182) 5 rfl (by kernel_rfl) (by kernel_rfl) (by kernel_rfl) rfl rfl rfl (fun M102 N101 w155 hle114 S159 => .inl (run_load1 rfl rfl Try.underlying4 rfl (S159.suf.boxc (i := 0) rfl rfl))) ?_
             refine wa_take (i := 36) (d := 183) 4 rfl (by kernel_rfl) (by kernel_rfl) (by kernel_rfl) rfl rfl rfl (fun M103 N102 w156 hle115 S160 => .inl (run_build (l := [_, _, _, _, _]) rfl rfl st108 rfl rfl)) ?_
             refine wa_only (i := 37) 3 rfl (by kernel_rfl) rfl rfl (fun w158 S162 => ?_)
             refine (wo_buildSlice1 (C := cdCr) (l := [_, _, _, _, _]) rfl rfl rfl rfl sl49 rfl rfl rfl rfl S162 ?_)
             intro gb9 w159 S163; clear S162
             refine LeftW.grow [_] (Hp.le_refl _) S163 ?_; clear S163
             change WA _ _ _ _ _ _ _ _ _ _ _ _ [_, _, _, _, _, _, _, _]
             refine wa_only (i := 38) 2 rfl (by kernel_rfl) rfl rfl (fun w161 S165 => ?_)
             refine (wo_append1 (C := cdCr) (i := 2) (q := 0) (⟨ga nu ((ga cl (((ga d.crs i5).a).toNat)).toNat), ga nu ((ga cl (((ga d.crs i5).b).toNat)).toNat), ga nu ((ga cl (((ga d.crs i5).c).toNat)).toNat), ga nu ((ga cl (((ga d.crs i5).d).toNat)).toNat), (ga d.crs i5).plus⟩ : Cr) rfl rfl rfl rfl rfl rfl rfl rfl sl49 S165 rfl rfl rfl (by show (_ + 1) * 40 ≤ _; first | omega | (simp only [lens]; omega)) ?_)
             intro vr10 w162 S166; clear S165
             have S167 := S166.pick [1, 2, 3, 4, 5, 6, 7] [_, _, _, _, _, _, _] (by decide) ⟨rfl, rfl, rfl, rfl, rfl, rfl, rfl, trivial⟩; clear S166
             refine LeftW.turn (by kernel_rfl) S167 ?_; clear S167
             change WA _ _ _ _ _ _ _ _ _ _ _ _ [_, _, _, _, _, _, _]
             refine wa_takeP (i := 39) (d := 186) 1 rfl (by kernel_rfl) (by kernel_rfl) (by kernel_rfl) rfl rfl rfl (fun w163 => run_fieldAddr rfl rfl Try.underlying51 rfl (ce49) (nf49)) ?_
             refine wa_only (i := 40) 0 rfl (by kernel_rfl) rfl rfl (fun w165 S170 => ?_)
             refine (wo_storeB (i := 3) (us := [_]) (l' := [_, _]) (H' := [_, _, _, _, _, _, _]) rfl rfl S170 rfl rfl rfl (S170.cells1 (i := 1) rfl) sz49 rfl (ones_cons (S170.one (i := 1) rfl) rfl) rfl rfl ?_)
             intro w166 S171; clear S170
             refine LeftW.turn (by kernel_rfl) S171 ?_; clear S171
             change WA _ _ _ _ _ _ _ _ _ _ _ _ [_, _, _, _, _, _, _]
             refine wa_end (by kernel_rfl) (fun w167 S172 => ?_)
             refine nm_blk ?_
             refine nm_sub [(1, _), (2, _), (4, _), (11, _), (15, _), (18, _), (21, _)] ⟨rfl, rfl, rfl, rfl, rfl, rfl, rfl, trivial⟩ ?_
             refine nm_thn ?_
             refine ws_region rfl ?_
             refine wlm 0 1 rfl rfl rfl rfl rfl rfl rfl ?_
             refine wlo 1 2 rfl rfl rfl (wo_run rfl rfl (run_add rfl rfl rfl (by first | omega | (simp only [lens]; omega))) ?_)
             refine wla 2 3 rfl rfl rfl rfl rfl rfl rfl ?_
             refine wl_end rfl ?_
             refine nm_lp ?_
             intro ax_ hax_
             refine ⟨_, ?hq31m, ⟨i5 + 1, _, _, rfl, hax_.sub ⟨rfl, rfl, rfl, rfl, rfl, rfl, rfl, trivial⟩, S172.pick [1, 2, 3, 4, 5, 6] [_, _, _, _, _, _] (by decide) ⟨rfl, rfl, rfl, rfl, rfl, rfl, trivial⟩, ?hq31f0, ?hq31f1⟩⟩
             case hq31f0 => omega
             case hq31f1 => first | (rw [remN, if_pos (by omega)]; exact hc5) | (rw [remN, if_neg (by omega), List.map_append, ← hc5]; refine congrArg _ ?_; show [(⟨ga nu (ga cl (crArc (ga d.crs i5) 0).toNat).toNat, ga nu (ga cl (crArc (ga d.crs i5) 1).toNat).toNat, ga nu (ga cl (crArc (ga d.crs i5) 2).toNat).toNat, ga nu (ga cl (crArc (ga d.crs i5) 3).toNat).toNat, (ga d.crs i5).plus⟩ : Cr)] = _; rw [hnv 0 (by omega), hnv 1 (by omega), hnv 2 (by omega), hnv 3 (by omega)]; rfl)
             case hq31m => omega
            ·replace hb141 := of_decide_eq_false hb141
             refine ws_skip rfl ?_
             refine nm_blk ?_
             refine nm_sub [(1, _), (2, _), (4, _), (11, _), (15, _), (18, _), (21, _)] ⟨rfl, rfl, rfl, rfl, rfl, rfl, rfl, trivial⟩ ?_
             refine nm_thn ?_
             refine ws_region rfl ?_
             refine wlm 0 1 rfl rfl rfl rfl rfl rfl rfl ?_
             refine wlo 1 2 rfl rfl rfl (wo_run rfl rfl (run_add rfl rfl rfl (by first | omega | (simp only [lens]; omega))) ?_)
             refine wla 2 3 rfl rfl rfl rfl rfl rfl rfl ?_
             refine wl_end rfl ?_
             refine nm_lp ?_
             intro ax_ hax_
             refine ⟨_, ?hq32m, ⟨i5 + 1, _, _, rfl, hax_.sub ⟨rfl, rfl, rfl, rfl, rfl, rfl, rfl, trivial⟩, S121.pick [0, 1, 2, 3, 4, 5] [_, _, _, _, _, _] (by decide) ⟨rfl, rfl, rfl, rfl, rfl, rfl, trivial⟩, ?hq32f0, ?hq32f1⟩⟩
             case hq32f0 => omega
             case hq32f1 => first | (rw [remN, if_pos (by omega)]; exact hc5) | (rw [remN, if_neg (by omega), List.map_append, ← hc5]; refine congrArg _ ?_; show [(⟨ga nu (ga cl (crArc (ga d.crs i5) 0).toNat).toNat, ga nu (ga cl (crArc (ga d.crs i5) 1).toNat).toNat, ga nu (ga cl (crArc (ga d.crs i5) 2).toNat).toNat, ga nu (ga cl (crArc (ga d.crs i5) 3).toNat).toNat, (ga d.crs i5).plus⟩ : Cr)] = _; rw [hnv 0 (by omega), hnv 1 (by omega), hnv 2 (by omega), hnv 3 (by omega)]; rfl)
             case hq32m => omega
           ·replace hb136 := of_decide_eq_false hb136
            refine ws_exit rfl rfl ?_
            refine nm_sub [(4, _), (15, _)] ⟨rfl, rfl, trivial⟩ ?_
            refine nm_thn ?_
            refine ws_seqN SmoothOf_n137 SmoothOf_n138 rfl rfl rfl ?_
            refine ws_region rfl ?_
            refine wlo 0 1 rfl rfl rfl (wo_run rfl rfl (run_loadN (us := [_, _]) rfl rfl Try.underlying51 rfl sz51 (S121.boxcs (i := 2) rfl ⟨rfl, rfl, trivial⟩)) ?_)
            refine wlo 1 2 rfl rfl rfl (wo_storeB (i := 4) (us := [_, _]) (l' := [_, _]) (H' := [_, _, _, _, _, _]) rfl rfl S121 rfl rfl rfl rfl sz51 rfl (ones_cons (S121.one (i := 0) rfl) (ones_cons rfl rfl)) rfl rfl ?_)
            intro w168 S173; clear S121
            refine wl_end rfl ?_
            refine nm_sub [(4, _)] ⟨rfl, trivial⟩ ?_
            refine nm_thn ?_
            obtain ⟨M108, hle120, S174, ⟨A2, c2, e2, hr2⟩⟩ := S173.pubrow (i := 0) (H' := [_, _, _, _, _, _]) rfl rfl (by show _ * 40 ≤ _; first | omega | (simp only [lens]; omega))
            clear S173; subst e2
            replace hdcrs := hdcrs.mono (Hp.un_mono hle120 S174.mx)
            refine ws_ret hC [_] rfl rfl ⟨⟨_, rfl, loadVarN (us := [_, _]) Try.underlying51 rfl sz51 (S174.boxcs (i := 4) rfl ⟨rfl, rfl, trivial⟩)⟩, trivial⟩ ?_
            refine ⟨_, rfl, _, hle120, (S174.pick [] [] (by decide) trivial), ?_⟩
            obtain rfl : i5 = d.crs.length := by omega
            have e9 : (smD d k).crs = c5 := by rw [hc5, hclf, hocf]; rfl
            have e8 : (smD d k).loops = d.loops + (cn (loB2 cl oc) (2 * d.crs.length + 1) : Int) := by rw [hclf, hocf]; rfl
            rw [e9, e8]
            exact ⟨_, _, rfl, hr2⟩
end Go.Proofs.Ytkcighnochjlgaa
