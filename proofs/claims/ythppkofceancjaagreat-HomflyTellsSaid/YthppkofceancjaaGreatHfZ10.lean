/- Part 10 of the proof of the law HomflyTells: the walks through its functions and the plain laws that they need. -/
import Derived.Test.YthppkofceancjaaGreatHfZ9
set_option linter.unusedSimpArgs false
set_option linter.unusedVariables false
namespace Go.Proofs.YthppkofceancjaaGreat
open Go.ChangeShapes Go.WideShapes Go.ChangeAt Go.RowKit
theorem rem_in {d : Dg} {k c i : Nat} (h1 : i < c) (h2 : i ≠ k) : ga d.crs i ∈ remN d k c := by
 induction c with
 | zero => omega
 | succ c ih =>
  rw [remN]
  split
  ·exact ih (by omega)
  ·by_cases e : i = c
   ·subst e; exact List.mem_append_right _ (List.mem_singleton.2 rfl)
   ·exact List.mem_append_left _ (ih (by omega))
theorem round2 (d : Dg) (k : Nat) (w : List Int) : roundG (sE1 d k) (sE2 d k) w 2 = stepW (stepW w (sp1 d k) (sq1 d k)) (sp2 d k) (sq2 d k) := rfl
noncomputable def SmoothOf_n0 : Code := Tryz.f54.body.getD .skip
noncomputable def SmoothOf_n1 : Code := cL SmoothOf_n0
noncomputable def SmoothOf_n2 : Code := cR SmoothOf_n0
noncomputable def SmoothOf_n3 : Code := cL SmoothOf_n2
noncomputable def SmoothOf_n4 : Code := cR SmoothOf_n2
noncomputable def SmoothOf_n5 : Code := cL SmoothOf_n4
noncomputable def SmoothOf_n6 : Code := cR SmoothOf_n4
noncomputable def SmoothOf_n7 : Code := cL SmoothOf_n6
noncomputable def SmoothOf_n8 : Code := cR SmoothOf_n6
noncomputable def SmoothOf_n9 : Code := cL SmoothOf_n7
noncomputable def SmoothOf_n10 : Code := cR SmoothOf_n7
noncomputable def SmoothOf_n11 : Code := cL SmoothOf_n10
noncomputable def SmoothOf_n12 : Code := cR SmoothOf_n10
noncomputable def SmoothOf_n13 : Code := cL SmoothOf_n8
noncomputable def SmoothOf_n14 : Code := cR SmoothOf_n8
noncomputable def SmoothOf_n15 : Code := cL SmoothOf_n14
noncomputable def SmoothOf_n16 : Code := cR SmoothOf_n14
noncomputable def SmoothOf_n17 : Code := cL SmoothOf_n16
noncomputable def SmoothOf_n18 : Code := cR SmoothOf_n16
noncomputable def SmoothOf_n19 : Code := cL SmoothOf_n17
noncomputable def SmoothOf_n20 : Code := cR SmoothOf_n17
noncomputable def SmoothOf_n21 : Code := cL SmoothOf_n20
noncomputable def SmoothOf_n22 : Code := cL SmoothOf_n21
noncomputable def SmoothOf_n23 : Code := cL SmoothOf_n22
noncomputable def SmoothOf_n24 : Code := cR SmoothOf_n22
noncomputable def SmoothOf_n25 : Code := cL SmoothOf_n23
noncomputable def SmoothOf_n26 : Code := cR SmoothOf_n23
noncomputable def SmoothOf_n27 : Code := cL SmoothOf_n26
noncomputable def SmoothOf_n28 : Code := cR SmoothOf_n26
noncomputable def SmoothOf_n29 : Code := cL SmoothOf_n24
noncomputable def SmoothOf_n30 : Code := cR SmoothOf_n24
noncomputable def SmoothOf_n31 : Code := cL SmoothOf_n29
noncomputable def SmoothOf_n32 : Code := cL SmoothOf_n18
noncomputable def SmoothOf_n33 : Code := cR SmoothOf_n18
noncomputable def SmoothOf_n34 : Code := cL SmoothOf_n32
noncomputable def SmoothOf_n35 : Code := cR SmoothOf_n32
noncomputable def SmoothOf_n36 : Code := cL SmoothOf_n35
noncomputable def SmoothOf_n37 : Code := cL SmoothOf_n36
noncomputable def SmoothOf_n38 : Code := cL SmoothOf_n37
noncomputable def SmoothOf_n39 : Code := cR SmoothOf_n37
noncomputable def SmoothOf_n40 : Code := cL SmoothOf_n38
noncomputable def SmoothOf_n41 : Code := cR SmoothOf_n38
noncomputable def SmoothOf_n42 : Code := cL SmoothOf_n41
noncomputable def SmoothOf_n43 : Code := cR SmoothOf_n41
noncomputable def SmoothOf_n44 : Code := cL SmoothOf_n39
noncomputable def SmoothOf_n45 : Code := cR SmoothOf_n39
noncomputable def SmoothOf_n46 : Code := cL SmoothOf_n44
noncomputable def SmoothOf_n47 : Code := cL SmoothOf_n46
noncomputable def SmoothOf_n48 : Code := cR SmoothOf_n46
noncomputable def SmoothOf_n49 : Code := cL SmoothOf_n33
noncomputable def SmoothOf_n50 : Code := cR SmoothOf_n33
noncomputable def SmoothOf_n51 : Code := cL SmoothOf_n50
noncomputable def SmoothOf_n52 : Code := cR SmoothOf_n50
noncomputable def SmoothOf_n53 : Code := cL SmoothOf_n52
noncomputable def SmoothOf_n54 : Code := cR SmoothOf_n52
noncomputable def SmoothOf_n55 : Code := cL SmoothOf_n53
noncomputable def SmoothOf_n56 : Code := cR SmoothOf_n53
noncomputable def SmoothOf_n57 : Code := cL SmoothOf_n56
noncomputable def SmoothOf_n58 : Code := cL SmoothOf_n57
noncomputable def SmoothOf_n59 : Code := cL SmoothOf_n58
noncomputable def SmoothOf_n60 : Code := cR SmoothOf_n58
noncomputable def SmoothOf_n61 : Code := cL SmoothOf_n59
noncomputable def SmoothOf_n62 : Code := cR SmoothOf_n59
noncomputable def SmoothOf_n63 : Code := cL SmoothOf_n62
noncomputable def SmoothOf_n64 : Code := cR SmoothOf_n62
noncomputable def SmoothOf_n65 : Code := cL SmoothOf_n60
noncomputable def SmoothOf_n66 : Code := cR SmoothOf_n60
noncomputable def SmoothOf_n67 : Code := cL SmoothOf_n65
noncomputable def SmoothOf_n68 : Code := cL SmoothOf_n67
noncomputable def SmoothOf_n69 : Code := cR SmoothOf_n67
noncomputable def SmoothOf_n70 : Code := cL SmoothOf_n68
noncomputable def SmoothOf_n71 : Code := cR SmoothOf_n68
noncomputable def SmoothOf_n72 : Code := cL SmoothOf_n71
noncomputable def SmoothOf_n73 : Code := cR SmoothOf_n71
noncomputable def SmoothOf_n74 : Code := cL SmoothOf_n69
noncomputable def SmoothOf_n75 : Code := cR SmoothOf_n69
noncomputable def SmoothOf_n76 : Code := cL SmoothOf_n75
noncomputable def SmoothOf_n77 : Code := cL SmoothOf_n76
noncomputable def SmoothOf_n78 : Code := cL SmoothOf_n77
noncomputable def SmoothOf_n79 : Code := cR SmoothOf_n77
noncomputable def SmoothOf_n80 : Code := cL SmoothOf_n78
noncomputable def SmoothOf_n81 : Code := cR SmoothOf_n78
noncomputable def SmoothOf_n82 : Code := cL SmoothOf_n81
noncomputable def SmoothOf_n83 : Code := cR SmoothOf_n81
noncomputable def SmoothOf_n84 : Code := cL SmoothOf_n79
noncomputable def SmoothOf_n85 : Code := cR SmoothOf_n79
noncomputable def SmoothOf_n86 : Code := cL SmoothOf_n84
noncomputable def SmoothOf_n87 : Code := cL SmoothOf_n54
noncomputable def SmoothOf_n88 : Code := cR SmoothOf_n54
noncomputable def SmoothOf_n89 : Code := cL SmoothOf_n88
noncomputable def SmoothOf_n90 : Code := cR SmoothOf_n88
noncomputable def SmoothOf_n91 : Code := cL SmoothOf_n90
noncomputable def SmoothOf_n92 : Code := cR SmoothOf_n90
noncomputable def SmoothOf_n93 : Code := cL SmoothOf_n91
noncomputable def SmoothOf_n94 : Code := cR SmoothOf_n91
noncomputable def SmoothOf_n95 : Code := cL SmoothOf_n94
noncomputable def SmoothOf_n96 : Code := cL SmoothOf_n95
noncomputable def SmoothOf_n97 : Code := cL SmoothOf_n96
noncomputable def SmoothOf_n98 : Code := cR SmoothOf_n96
noncomputable def SmoothOf_n99 : Code := cL SmoothOf_n97
noncomputable def SmoothOf_n100 : Code := cR SmoothOf_n97
noncomputable def SmoothOf_n101 : Code := cL SmoothOf_n100
noncomputable def SmoothOf_n102 : Code := cR SmoothOf_n100
noncomputable def SmoothOf_n103 : Code := cL SmoothOf_n98
noncomputable def SmoothOf_n104 : Code := cR SmoothOf_n98
noncomputable def SmoothOf_n105 : Code := cL SmoothOf_n103
noncomputable def SmoothOf_n106 : Code := cL SmoothOf_n105
noncomputable def SmoothOf_n107 : Code := cR SmoothOf_n105
noncomputable def SmoothOf_n108 : Code := cL SmoothOf_n107
noncomputable def SmoothOf_n109 : Code := cR SmoothOf_n107
noncomputable def SmoothOf_n110 : Code := cL SmoothOf_n108
noncomputable def SmoothOf_n111 : Code := cR SmoothOf_n108
noncomputable def SmoothOf_n112 : Code := cL SmoothOf_n109
noncomputable def SmoothOf_n113 : Code := cR SmoothOf_n109
noncomputable def SmoothOf_n114 : Code := cL SmoothOf_n113
noncomputable def SmoothOf_n115 : Code := cR SmoothOf_n113
noncomputable def SmoothOf_n116 : Code := cL SmoothOf_n92
noncomputable def SmoothOf_n117 : Code := cR SmoothOf_n92
noncomputable def SmoothOf_n118 : Code := cL SmoothOf_n116
noncomputable def SmoothOf_n119 : Code := cR SmoothOf_n116
noncomputable def SmoothOf_n120 : Code := cL SmoothOf_n119
noncomputable def SmoothOf_n121 : Code := cL SmoothOf_n120
noncomputable def SmoothOf_n122 : Code := cL SmoothOf_n121
noncomputable def SmoothOf_n123 : Code := cR SmoothOf_n121
noncomputable def SmoothOf_n124 : Code := cL SmoothOf_n122
noncomputable def SmoothOf_n125 : Code := cR SmoothOf_n122
noncomputable def SmoothOf_n126 : Code := cL SmoothOf_n125
noncomputable def SmoothOf_n127 : Code := cR SmoothOf_n125
noncomputable def SmoothOf_n128 : Code := cL SmoothOf_n123
noncomputable def SmoothOf_n129 : Code := cR SmoothOf_n123
noncomputable def SmoothOf_n130 : Code := cL SmoothOf_n128
noncomputable def SmoothOf_n131 : Code := cL SmoothOf_n130
noncomputable def SmoothOf_n132 : Code := cR SmoothOf_n130
noncomputable def SmoothOf_n133 : Code := cL SmoothOf_n132
noncomputable def SmoothOf_n134 : Code := cR SmoothOf_n132
noncomputable def SmoothOf_n135 : Code := cL SmoothOf_n133
noncomputable def SmoothOf_n136 : Code := cR SmoothOf_n133
noncomputable def SmoothOf_n137 : Code := cL SmoothOf_n117
noncomputable def SmoothOf_n138 : Code := cR SmoothOf_n117
set_option maxHeartbeats 4000000 in
set_option maxRecDepth 10000 in
theorem SmoothOf_t {w : World} {M : Hp} {X : Fr} (d : Dg) {dcrsA : Option Addr} {dcrsc : Nat} (k : Nat) (hdcrs : RdA cdCr (M.un X.h) dcrsA dcrsc d.crs) (hk : k < d.crs.length) (hn : d.crs.length ≤ 16) (hab : arcsB d = true) (hlo0 : 0 ≤ d.loops ∧ d.loops ≤ 1000) (S : SH w M X []) : Ct Tryz.prog 54 [.agg [.slice dcrsA d.crs.length dcrsc, .int .i64 d.loops].toArray, .int .i64 (k : Int)] w M X (fun u N => ∃ A c, u = .agg [.slice A (smD d k).crs.length c, .int .i64 (smD d k).loops].toArray ∧ RdA cdCr N A c (smD d k).crs) := by
 unfold Ct
 have rmhdcrs : d.crs.length * 40 ≤ 140737488355328 := hdcrs.room
 refine calls_in (b := SmoothOf_n0) Tryz.func54 rfl Tryz.ntmps54 rfl (fun C hC => (ws_sub [(0, _), (1, _)] ⟨rfl, rfl, trivial⟩ (ws_seqN SmoothOf_n1 SmoothOf_n2 rfl rfl rfl (ws_region rfl (wlo 0 1 rfl rfl rfl (wo_box (l := [_, _]) rfl rfl rfl rfl rfl S ?_))))))
 intro gb1 w1 S1; clear S
 refine wlo 1 2 rfl rfl rfl (wo_alloc (l := [_, _]) rfl rfl rfl zr24 rfl S1 ?_)
 intro gb2 w2 S2; clear S1
 refine wl_end rfl (nmk [1, 2, 4] rfl (nm_thn (ws_seqN SmoothOf_n3 SmoothOf_n4 rfl rfl rfl (ws_region rfl (wlo 0 1 rfl rfl rfl (wo_run rfl rfl (run_fieldAddr rfl rfl Tryz.underlying24 rfl (ce22) (nf22)) (wlo 1 2 rfl rfl rfl (wo_run rfl rfl (run_load1 rfl rfl Tryz.underlying22 rfl (S2.boxc (i := 1) rfl rfl)) (wlm 2 3 rfl rfl rfl rfl rfl rfl rfl (wlo 3 4 rfl rfl rfl (wo_run rfl rfl (run_indexM (C := cdCr) k rfl rfl rfl sl22 (by first | rfl | omega) hdcrs (by first | omega | (simp only [lens]; omega))) ?_)))))))))))
 refine wlo 4 5 rfl rfl rfl (wo_run rfl rfl (run_loadN (us := [_, _, _, _, _]) rfl rfl Tryz.underlying77 rfl sz77 (hdcrs.cellsAt S2.um (e := k) (by first | omega | (simp only [lens]; omega)) (j := 0) ⟨rfl, rfl, rfl, rfl, rfl, trivial⟩)) ?_)
 refine wlo 5 6 rfl rfl rfl (wo_alloc (l := [_, _, _, _, _]) rfl rfl rfl zr77 rfl S2 ?_)
 intro gb3 w3 S3; clear S2
 refine wlo 6 7 rfl rfl rfl (wo_storeB (i := 0) (us := [_, _, _, _, _]) (l' := [_, _, _, _, _]) (H' := [_, _, _]) rfl rfl S3 rfl rfl rfl rfl sz77 rfl rfl rfl rfl ?_)
 intro w4 S4; clear S3
 refine wl_end rfl (nmk [1, 2, 4, 5] rfl (nm_thn (ws_seqN SmoothOf_n5 SmoothOf_n6 rfl rfl rfl (ws_draw rfl (by kernel_rfl) S4 12 rfl ?_))))
 clear S4
 refine wap 0 11 rfl (by kernel_rfl) rfl rfl rfl (fun w5 => run_fieldAddr rfl rfl Tryz.underlying77 rfl (ce3) (nf3)) ?_
 refine wat 1 10 rfl (by kernel_rfl) rfl rfl rfl (fun M2 N2 w6 hle2 S6 => .inl (run_load1 rfl rfl Tryz.underlying3 rfl (S6.suf.boxc (i := 0) rfl rfl))) ?_
 refine wap 2 9 rfl (by kernel_rfl) rfl rfl rfl (fun w7 => run_fieldAddr rfl rfl Tryz.underlying77 rfl (ce3) (nf3)) ?_
 refine wat 3 8 rfl (by kernel_rfl) rfl rfl rfl (fun M4 N4 w8 hle4 S8 => .inl (run_load1 rfl rfl Tryz.underlying3 rfl (S8.suf.boxc (i := 0) rfl rfl))) ?_
 refine wap 4 7 rfl (by kernel_rfl) rfl rfl rfl (fun w9 => run_fieldAddr rfl rfl Tryz.underlying77 rfl (ce3) (nf3)) ?_
 refine wat 5 6 rfl (by kernel_rfl) rfl rfl rfl (fun M6 N6 w10 hle6 S10 => .inl (run_load1 rfl rfl Tryz.underlying3 rfl (S10.suf.boxc (i := 0) rfl rfl))) ?_
 refine wap 6 5 rfl (by kernel_rfl) rfl rfl rfl (fun w11 => run_fieldAddr rfl rfl Tryz.underlying77 rfl (ce3) (nf3)) ?_
 refine wat 7 4 rfl (by kernel_rfl) rfl rfl rfl (fun M8 N8 w12 hle8 S12 => .inl (run_load1 rfl rfl Tryz.underlying3 rfl (S12.suf.boxc (i := 0) rfl rfl))) ?_
 refine wap 8 3 rfl (by kernel_rfl) rfl rfl rfl (fun w13 => run_assign rfl rfl) ?_
 refine wap 9 2 rfl (by kernel_rfl) rfl rfl rfl (fun w14 => run_assign rfl rfl) ?_
 refine wap 10 1 rfl (by kernel_rfl) rfl rfl rfl (fun w15 => run_assign rfl rfl) ?_
 refine wap 11 0 rfl (by kernel_rfl) rfl rfl rfl (fun w16 => run_assign rfl rfl) ?_
 refine wa_end (by kernel_rfl) (fun w17 S17 => ?_)
 refine nmk [1, 2, 4, 5, 6, 7, 8, 9] rfl (nm_thn (ws_seqN SmoothOf_n7 SmoothOf_n8 rfl rfl rfl ?_))
 refine ws_cut (fun ax_ wx_ => ∃ (za : Int) (zb : Int) (zx : Int) (zy : Int) (M13 : Hp), M.le M13 ∧ Env 188 [(1, .int .i64 (k : Int)), (2, .pointer (some ⟨gb1, 0, none⟩)), (4, .pointer (some ⟨gb2, 0, none⟩)), (6, .int .i64 za), (7, .int .i64 zb), (8, .int .i64 zx), (9, .int .i64 zy)] ax_ ∧ SH wx_ M13 X [Rs.box gb3 77 [.int .i64 ((ga d.crs k).a), .int .i64 ((ga d.crs k).b), .int .i64 ((ga d.crs k).c), .int .i64 ((ga d.crs k).d), .bool ((ga d.crs k).plus)], Rs.box gb2 24 [.slice none 0 0, .int .i64 0], Rs.box gb1 24 [.slice dcrsA d.crs.length dcrsc, .int .i64 d.loops]] ∧ za = ((sp1 d k : Nat) : Int) ∧ zb = ((sq1 d k : Nat) : Int) ∧ zx = ((sp2 d k : Nat) : Int) ∧ zy = ((sq2 d k : Nat) : Int)) ?_ ?_
 ·refine ws_seqN SmoothOf_n9 SmoothOf_n10 rfl rfl rfl ?_
  have hs0 : 1 ≤ (ga d.crs k).a ∧ (ga d.crs k).a ≤ 2 * (d.crs.length : Int) := arcAt_bd hab hk (k := 0) (by omega)
  have hs2 : 1 ≤ (ga d.crs k).c ∧ (ga d.crs k).c ≤ 2 * (d.crs.length : Int) := arcAt_bd hab hk (k := 2) (by omega)
  have hs1 : 1 ≤ (ga d.crs k).b ∧ (ga d.crs k).b ≤ 2 * (d.crs.length : Int) := arcAt_bd hab hk (k := 1) (by omega)
  have hs3 : 1 ≤ (ga d.crs k).d ∧ (ga d.crs k).d ≤ 2 * (d.crs.length : Int) := arcAt_bd hab hk (k := 3) (by omega)
  refine ws_region rfl (wlo 0 1 rfl rfl rfl (wo_run rfl rfl (run_fieldAddr rfl rfl Tryz.underlying77 rfl (ce4) (nf4)) (wlo 1 2 rfl rfl rfl (wo_run rfl rfl (run_load1 rfl rfl Tryz.underlying4 rfl (S17.boxc (i := 0) rfl rfl)) (wl_end rfl (nmk [1, 2, 4, 5, 6, 7, 8, 9, 37] rfl (nm_thn ?_)))))))
  refine ws_condN SmoothOf_n11 SmoothOf_n12 rfl rfl rfl rfl (fun hb37 => ?_) (fun hb37 => ?_)
  ·refine ws_draw rfl (by kernel_rfl) S17 12 rfl ?_
   clear S17
   refine wap 0 11 rfl (by kernel_rfl) rfl rfl rfl (fun w19 => run_fieldAddr rfl rfl Tryz.underlying77 rfl (ce3) (nf3)) ?_
   refine wat 1 10 rfl (by kernel_rfl) rfl rfl rfl (fun M15 N14 w20 hle15 S20 => .inl (run_load1 rfl rfl Tryz.underlying3 rfl (S20.suf.boxc (i := 0) rfl rfl))) ?_
   refine wap 2 9 rfl (by kernel_rfl) rfl rfl rfl (fun w21 => run_fieldAddr rfl rfl Tryz.underlying77 rfl (ce3) (nf3)) ?_
   refine wat 3 8 rfl (by kernel_rfl) rfl rfl rfl (fun M17 N16 w22 hle17 S22 => .inl (run_load1 rfl rfl Tryz.underlying3 rfl (S22.suf.boxc (i := 0) rfl rfl))) ?_
   refine wap 4 7 rfl (by kernel_rfl) rfl rfl rfl (fun w23 => run_fieldAddr rfl rfl Tryz.underlying77 rfl (ce3) (nf3)) ?_
   refine wat 5 6 rfl (by kernel_rfl) rfl rfl rfl (fun M19 N18 w24 hle19 S24 => .inl (run_load1 rfl rfl Tryz.underlying3 rfl (S24.suf.boxc (i := 0) rfl rfl))) ?_
   refine wap 6 5 rfl (by kernel_rfl) rfl rfl rfl (fun w25 => run_fieldAddr rfl rfl Tryz.underlying77 rfl (ce3) (nf3)) ?_
   refine wat 7 4 rfl (by kernel_rfl) rfl rfl rfl (fun M21 N20 w26 hle21 S26 => .inl (run_load1 rfl rfl Tryz.underlying3 rfl (S26.suf.boxc (i := 0) rfl rfl))) ?_
   refine wap 8 3 rfl (by kernel_rfl) rfl rfl rfl (fun w27 => run_assign rfl rfl) ?_
   refine wap 9 2 rfl (by kernel_rfl) rfl rfl rfl (fun w28 => run_assign rfl rfl) ?_
   refine wap 10 1 rfl (by kernel_rfl) rfl rfl rfl (fun w29 => run_assign rfl rfl) ?_
   refine wap 11 0 rfl (by kernel_rfl) rfl rfl rfl (fun w30 => run_assign rfl rfl) ?_
   refine wa_end (by kernel_rfl) (fun w31 S31 => ?_)
   refine nm_lp ?_
   intro ax_ hax_
   refine ⟨(ga d.crs k).a, (ga d.crs k).b, (ga d.crs k).d, (ga d.crs k).c, _, (Hp.le_refl _), hax_.sub ⟨rfl, rfl, rfl, rfl, rfl, rfl, rfl, trivial⟩, S31.pick [0, 1, 2] [_, _, _] (by decide) ⟨rfl, rfl, rfl, trivial⟩, ?hq1f0, ?hq1f1, ?hq1f2, ?hq1f3⟩
   case hq1f0 => (unfold sp1; omega)
   case hq1f1 => (unfold sq1 abv; rw [if_pos hb37]; dsimp only; omega)
   case hq1f2 => (unfold sp2 abv; rw [if_pos hb37]; dsimp only; omega)
   case hq1f3 => (unfold sq2; omega)
  ·refine ws_skip rfl (nm_lp ?_)
   intro ax_ hax_
   refine ⟨(ga d.crs k).a, (ga d.crs k).d, (ga d.crs k).b, (ga d.crs k).c, _, (Hp.le_refl _), hax_.sub ⟨rfl, rfl, rfl, rfl, rfl, rfl, rfl, trivial⟩, S17.pick [0, 1, 2] [_, _, _] (by decide) ⟨rfl, rfl, rfl, trivial⟩, ?hq2f0, ?hq2f1, ?hq2f2, ?hq2f3⟩
   case hq2f0 => (unfold sp1; omega)
   case hq2f1 => (unfold sq1 abv; rw [if_neg (by simp [hb37])]; dsimp only; omega)
   case hq2f2 => (unfold sp2 abv; rw [if_neg (by simp [hb37])]; dsimp only; omega)
   case hq2f3 => (unfold sq2; omega)
 ·rintro a1 w18 ⟨za, zb, zx, zy, M13, hle13, he1, S18, hza, hzb, hzx, hzy⟩
  clear S17
  refine nm_in he1 ?_
  clear he1 a1
  replace hdcrs := hdcrs.mono (Hp.un_mono hle13 S18.mx)
  refine nm_thn (ws_seqN SmoothOf_n13 SmoothOf_n14 rfl rfl rfl ?_)
  obtain ⟨⟨hm1, hm2⟩, ⟨hm3, hm4⟩, ⟨hm5, hm6⟩, ⟨hm7, hm8⟩⟩ := sm_bd hab hk
  refine ws_eq 6 (.int .i64 ((sp1 d k : Nat) : Int)) rfl (int_eq hza) (ws_eq 7 (.int .i64 ((sq1 d k : Nat) : Int)) rfl (int_eq hzb) (ws_eq 8 (.int .i64 ((sp2 d k : Nat) : Int)) rfl (int_eq hzx) (ws_eq 9 (.int .i64 ((sq2 d k : Nat) : Int)) rfl (int_eq hzy) ?_)))
  clear hza hzb hzx hzy
  refine ws_region rfl (wlo 0 1 rfl rfl rfl (wo_run rfl rfl (run_fieldAddr rfl rfl Tryz.underlying24 rfl (ce22) (nf22)) (wlo 1 2 rfl rfl rfl (wo_run rfl rfl (run_load1 rfl rfl Tryz.underlying22 rfl (S18.boxc (i := 2) rfl rfl)) (wlo 2 3 rfl rfl rfl (wo_run rfl rfl (run_len rfl rfl rfl rfl rfl rfl Tryz.underlying22) (wlo 3 4 rfl rfl rfl (wo_run rfl rfl (run_mul rfl rfl rfl (by first | omega | (simp only [lens]; omega))) ?_))))))))
  refine wla 4 5 rfl rfl rfl rfl rfl rfl rfl (wl_end rfl (nmk [1, 2, 4, 6, 7, 8, 9, 10] rfl (nm_thn (ws_seqN SmoothOf_n15 SmoothOf_n16 rfl rfl rfl (ws_region rfl (wlm 0 1 rfl rfl rfl rfl rfl rfl rfl (wlo 1 2 rfl rfl rfl (wo_run rfl rfl (run_add rfl rfl rfl (by first | omega | (simp only [lens]; omega))) ?_))))))))
  refine wlo 2 3 rfl rfl rfl (wo_make (C := cdInt) ((2 * (d.crs.length : Int)).toNat + 1) rfl rfl rfl rfl rfl sl53 (by first | rfl | omega) (by show _ * 8 ≤ _; first | omega | (simp only [lens]; omega)) S18 ?_)
  intro vr1 w32 S32; clear S18
  refine wla 3 4 rfl rfl rfl rfl rfl rfl rfl (wl_end rfl (nmk [1, 2, 4, 6, 7, 8, 9, 10, 11] rfl (nm_thn (ws_seqN SmoothOf_n17 SmoothOf_n18 rfl rfl rfl (ws_seqN SmoothOf_n19 SmoothOf_n20 rfl rfl rfl (ws_region rfl (wla 0 1 rfl rfl rfl rfl rfl rfl rfl (wl_end rfl ?_))))))))
  refine nm_thn (ws_blockN SmoothOf_n21 0 rfl rfl rfl ?_)
  refine ws_loopE (fun mx_ ax_ wx_ => ∃ (i : Nat) (ws : List Int) (vrw : Value), mx_ = 2 * d.crs.length + 1 - i ∧ Env 188 [(1, .int .i64 (k : Int)), (2, .pointer (some ⟨gb1, 0, none⟩)), (4, .pointer (some ⟨gb2, 0, none⟩)), (6, .int .i64 ((sp1 d k : Nat) : Int)), (7, .int .i64 ((sq1 d k : Nat) : Int)), (8, .int .i64 ((sp2 d k : Nat) : Int)), (9, .int .i64 ((sq2 d k : Nat) : Int)), (10, .int .i64 (2 * (d.crs.length : Int))), (11, vrw), (12, .int .i64 (i : Int))] ax_ ∧ SH wx_ M13 X [Rs.row cdInt vrw ws, Rs.box gb2 24 [.slice none 0 0, .int .i64 0], Rs.box gb1 24 [.slice dcrsA d.crs.length dcrsc, .int .i64 d.loops]] ∧ i ≤ 2 * d.crs.length + 1 ∧ ws = iniW (2 * d.crs.length + 1) i) rfl ?_ ?_
  ·intro ax_ hax_
   refine ⟨_, ⟨0, _, _, rfl, hax_.sub ⟨rfl, rfl, rfl, rfl, rfl, rfl, rfl, rfl, rfl, rfl, trivial⟩, S32.pick [0, 2, 3] [_, _, _] (by decide) ⟨rfl, rfl, rfl, trivial⟩, ?hq3f0, ?hq3f1⟩⟩
   case hq3f0 => omega
   case hq3f1 => rfl
  ·rintro m1 a2 w33 ⟨i, ws, vrw, rfl, he2, S33, hi, hw⟩
   clear S32
   refine ws_in he2 (c := SmoothOf_n22) rfl ?_
   clear he2 a2
   have hwl : ws.length = 2 * d.crs.length + 1 := by rw [hw, iniW_len]
   refine ws_seqN SmoothOf_n23 SmoothOf_n24 rfl rfl rfl (ws_seqN SmoothOf_n25 SmoothOf_n26 rfl rfl rfl (ws_region rfl (wlm 0 1 rfl rfl rfl rfl rfl rfl rfl (wlm 1 2 rfl rfl rfl rfl rfl rfl rfl (wlo 2 3 rfl rfl rfl (wo_run rfl rfl (run_leq rfl rfl rfl) (wl_end rfl (nmk [1, 2, 4, 6, 7, 8, 9, 10, 11, 12, 55] rfl (nm_thn ?_)))))))))
   refine ws_condN SmoothOf_n27 SmoothOf_n28 rfl rfl rfl rfl (fun hb55 => ?_) (fun hb55 => ?_)
   ·replace hb55 := of_decide_eq_true hb55
    refine ws_skip rfl (nmk [1, 2, 4, 6, 7, 8, 9, 10, 11, 12] rfl (nm_thn (ws_seqN SmoothOf_n29 SmoothOf_n30 rfl rfl rfl (ws_blockN SmoothOf_n31 1 rfl rfl rfl (ws_region rfl (wlm 0 1 rfl rfl rfl rfl rfl rfl rfl (wlm 1 2 rfl rfl rfl rfl rfl rfl rfl (wlm 2 3 rfl rfl rfl rfl rfl rfl rfl ?_))))))))
    refine wlo 3 4 rfl rfl rfl (wo_run rfl rfl (run_indexR (C := cdInt) (i := 0) i rfl rfl rfl sl53 S33 rfl (by first | rfl | omega) (by first | omega | (simp only [lens]; omega))) ?_)
    refine wlo 4 5 rfl rfl rfl (wo_storeR (C := cdInt) (i := 0) (e := i) (j := 0) (us := [_]) (H' := [_, _, _]) (i : Int) rfl rfl S33 rfl (by first | omega | (simp only [lens]; omega)) rfl rfl rfl sz3 rfl rfl rfl rfl ?_)
    intro w34 S34; clear S33
    refine wl_end rfl (nm_blk (nmk [1, 2, 4, 6, 7, 8, 9, 10, 11, 12] rfl (nm_thn (ws_region rfl (wlm 0 1 rfl rfl rfl rfl rfl rfl rfl (wlo 1 2 rfl rfl rfl (wo_run rfl rfl (run_add rfl rfl rfl (by first | omega | (simp only [lens]; omega))) ?_)))))))
    refine wla 2 3 rfl rfl rfl rfl rfl rfl rfl (wl_end rfl (nm_lp ?_))
    intro ax_ hax_
    refine ⟨_, ?hq4m, ⟨i + 1, _, _, rfl, hax_.sub ⟨rfl, rfl, rfl, rfl, rfl, rfl, rfl, rfl, rfl, rfl, trivial⟩, S34.pick [0, 1, 2] [_, _, _] (by decide) ⟨rfl, rfl, rfl, trivial⟩, ?hq4f0, ?hq4f1⟩⟩
    case hq4f0 => omega
    case hq4f1 => (rw [hw]; rfl)
    case hq4m => omega
   ·replace hb55 := of_decide_eq_false hb55
    refine ws_exit rfl rfl (nmk [1, 2, 4, 6, 7, 8, 9, 10, 11] rfl (nm_thn (ws_seqN SmoothOf_n32 SmoothOf_n33 rfl rfl rfl (ws_seqN SmoothOf_n34 SmoothOf_n35 rfl rfl rfl (ws_region rfl (wla 0 1 rfl rfl rfl rfl rfl rfl rfl (wl_end rfl (nm_thn ?_))))))))
    refine ws_blockN SmoothOf_n36 2 rfl rfl rfl ?_
    refine ws_loopE (fun mx_ ax_ wx_ => ∃ (j : Nat) (ws2 : List Int) (vrw2 : Value), mx_ = 3 - j ∧ Env 188 [(1, .int .i64 (k : Int)), (2, .pointer (some ⟨gb1, 0, none⟩)), (4, .pointer (some ⟨gb2, 0, none⟩)), (6, .int .i64 ((sp1 d k : Nat) : Int)), (7, .int .i64 ((sq1 d k : Nat) : Int)), (8, .int .i64 ((sp2 d k : Nat) : Int)), (9, .int .i64 ((sq2 d k : Nat) : Int)), (10, .int .i64 (2 * (d.crs.length : Int))), (11, vrw2), (13, .int .i64 (j : Int))] ax_ ∧ SH wx_ M13 X [Rs.row cdInt vrw2 ws2, Rs.box gb2 24 [.slice none 0 0, .int .i64 0], Rs.box gb1 24 [.slice dcrsA d.crs.length dcrsc, .int .i64 d.loops]] ∧ j ≤ 3 ∧ ws2 = rdsG (sE1 d k) (sE2 d k) (2 * d.crs.length + 1) 2 j) rfl ?_ ?_
    ·intro ax_ hax_
     refine ⟨_, ⟨0, _, _, rfl, hax_.sub ⟨rfl, rfl, rfl, rfl, rfl, rfl, rfl, rfl, rfl, rfl, trivial⟩, S33.pick [0, 1, 2] [_, _, _] (by decide) ⟨rfl, rfl, rfl, trivial⟩, ?hq5f0, ?hq5f1⟩⟩
     case hq5f0 => omega
     case hq5f1 => (obtain rfl : i = 2 * d.crs.length + 1 := (by omega); exact hw)
    ·rintro m2 a3 w35 ⟨j, ws2, vrw2, rfl, he3, S35, hj, hw2⟩
     clear S33
     refine ws_in he3 (c := SmoothOf_n37) rfl ?_
     clear he3 a3
     have hl2 : ws2.length = 2 * d.crs.length + 1 := by rw [hw2, rdsG_len]
     refine ws_seqN SmoothOf_n38 SmoothOf_n39 rfl rfl rfl (ws_seqN SmoothOf_n40 SmoothOf_n41 rfl rfl rfl (ws_region rfl (wlm 0 1 rfl rfl rfl rfl rfl rfl rfl (wlo 1 2 rfl rfl rfl (wo_run rfl rfl (run_lss rfl rfl rfl) (wl_end rfl (nmk [1, 2, 4, 6, 7, 8, 9, 10, 11, 13, 63] rfl (nm_thn ?_))))))))
     refine ws_condN SmoothOf_n42 SmoothOf_n43 rfl rfl rfl rfl (fun hb63 => ?_) (fun hb63 => ?_)
     ·replace hb63 := of_decide_eq_true hb63
      refine ws_skip rfl (nmk [1, 2, 4, 6, 7, 8, 9, 10, 11, 13] rfl (nm_thn (ws_seqN SmoothOf_n44 SmoothOf_n45 rfl rfl rfl (ws_blockN SmoothOf_n46 3 rfl rfl rfl (ws_seqN SmoothOf_n47 SmoothOf_n48 rfl rfl rfl (ws_region rfl (wlm 0 1 rfl rfl rfl rfl rfl rfl rfl (wlm 1 2 rfl rfl rfl rfl rfl rfl rfl ?_))))))))
      refine wlm 2 3 rfl rfl rfl rfl rfl rfl rfl (wlo 3 4 rfl rfl rfl (wo_c1 rfl rfl rfl rfl rfl rfl rfl cf76 S35 (i := 0) rfl (level_w vrw2 _ ((sp1 d k : Nat) : Int) ((sq1 d k : Nat) : Int) (by first | omega | (simp only [stepW_len]; omega)) (by first | omega | (simp only [stepW_len]; omega)) (S35.lend1 (i := 0) rfl)) ?_))
      rintro vw36 w36 _ _ - S36 ⟨rfl, rfl, rfl⟩; clear S35
      change SH _ _ _ [_, _, _] at S36
      refine wl_end rfl (nmk [1, 2, 4, 6, 7, 8, 9, 10, 11, 13] rfl (nm_thn (ws_region rfl (wlm 0 1 rfl rfl rfl rfl rfl rfl rfl (wlm 1 2 rfl rfl rfl rfl rfl rfl rfl (wlm 2 3 rfl rfl rfl rfl rfl rfl rfl (wlo 3 4 rfl rfl rfl (wo_c1 rfl rfl rfl rfl rfl rfl rfl cf76 S36 (i := 0) rfl (level_w vrw2 _ ((sp2 d k : Nat) : Int) ((sq2 d k : Nat) : Int) (by first | omega | (simp only [stepW_len]; omega)) (by first | omega | (simp only [stepW_len]; omega)) (S36.lend1 (i := 0) rfl)) ?_))))))))
      rintro vw37 w37 _ _ - S37 ⟨rfl, rfl, rfl⟩; clear S36
      change SH _ _ _ [_, _, _] at S37
      refine wl_end rfl (nm_blk (nmk [1, 2, 4, 6, 7, 8, 9, 10, 11, 13] rfl (nm_thn (ws_region rfl (wlm 0 1 rfl rfl rfl rfl rfl rfl rfl (wlo 1 2 rfl rfl rfl (wo_run rfl rfl (run_add rfl rfl rfl (by first | omega | (simp only [lens]; omega))) ?_)))))))
      refine wla 2 3 rfl rfl rfl rfl rfl rfl rfl (wl_end rfl (nm_lp ?_))
      intro ax_ hax_
      refine ⟨_, ?hq6m, ⟨j + 1, _, _, rfl, hax_.sub ⟨rfl, rfl, rfl, rfl, rfl, rfl, rfl, rfl, rfl, rfl, trivial⟩, S37.pick [0, 1, 2] [_, _, _] (by decide) ⟨rfl, rfl, rfl, trivial⟩, ?hq6f0, ?hq6f1⟩⟩
      case hq6f0 => omega
      case hq6f1 => (rw [rdsG, ← hw2, round2]; rfl)
      case hq6m => omega
     ·replace hb63 := of_decide_eq_false hb63
      refine ws_exit rfl rfl (nmk [1, 2, 4, 10, 11] rfl (nm_thn (ws_seqN SmoothOf_n49 SmoothOf_n50 rfl rfl rfl ?_)))
      obtain rfl : j = 3 := by omega
      have hclf : ws2 = smC d k := by rw [hw2, sm_law hab hk]
      have hok : ∀ x, x < 2 * d.crs.length + 1 → 0 ≤ ga ws2 x ∧ ga ws2 x ≤ x ∧ ga ws2 (ga ws2 x).toNat = ga ws2 x := by rw [hclf]; exact (smN_ok hab hk 2 (Nat.le_refl _)).2
      have hl2 : ws2.length = 2 * d.crs.length + 1 := by rw [hw2, rdsG_len]
      clear hw2
      obtain ⟨cl, rfl⟩ : ∃ cl, cl = ws2 := ⟨_, rfl⟩
      obtain ⟨oc, hocf⟩ : ∃ oc, oc = remL d k := ⟨_, rfl⟩
      refine ws_region rfl (wlm 0 1 rfl rfl rfl rfl rfl rfl rfl (wlo 1 2 rfl rfl rfl (wo_run rfl rfl (run_add rfl rfl rfl (by first | omega | (simp only [lens]; omega))) ?_)))
      refine wlo 2 3 rfl rfl rfl (wo_make (C := cdBool) ((2 * (d.crs.length : Int)).toNat + 1) rfl rfl rfl rfl rfl sl130 (by first | rfl | omega) (by show _ * 1 ≤ _; first | omega | (simp only [lens]; omega)) S35 ?_)
      intro vr2 w38 S38; clear S35
      refine wla 3 4 rfl rfl rfl rfl rfl rfl rfl (wl_end rfl (nmk [1, 2, 4, 10, 11, 14] rfl (nm_thn (ws_seqN SmoothOf_n51 SmoothOf_n52 rfl rfl rfl (ws_region rfl (wlo 0 1 rfl rfl rfl (wo_run rfl rfl (run_fieldAddr rfl rfl Tryz.underlying24 rfl (ce3) (nf3)) (wlo 1 2 rfl rfl rfl (wo_run rfl rfl (run_load1 rfl rfl Tryz.underlying3 rfl (S38.boxc (i := 3) rfl rfl)) (wl_eq 78 (.int .i64 (d.loops + (cn (loB2 cl oc) (0 + 1) : Int))) rfl (int_eq (by rw [show cn (loB2 cl oc) (0 + 1) = 0 from rfl]; omega)) ?_))))))))))
      refine wlo 2 3 rfl rfl rfl (wo_run rfl rfl (run_build (l := [_, _]) rfl rfl st24 rfl rfl) (wlo 3 4 rfl rfl rfl (wo_alloc (l := [_, _]) rfl rfl rfl zr24 rfl S38 ?_)))
      intro gb4 w39 S39; clear S38
      refine wlo 4 5 rfl rfl rfl (wo_storeB (i := 0) (us := [_, _]) (l' := [_, _]) (H' := [_, _, _, _, _]) rfl rfl S39 rfl rfl rfl rfl sz24 rfl rfl rfl rfl ?_)
      intro w40 S40; clear S39
      refine wl_end rfl (nmk [1, 2, 4, 10, 11, 14, 15] rfl (nm_thn (ws_seqN SmoothOf_n53 SmoothOf_n54 rfl rfl rfl (ws_seqN SmoothOf_n55 SmoothOf_n56 rfl rfl rfl (ws_region rfl (wla 0 1 rfl rfl rfl rfl rfl rfl rfl (wl_end rfl (nm_thn ?_))))))))
      refine ws_blockN SmoothOf_n57 4 rfl rfl rfl ?_
      refine ws_loopE (fun mx_ ax_ wx_ => ∃ (i2 : Nat) (th : List Bool) (vrt : Value), mx_ = d.crs.length - i2 ∧ Env 188 [(1, .int .i64 (k : Int)), (2, .pointer (some ⟨gb1, 0, none⟩)), (4, .pointer (some ⟨gb2, 0, none⟩)), (10, .int .i64 (2 * (d.crs.length : Int))), (11, vrw2), (14, vrt), (15, .pointer (some ⟨gb4, 0, none⟩)), (16, .int .i64 (i2 : Int))] ax_ ∧ SH wx_ M13 X [Rs.box gb4 24 [.slice none 0 0, .int .i64 (d.loops + (cn (loB2 cl oc) (0 + 1) : Int))], Rs.row cdBool vrt th, Rs.row cdInt vrw2 cl, Rs.box gb2 24 [.slice none 0 0, .int .i64 0], Rs.box gb1 24 [.slice dcrsA d.crs.length dcrsc, .int .i64 d.loops]] ∧ i2 ≤ d.crs.length ∧ th.length = 2 * d.crs.length + 1 ∧ (∀ x, x < 2 * d.crs.length + 1 → ga th x = lfL cl (remN d k i2) (x : Int))) rfl ?_ ?_
      ·intro ax_ hax_
       refine ⟨_, ⟨0, _, _, rfl, hax_.sub ⟨rfl, rfl, rfl, rfl, rfl, rfl, rfl, rfl, trivial⟩, S40.pick [0, 1, 2, 3, 4] [_, _, _, _, _] (by decide) ⟨rfl, rfl, rfl, rfl, rfl, trivial⟩, ?hq7f0, ?hq7f1, ?hq7f2⟩⟩
       case hq7f0 => omega
       case hq7f1 => (rw [List.length_replicate]; omega)
       case hq7f2 => (intro x hx; rw [ga_rep _ _ _ (by omega)]; rfl)
      ·rintro m3 a4 w41 ⟨i2, th, vrt, rfl, he4, S41, hi2, htl, hth⟩
       clear S40
       refine ws_in he4 (c := SmoothOf_n58) rfl ?_
       clear he4 a4
       refine ws_seqN SmoothOf_n59 SmoothOf_n60 rfl rfl rfl (ws_seqN SmoothOf_n61 SmoothOf_n62 rfl rfl rfl (ws_region rfl (wlm 0 1 rfl rfl rfl rfl rfl rfl rfl (wlo 1 2 rfl rfl rfl (wo_run rfl rfl (run_fieldAddr rfl rfl Tryz.underlying24 rfl (ce22) (nf22)) (wlo 2 3 rfl rfl rfl (wo_run rfl rfl (run_load1 rfl rfl Tryz.underlying22 rfl (S41.boxc (i := 4) rfl rfl)) (wlo 3 4 rfl rfl rfl (wo_run rfl rfl (run_len rfl rfl rfl rfl rfl rfl Tryz.underlying22) (wlo 4 5 rfl rfl rfl (wo_run rfl rfl (run_lss rfl rfl rfl) (wl_end rfl ?_))))))))))))
       refine nmk [1, 2, 4, 10, 11, 14, 15, 16, 84] rfl (nm_thn ?_)
       refine ws_condN SmoothOf_n63 SmoothOf_n64 rfl rfl rfl rfl (fun hb84 => ?_) (fun hb84 => ?_)
       ·replace hb84 := of_decide_eq_true hb84
        refine ws_skip rfl (nmk [1, 2, 4, 10, 11, 14, 15, 16] rfl (nm_thn (ws_seqN SmoothOf_n65 SmoothOf_n66 rfl rfl rfl (ws_blockN SmoothOf_n67 5 rfl rfl rfl (ws_seqN SmoothOf_n68 SmoothOf_n69 rfl rfl rfl (ws_seqN SmoothOf_n70 SmoothOf_n71 rfl rfl rfl (ws_region rfl (wlm 0 1 rfl rfl rfl rfl rfl rfl rfl ?_))))))))
        refine wlm 1 2 rfl rfl rfl rfl rfl rfl rfl (wlo 2 3 rfl rfl rfl (wo_run rfl rfl (run_eql rfl rfl rfl) (wl_end rfl (nmk [1, 2, 4, 10, 11, 14, 15, 16, 89] rfl (nm_thn ?_)))))
        refine ws_condN SmoothOf_n72 SmoothOf_n73 rfl rfl rfl rfl (fun hb89 => ?_) (fun hb89 => ?_)
        ·replace hb89 := of_decide_eq_true hb89
         refine ws_exit rfl rfl (nmk [1, 2, 4, 10, 11, 14, 15, 16] rfl (nm_thn (ws_region rfl (wlm 0 1 rfl rfl rfl rfl rfl rfl rfl (wlo 1 2 rfl rfl rfl (wo_run rfl rfl (run_add rfl rfl rfl (by first | omega | (simp only [lens]; omega))) ?_))))))
         refine wla 2 3 rfl rfl rfl rfl rfl rfl rfl (wl_end rfl (nm_lp ?_))
         intro ax_ hax_
         refine ⟨_, ?hq8m, ⟨i2 + 1, _, _, rfl, hax_.sub ⟨rfl, rfl, rfl, rfl, rfl, rfl, rfl, rfl, trivial⟩, S41.pick [0, 1, 2, 3, 4] [_, _, _, _, _] (by decide) ⟨rfl, rfl, rfl, rfl, rfl, trivial⟩, ?hq8f0, ?hq8f1, ?hq8f2⟩⟩
         case hq8f0 => omega
         case hq8f1 => assumption
         case hq8f2 => first | (intro x hx; rw [remN, if_pos (by omega)]; exact hth x hx) | (intro x hx; rw [remN, if_neg (by omega), lfL_snoc, htc x hx, show s3 = 4 by omega])
         case hq8m => omega
        ·replace hb89 := of_decide_eq_false hb89
         refine ws_skip rfl (nmk [1, 2, 4, 10, 11, 14, 15, 16] rfl (nm_thn (ws_seqN SmoothOf_n74 SmoothOf_n75 rfl rfl rfl (ws_region rfl (wla 0 1 rfl rfl rfl rfl rfl rfl rfl (wl_end rfl (nm_thn (ws_blockN SmoothOf_n76 6 rfl rfl rfl ?_))))))))
         refine ws_loopE (fun mx_ ax_ wx_ => ∃ (s3 : Nat) (tc : List Bool) (vrt3 : Value), mx_ = 4 - s3 ∧ Env 188 [(1, .int .i64 (k : Int)), (2, .pointer (some ⟨gb1, 0, none⟩)), (4, .pointer (some ⟨gb2, 0, none⟩)), (10, .int .i64 (2 * (d.crs.length : Int))), (11, vrw2), (14, vrt3), (15, .pointer (some ⟨gb4, 0, none⟩)), (16, .int .i64 (i2 : Int)), (17, .int .i64 (s3 : Int))] ax_ ∧ SH wx_ M13 X [Rs.box gb4 24 [.slice none 0 0, .int .i64 (d.loops + (cn (loB2 cl oc) (0 + 1) : Int))], Rs.row cdBool vrt3 tc, Rs.row cdInt vrw2 cl, Rs.box gb2 24 [.slice none 0 0, .int .i64 0], Rs.box gb1 24 [.slice dcrsA d.crs.length dcrsc, .int .i64 d.loops]] ∧ s3 ≤ 4 ∧ tc.length = 2 * d.crs.length + 1 ∧ (∀ x, x < 2 * d.crs.length + 1 → ga tc x = (lfL cl (remN d k i2) (x : Int) || lf1 cl (ga d.crs i2) s3 (x : Int)))) rfl ?_ ?_
         ·intro ax_ hax_
          refine ⟨_, ⟨0, _, _, rfl, hax_.sub ⟨rfl, rfl, rfl, rfl, rfl, rfl, rfl, rfl, rfl, trivial⟩, S41.pick [0, 1, 2, 3, 4] [_, _, _, _, _] (by decide) ⟨rfl, rfl, rfl, rfl, rfl, trivial⟩, ?hq9f0, ?hq9f1, ?hq9f2⟩⟩
          case hq9f0 => omega
          case hq9f1 => exact htl
          case hq9f2 => (intro x hx; rw [lf1, Bool.or_false]; exact hth x hx)
         ·rintro m4 a5 w42 ⟨s3, tc, vrt3, rfl, he5, S42, hs3, htcl, htc⟩
          clear S41
          refine ws_in he5 (c := SmoothOf_n77) rfl ?_
          clear he5 a5
          have hab3 := fun h => arcAt_bd hab (i := i2) (by omega) (k := s3) h
          refine ws_seqN SmoothOf_n78 SmoothOf_n79 rfl rfl rfl (ws_seqN SmoothOf_n80 SmoothOf_n81 rfl rfl rfl (ws_region rfl (wlm 0 1 rfl rfl rfl rfl rfl rfl rfl (wlo 1 2 rfl rfl rfl (wo_run rfl rfl (run_lss rfl rfl rfl) (wl_end rfl (nmk [1, 2, 4, 10, 11, 14, 15, 16, 17, 91] rfl (nm_thn ?_))))))))
          refine ws_condN SmoothOf_n82 SmoothOf_n83 rfl rfl rfl rfl (fun hb91 => ?_) (fun hb91 => ?_)
          ·replace hb91 := of_decide_eq_true hb91
           refine ws_skip rfl (nmk [1, 2, 4, 10, 11, 14, 15, 16, 17] rfl (nm_thn (ws_seqN SmoothOf_n84 SmoothOf_n85 rfl rfl rfl (ws_blockN SmoothOf_n86 7 rfl rfl rfl ?_))))
           have hab3s := hab3 (by omega)
           have hok3 := hok (arcAt d i2 s3).toNat (by omega)
           refine ws_region rfl (wlm 0 1 rfl rfl rfl rfl rfl rfl rfl (wlm 1 2 rfl rfl rfl rfl rfl rfl rfl (wlo 2 3 rfl rfl rfl (wo_run rfl rfl (run_loadN (us := [_, _]) rfl rfl Tryz.underlying24 rfl sz24 (S42.boxcs (i := 4) rfl ⟨rfl, rfl, trivial⟩)) (wlm 3 4 rfl rfl rfl rfl rfl rfl rfl (wlm 4 5 rfl rfl rfl rfl rfl rfl rfl (wlo 5 6 rfl rfl rfl (wo_run rfl rfl (run_build (l := [_, _]) rfl rfl st120 rfl rfl) (wlo 6 7 rfl rfl rfl (wo_cq rfl rfl rfl rfl rfl rfl rfl cf72 S42 (ArcAt_q d i2 s3 (hdcrs.mono S42.un_XH) (by omega) (by omega) S42.lend) ?_))))))))))
           rintro _ w43 S43 rfl; clear S42
           refine wlo 7 8 rfl rfl rfl (wo_run rfl rfl (run_indexR (C := cdInt) (i := 2) ((arcAt d i2 s3).toNat) rfl rfl rfl sl53 S43 rfl (by first | rfl | omega) (by first | omega | (simp only [lens]; omega))) ?_)
           refine wlo 8 9 rfl rfl rfl (wo_run rfl rfl (run_load1 rfl rfl Tryz.underlying3 rfl (S43.rowc (i := 2) (e := (arcAt d i2 s3).toNat) (j := 0) rfl (by first | omega | (simp only [lens]; omega)) rfl rfl)) ?_)
           refine wlo 9 10 rfl rfl rfl (wo_run rfl rfl (run_indexR (C := cdBool) (i := 1) ((ga cl ((arcAt d i2 s3).toNat)).toNat) rfl rfl rfl sl130 S43 rfl (by first | rfl | omega) (by first | omega | (simp only [lens]; omega))) ?_)
           refine wlo 10 11 rfl rfl rfl (wo_storeR (C := cdBool) (i := 1) (e := (ga cl ((arcAt d i2 s3).toNat)).toNat) (j := 0) (us := [_]) (H' := [_, _, _, _, _]) true rfl rfl S43 rfl (by first | omega | (simp only [lens]; omega)) rfl rfl rfl sz4 rfl rfl rfl rfl ?_)
           intro w44 S44; clear S43
           refine wl_end rfl (nm_blk (nmk [1, 2, 4, 10, 11, 14, 15, 16, 17] rfl (nm_thn (ws_region rfl (wlm 0 1 rfl rfl rfl rfl rfl rfl rfl (wlo 1 2 rfl rfl rfl (wo_run rfl rfl (run_add rfl rfl rfl (by first | omega | (simp only [lens]; omega))) ?_)))))))
           refine wla 2 3 rfl rfl rfl rfl rfl rfl rfl (wl_end rfl (nm_lp ?_))
           intro ax_ hax_
           refine ⟨_, ?hq10m, ⟨s3 + 1, _, _, rfl, hax_.sub ⟨rfl, rfl, rfl, rfl, rfl, rfl, rfl, rfl, rfl, trivial⟩, S44.pick [0, 1, 2, 3, 4] [_, _, _, _, _] (by decide) ⟨rfl, rfl, rfl, rfl, rfl, trivial⟩, ?hq10f0, ?hq10f1, ?hq10f2⟩⟩
           case hq10f0 => omega
           case hq10f1 => simpa using htcl
           case hq10f2 => (intro x hx; have hq := htc x hx; rw [ga_set _ _ _ _ (by omega), lf1]; by_cases e9 : (x : Int) = ga cl (crArc (ga d.crs i2) s3).toNat; (rw [if_pos (show (ga cl (arcAt d i2 s3).toNat).toNat = x by unfold arcAt; omega)]; simp [e9]); (rw [if_neg (show ¬ (ga cl (arcAt d i2 s3).toNat).toNat = x by (unfold arcAt at *; omega)), hq]; simp [e9]))
           case hq10m => omega
          ·replace hb91 := of_decide_eq_false hb91
           refine ws_exit rfl rfl (nm_blk (nmk [1, 2, 4, 10, 11, 14, 15, 16] rfl (nm_thn (ws_region rfl (wlm 0 1 rfl rfl rfl rfl rfl rfl rfl (wlo 1 2 rfl rfl rfl (wo_run rfl rfl (run_add rfl rfl rfl (by first | omega | (simp only [lens]; omega))) ?_)))))))
           refine wla 2 3 rfl rfl rfl rfl rfl rfl rfl (wl_end rfl (nm_lp ?_))
           intro ax_ hax_
           refine ⟨_, ?hq11m, ⟨i2 + 1, _, _, rfl, hax_.sub ⟨rfl, rfl, rfl, rfl, rfl, rfl, rfl, rfl, trivial⟩, S42.pick [0, 1, 2, 3, 4] [_, _, _, _, _] (by decide) ⟨rfl, rfl, rfl, rfl, rfl, trivial⟩, ?hq11f0, ?hq11f1, ?hq11f2⟩⟩
           case hq11f0 => omega
           case hq11f1 => assumption
           case hq11f2 => first | (intro x hx; rw [remN, if_pos (by omega)]; exact hth x hx) | (intro x hx; rw [remN, if_neg (by omega), lfL_snoc, htc x hx, show s3 = 4 by omega])
           case hq11m => omega
       ·replace hb84 := of_decide_eq_false hb84
        refine ws_exit rfl rfl (nmk [1, 2, 4, 10, 11, 14, 15] rfl (nm_thn (ws_seqN SmoothOf_n87 SmoothOf_n88 rfl rfl rfl ?_)))
        obtain rfl : i2 = d.crs.length := by omega
        have hlf : ∀ x, x < 2 * d.crs.length + 1 → ga th x = lfL cl oc (x : Int) := fun x hx => by rw [hocf]; exact hth x hx
        clear hth
        refine ws_region rfl (wlm 0 1 rfl rfl rfl rfl rfl rfl rfl (wlo 1 2 rfl rfl rfl (wo_run rfl rfl (run_add rfl rfl rfl (by first | omega | (simp only [lens]; omega))) ?_)))
        refine wlo 2 3 rfl rfl rfl (wo_make (C := cdInt) ((2 * (d.crs.length : Int)).toNat + 1) rfl rfl rfl rfl rfl sl53 (by first | rfl | omega) (by show _ * 8 ≤ _; first | omega | (simp only [lens]; omega)) S41 ?_)
        intro vr3 w45 S45; clear S41
        refine wla 3 4 rfl rfl rfl rfl rfl rfl rfl (wl_end rfl (nmk [1, 2, 4, 10, 11, 14, 15, 18] rfl (nm_thn (ws_seqN SmoothOf_n89 SmoothOf_n90 rfl rfl rfl (ws_region rfl (wla 0 1 rfl rfl rfl rfl rfl rfl rfl (wl_end rfl (nm_thn ?_))))))))
        refine ws_seqN SmoothOf_n91 SmoothOf_n92 rfl rfl rfl (ws_seqN SmoothOf_n93 SmoothOf_n94 rfl rfl rfl (ws_region rfl (wla 0 1 rfl rfl rfl rfl rfl rfl rfl (wl_end rfl (nm_thn (ws_blockN SmoothOf_n95 8 rfl rfl rfl ?_))))))
        refine ws_loopE (fun mx_ ax_ wx_ => ∃ (x6 : Nat) (nu : List Int) (vrn : Value), mx_ = 2 * d.crs.length - x6 ∧ Env 188 [(1, .int .i64 (k : Int)), (2, .pointer (some ⟨gb1, 0, none⟩)), (4, .pointer (some ⟨gb2, 0, none⟩)), (10, .int .i64 (2 * (d.crs.length : Int))), (11, vrw2), (14, vrt), (15, .pointer (some ⟨gb4, 0, none⟩)), (18, vrn), (19, .int .i64 ((cn (rtB2 cl oc) (x6 + 1) + 1 : Nat) : Int)), (20, .int .i64 ((x6 + 1 : Nat) : Int))] ax_ ∧ SH wx_ M13 X [Rs.row cdInt vrn nu, Rs.box gb4 24 [.slice none 0 0, .int .i64 (d.loops + (cn (loB2 cl oc) (x6 + 1) : Int))], Rs.row cdBool vrt th, Rs.row cdInt vrw2 cl, Rs.box gb2 24 [.slice none 0 0, .int .i64 0], Rs.box gb1 24 [.slice dcrsA d.crs.length dcrsc, .int .i64 d.loops]] ∧ x6 ≤ 2 * d.crs.length ∧ nu.length = 2 * d.crs.length + 1 ∧ (∀ x, x < x6 + 1 → rtB2 cl oc x = true → ga nu x = (cn (rtB2 cl oc) (x + 1) : Int))) rfl ?_ ?_
        ·intro ax_ hax_
         refine ⟨_, ⟨0, _, _, rfl, hax_.sub ⟨rfl, rfl, rfl, rfl, rfl, rfl, rfl, rfl, rfl, rfl, trivial⟩, S45.pick [0, 1, 2, 3, 4, 5] [_, _, _, _, _, _] (by decide) ⟨rfl, rfl, rfl, rfl, rfl, rfl, trivial⟩, ?hq12f0, ?hq12f1, ?hq12f2⟩⟩
         case hq12f0 => omega
         case hq12f1 => (rw [List.length_replicate]; omega)
         case hq12f2 => (intro x hx h9; obtain rfl : x = 0 := (by omega); cases h9)
        ·rintro m5 a6 w46 ⟨x6, nu, vrn, rfl, he6, S46, ha6, hnl, hnu⟩
         clear S45
         refine ws_in he6 (c := SmoothOf_n96) rfl ?_
         clear he6 a6
         have hcn1 := cn_le (rtB2 cl oc) (x6 + 1)
         have hcn2 := cn_le (loB2 cl oc) (x6 + 1)
         have hok6 := fun h => hok (x6 + 1) h
         refine ws_seqN SmoothOf_n97 SmoothOf_n98 rfl rfl rfl (ws_seqN SmoothOf_n99 SmoothOf_n100 rfl rfl rfl (ws_region rfl (wlm 0 1 rfl rfl rfl rfl rfl rfl rfl (wlm 1 2 rfl rfl rfl rfl rfl rfl rfl (wlo 2 3 rfl rfl rfl (wo_run rfl rfl (run_leq rfl rfl rfl) (wl_end rfl (nmk [1, 2, 4, 10, 11, 14, 15, 18, 19, 20, 109] rfl (nm_thn ?_)))))))))
         refine ws_condN SmoothOf_n101 SmoothOf_n102 rfl rfl rfl rfl (fun hb109 => ?_) (fun hb109 => ?_)
         ·replace hb109 := of_decide_eq_true hb109
          refine ws_skip rfl (nmk [1, 2, 4, 10, 11, 14, 15, 18, 19, 20] rfl (nm_thn (ws_seqN SmoothOf_n103 SmoothOf_n104 rfl rfl rfl (ws_blockN SmoothOf_n105 9 rfl rfl rfl (ws_seqN SmoothOf_n106 SmoothOf_n107 rfl rfl rfl (ws_region rfl (wlm 0 1 rfl rfl rfl rfl rfl rfl rfl (wlm 1 2 rfl rfl rfl rfl rfl rfl rfl ?_))))))))
          refine wlo 2 3 rfl rfl rfl (wo_run rfl rfl (run_indexR (C := cdBool) (i := 2) (x6 + 1) rfl rfl rfl sl130 S46 rfl (by first | rfl | omega) (by first | omega | (simp only [lens]; omega))) ?_)
          refine wlo 3 4 rfl rfl rfl (wo_run rfl rfl (run_load1 rfl rfl Tryz.underlying4 rfl (S46.rowc (i := 2) (e := x6 + 1) (j := 0) rfl (by first | omega | (simp only [lens]; omega)) rfl rfl)) ?_)
          refine wl_end rfl (nmk [1, 2, 4, 10, 11, 14, 15, 18, 19, 20, 115] rfl (nm_thn ?_))
          refine ws_condN SmoothOf_n108 SmoothOf_n109 rfl rfl rfl rfl (fun hb115 => ?_) (fun hb115 => ?_)
          ·have hlx := hlf (x6 + 1) (by omega)
           obtain ⟨hq1, hq2, hq3⟩ := lf_root hab hk (x := x6 + 1) (by rw [← hclf, ← hocf, ← hlx]; exact hb115)
           rw [← hclf] at hq3
           have hrt : rtB2 cl oc (x6 + 1) = true := by unfold rtB2; rw [decide_eq_true hq3, ← hlx]; simp; exact hb115
           have hlo : loB2 cl oc (x6 + 1) = false := by unfold loB2; rw [← hlx]; simp; intro _; exact hb115
           refine ws_seqN SmoothOf_n110 SmoothOf_n111 rfl rfl rfl (ws_region rfl (wlm 0 1 rfl rfl rfl rfl rfl rfl rfl (wlm 1 2 rfl rfl rfl rfl rfl rfl rfl (wlm 2 3 rfl rfl rfl rfl rfl rfl rfl (wlo 3 4 rfl rfl rfl (wo_run rfl rfl (run_indexR (C := cdInt) (i := 0) (x6 + 1) rfl rfl rfl sl53 S46 rfl (by first | rfl | omega) (by first | omega | (simp only [lens]; omega))) ?_))))))
           refine wlo 4 5 rfl rfl rfl (wo_storeR (C := cdInt) (i := 0) (e := x6 + 1) (j := 0) (us := [_]) (H' := [_, _, _, _, _, _]) ((cn (rtB2 cl oc) (x6 + 1) + 1 : Nat) : Int) rfl rfl S46 rfl (by first | omega | (simp only [lens]; omega)) rfl rfl rfl sz3 rfl rfl rfl rfl ?_)
           intro w47 S47; clear S46
           refine wl_end rfl (nmk [1, 2, 4, 10, 11, 14, 15, 18, 19, 20] rfl (nm_thn (ws_region rfl (wlm 0 1 rfl rfl rfl rfl rfl rfl rfl (wlo 1 2 rfl rfl rfl (wo_run rfl rfl (run_add rfl rfl rfl (by first | omega | (simp only [lens]; omega))) ?_))))))
           refine wla 2 3 rfl rfl rfl rfl rfl rfl rfl (wl_end rfl (nm_blk (nmk [1, 2, 4, 10, 11, 14, 15, 18, 19, 20] rfl (nm_thn (ws_eq 19 (.int .i64 ((cn (rtB2 cl oc) (x6 + 1 + 1) + 1 : Nat) : Int)) rfl (int_eq (by rw [cn_yes hrt]; omega)) ?_)))))
           rw [← cn_no hlo] at S47
           refine ws_region rfl (wlm 0 1 rfl rfl rfl rfl rfl rfl rfl (wlo 1 2 rfl rfl rfl (wo_run rfl rfl (run_add rfl rfl rfl (by first | omega | (simp only [lens]; omega))) ?_)))
           refine wla 2 3 rfl rfl rfl rfl rfl rfl rfl (wl_end rfl (nm_lp ?_))
           intro ax_ hax_
           refine ⟨_, ?hq13m, ⟨x6 + 1, _, _, rfl, hax_.sub ⟨rfl, rfl, rfl, rfl, rfl, rfl, rfl, rfl, rfl, rfl, trivial⟩, S47.pick [0, 1, 2, 3, 4, 5] [_, _, _, _, _, _] (by decide) ⟨rfl, rfl, rfl, rfl, rfl, rfl, trivial⟩, ?hq13f0, ?hq13f1, ?hq13f2⟩⟩
           case hq13f0 => omega
           case hq13f1 => first | assumption | simpa using hnl
           case hq13f2 => first | (intro x hx h9; by_cases e : x = x6 + 1; (subst e; rw [ga_set _ _ _ _ (by omega), if_pos rfl, cn_yes h9]); (rw [ga_set _ _ _ _ (by omega), if_neg (fun h => e h.symm)]; exact hnu x (by omega) h9)) | (intro x hx h9; by_cases e : x = x6 + 1; (subst e; rw [hrt] at h9; cases h9); exact hnu x (by omega) h9)
           case hq13m => omega
          ·refine ws_seqN SmoothOf_n112 SmoothOf_n113 rfl rfl rfl (ws_region rfl (wlm 0 1 rfl rfl rfl rfl rfl rfl rfl (wlm 1 2 rfl rfl rfl rfl rfl rfl rfl (wlo 2 3 rfl rfl rfl (wo_run rfl rfl (run_indexR (C := cdInt) (i := 3) (x6 + 1) rfl rfl rfl sl53 S46 rfl (by first | rfl | omega) (by first | omega | (simp only [lens]; omega))) ?_)))))
           refine wlo 3 4 rfl rfl rfl (wo_run rfl rfl (run_load1 rfl rfl Tryz.underlying3 rfl (S46.rowc (i := 3) (e := x6 + 1) (j := 0) rfl (by first | omega | (simp only [lens]; omega)) rfl rfl)) ?_)
           refine wlm 4 5 rfl rfl rfl rfl rfl rfl rfl (wlo 5 6 rfl rfl rfl (wo_run rfl rfl (run_eql rfl rfl rfl) (wl_end rfl (nmk [1, 2, 4, 10, 11, 14, 15, 18, 19, 20, 127] rfl (nm_thn ?_)))))
           refine ws_condN SmoothOf_n114 SmoothOf_n115 rfl rfl rfl rfl (fun hb127 => ?_) (fun hb127 => ?_)
           ·replace hb127 := of_decide_eq_true hb127
            have hlx := hlf (x6 + 1) (by omega)
            have hrt : rtB2 cl oc (x6 + 1) = false := by unfold rtB2; rw [← hlx]; simp; intro _; exact hb115
            have hlo : loB2 cl oc (x6 + 1) = true := by unfold loB2; rw [decide_eq_true (show ga cl (x6 + 1) = ((x6 + 1 : Nat) : Int) from hb127), ← hlx]; simp; exact hb115
            refine ws_region rfl (wlo 0 1 rfl rfl rfl (wo_run rfl rfl (run_fieldAddr rfl rfl Tryz.underlying24 rfl (ce3) (nf3)) (wlo 1 2 rfl rfl rfl (wo_run rfl rfl (run_load1 rfl rfl Tryz.underlying3 rfl (S46.boxc (i := 1) rfl rfl)) (wlo 2 3 rfl rfl rfl (wo_run rfl rfl (run_add rfl rfl rfl (by first | omega | (simp only [lens]; omega))) ?_))))))
            refine wlo 3 4 rfl rfl rfl (wo_run rfl rfl (run_fieldAddr rfl rfl Tryz.underlying24 rfl (ce3) (nf3)) (wlo 4 5 rfl rfl rfl (wo_storeB (i := 1) (us := [_]) (l' := [_, _]) (H' := [_, _, _, _, _, _]) rfl rfl S46 rfl rfl rfl rfl sz3 rfl rfl rfl rfl ?_)))
            intro w48 S48; clear S46
            refine wl_end rfl (nm_blk (nmk [1, 2, 4, 10, 11, 14, 15, 18, 19, 20] rfl (nm_thn (ws_eq 19 (.int .i64 ((cn (rtB2 cl oc) (x6 + 1 + 1) + 1 : Nat) : Int)) rfl (int_eq (by rw [cn_no hrt])) ?_))))
            rw [cast_add, ← cn_yes hlo] at S48
            refine ws_region rfl (wlm 0 1 rfl rfl rfl rfl rfl rfl rfl (wlo 1 2 rfl rfl rfl (wo_run rfl rfl (run_add rfl rfl rfl (by first | omega | (simp only [lens]; omega))) ?_)))
            refine wla 2 3 rfl rfl rfl rfl rfl rfl rfl (wl_end rfl (nm_lp ?_))
            intro ax_ hax_
            refine ⟨_, ?hq14m, ⟨x6 + 1, _, _, rfl, hax_.sub ⟨rfl, rfl, rfl, rfl, rfl, rfl, rfl, rfl, rfl, rfl, trivial⟩, S48.pick [0, 1, 2, 3, 4, 5] [_, _, _, _, _, _] (by decide) ⟨rfl, rfl, rfl, rfl, rfl, rfl, trivial⟩, ?hq14f0, ?hq14f1, ?hq14f2⟩⟩
            case hq14f0 => omega
            case hq14f1 => first | assumption | simpa using hnl
            case hq14f2 => first | (intro x hx h9; by_cases e : x = x6 + 1; (subst e; rw [ga_set _ _ _ _ (by omega), if_pos rfl, cn_yes h9]); (rw [ga_set _ _ _ _ (by omega), if_neg (fun h => e h.symm)]; exact hnu x (by omega) h9)) | (intro x hx h9; by_cases e : x = x6 + 1; (subst e; rw [hrt] at h9; cases h9); exact hnu x (by omega) h9)
            case hq14m => omega
           ·replace hb127 := of_decide_eq_false hb127
            have hlx := hlf (x6 + 1) (by omega)
            have hrt : rtB2 cl oc (x6 + 1) = false := by unfold rtB2; rw [← hlx]; simp; intro _; exact hb115
            have hlo : loB2 cl oc (x6 + 1) = false := by unfold loB2; rw [decide_eq_false (show ¬ ga cl (x6 + 1) = ((x6 + 1 : Nat) : Int) from hb127)]; simp
            refine ws_skip rfl (nm_blk (nmk [1, 2, 4, 10, 11, 14, 15, 18, 19, 20] rfl (nm_thn (ws_eq 19 (.int .i64 ((cn (rtB2 cl oc) (x6 + 1 + 1) + 1 : Nat) : Int)) rfl (int_eq (by rw [cn_no hrt])) ?_))))
            rw [← cn_no hlo] at S46
            refine ws_region rfl (wlm 0 1 rfl rfl rfl rfl rfl rfl rfl (wlo 1 2 rfl rfl rfl (wo_run rfl rfl (run_add rfl rfl rfl (by first | omega | (simp only [lens]; omega))) ?_)))
            refine wla 2 3 rfl rfl rfl rfl rfl rfl rfl (wl_end rfl (nm_lp ?_))
            intro ax_ hax_
            refine ⟨_, ?hq15m, ⟨x6 + 1, _, _, rfl, hax_.sub ⟨rfl, rfl, rfl, rfl, rfl, rfl, rfl, rfl, rfl, rfl, trivial⟩, S46.pick [0, 1, 2, 3, 4, 5] [_, _, _, _, _, _] (by decide) ⟨rfl, rfl, rfl, rfl, rfl, rfl, trivial⟩, ?hq15f0, ?hq15f1, ?hq15f2⟩⟩
            case hq15f0 => omega
            case hq15f1 => first | assumption | simpa using hnl
            case hq15f2 => first | (intro x hx h9; by_cases e : x = x6 + 1; (subst e; rw [ga_set _ _ _ _ (by omega), if_pos rfl, cn_yes h9]); (rw [ga_set _ _ _ _ (by omega), if_neg (fun h => e h.symm)]; exact hnu x (by omega) h9)) | (intro x hx h9; by_cases e : x = x6 + 1; (subst e; rw [hrt] at h9; cases h9); exact hnu x (by omega) h9)
            case hq15m => omega
         ·replace hb109 := of_decide_eq_false hb109
          refine ws_exit rfl rfl (nmk [1, 2, 4, 11, 15, 18] rfl (nm_thn (ws_seqN SmoothOf_n116 SmoothOf_n117 rfl rfl rfl (ws_seqN SmoothOf_n118 SmoothOf_n119 rfl rfl rfl ?_))))
          obtain rfl : x6 = 2 * d.crs.length := by omega
          refine ws_region rfl (wla 0 1 rfl rfl rfl rfl rfl rfl rfl (wl_end rfl (nm_thn (ws_blockN SmoothOf_n120 10 rfl rfl rfl ?_))))
          have S49 := S46.nilrow cdCr; clear S46
          refine ws_loopE (fun mx_ ax_ wx_ => ∃ (i5 : Nat) (c5 : List Cr) (vr5 : Value), mx_ = d.crs.length - i5 ∧ Env 188 [(1, .int .i64 (k : Int)), (2, .pointer (some ⟨gb1, 0, none⟩)), (4, .pointer (some ⟨gb2, 0, none⟩)), (11, vrw2), (15, .pointer (some ⟨gb4, 0, none⟩)), (18, vrn), (21, .int .i64 (i5 : Int))] ax_ ∧ SH wx_ M13 X [Rs.row cdCr vr5 c5, Rs.row cdInt vrn nu, Rs.box gb4 24 [vr5, .int .i64 (d.loops + (cn (loB2 cl oc) (2 * d.crs.length + 1) : Int))], Rs.row cdInt vrw2 cl, Rs.box gb2 24 [.slice none 0 0, .int .i64 0], Rs.box gb1 24 [.slice dcrsA d.crs.length dcrsc, .int .i64 d.loops]] ∧ i5 ≤ d.crs.length ∧ c5 = (remN d k i5).map (nuC cl oc)) rfl ?_ ?_
          ·intro ax_ hax_
           refine ⟨_, ⟨0, _, _, rfl, hax_.sub ⟨rfl, rfl, rfl, rfl, rfl, rfl, rfl, trivial⟩, S49.pick [0, 1, 2, 4, 5, 6] [_, _, _, _, _, _] (by decide) ⟨rfl, rfl, rfl, rfl, rfl, rfl, trivial⟩, ?hq16f0, ?hq16f1⟩⟩
           case hq16f0 => omega
           case hq16f1 => rfl
          ·rintro m6 a7 w49 ⟨i5, c5, vr5, rfl, he7, S50, hi5, hc5⟩
           clear S49
           refine ws_in he7 (c := SmoothOf_n121) rfl ?_
           clear he7 a7
           have hcl5 : c5.length ≤ i5 := by rw [hc5, List.length_map]; exact remN_len _ _ _
           refine ws_seqN SmoothOf_n122 SmoothOf_n123 rfl rfl rfl (ws_seqN SmoothOf_n124 SmoothOf_n125 rfl rfl rfl (ws_region rfl (wlm 0 1 rfl rfl rfl rfl rfl rfl rfl (wlo 1 2 rfl rfl rfl (wo_run rfl rfl (run_fieldAddr rfl rfl Tryz.underlying24 rfl (ce22) (nf22)) (wlo 2 3 rfl rfl rfl (wo_run rfl rfl (run_load1 rfl rfl Tryz.underlying22 rfl (S50.boxc (i := 5) rfl rfl)) (wlo 3 4 rfl rfl rfl (wo_run rfl rfl (run_len rfl rfl rfl rfl rfl rfl Tryz.underlying22) (wlo 4 5 rfl rfl rfl (wo_run rfl rfl (run_lss rfl rfl rfl) (wl_end rfl ?_))))))))))))
           refine nmk [1, 2, 4, 11, 15, 18, 21, 136] rfl (nm_thn ?_)
           refine ws_condN SmoothOf_n126 SmoothOf_n127 rfl rfl rfl rfl (fun hb136 => ?_) (fun hb136 => ?_)
           ·replace hb136 := of_decide_eq_true hb136
            refine ws_skip rfl (nmk [1, 2, 4, 11, 15, 18, 21] rfl (nm_thn (ws_seqN SmoothOf_n128 SmoothOf_n129 rfl rfl rfl (ws_blockN SmoothOf_n130 11 rfl rfl rfl (ws_seqN SmoothOf_n131 SmoothOf_n132 rfl rfl rfl (ws_region rfl (wlm 0 1 rfl rfl rfl rfl rfl rfl rfl (wlm 1 2 rfl rfl rfl rfl rfl rfl rfl ?_))))))))
            refine wlo 2 3 rfl rfl rfl (wo_run rfl rfl (run_neq rfl rfl rfl) (wl_end rfl (nmk [1, 2, 4, 11, 15, 18, 21, 141] rfl (nm_thn ?_))))
            refine ws_condN SmoothOf_n133 SmoothOf_n134 rfl rfl rfl rfl (fun hb141 => ?_) (fun hb141 => ?_)
            ·replace hb141 := of_decide_eq_true hb141
             have hmem7 : ga d.crs i5 ∈ remL d k := rem_in (by omega) (by omega)
             have hside0 : 1 ≤ (ga d.crs i5).a ∧ (ga d.crs i5).a ≤ 2 * (d.crs.length : Int) := rem_arc hab (Nat.le_refl _) hmem7 (s := 0) (by omega)
             obtain ⟨hoo0, hpp0, _⟩ := hok (ga d.crs i5).a.toNat (by omega)
             have hside1 : 1 ≤ (ga d.crs i5).b ∧ (ga d.crs i5).b ≤ 2 * (d.crs.length : Int) := rem_arc hab (Nat.le_refl _) hmem7 (s := 1) (by omega)
             obtain ⟨hoo1, hpp1, _⟩ := hok (ga d.crs i5).b.toNat (by omega)
             have hside2 : 1 ≤ (ga d.crs i5).c ∧ (ga d.crs i5).c ≤ 2 * (d.crs.length : Int) := rem_arc hab (Nat.le_refl _) hmem7 (s := 2) (by omega)
             obtain ⟨hoo2, hpp2, _⟩ := hok (ga d.crs i5).c.toNat (by omega)
             have hside3 : 1 ≤ (ga d.crs i5).d ∧ (ga d.crs i5).d ≤ 2 * (d.crs.length : Int) := rem_arc hab (Nat.le_refl _) hmem7 (s := 3) (by omega)
             obtain ⟨hoo3, hpp3, _⟩ := hok (ga d.crs i5).d.toNat (by omega)
             have hnv : ∀ s, s < 4 → ga nu (ga cl (crArc (ga d.crs i5) s).toNat).toNat = nuA cl oc (crArc (ga d.crs i5) s) := fun s hs => by
              have := rem_nu hab hk (nu := nu) (by rw [← hclf, ← hocf]; exact hnu) hmem7 hs
              rw [← hclf, ← hocf] at this
              exact this
             refine ws_seqN SmoothOf_n135 SmoothOf_n136 rfl rfl rfl (ws_region rfl (wlo 0 1 rfl rfl rfl (wo_run rfl rfl (run_fieldAddr rfl rfl Tryz.underlying24 rfl (ce22) (nf22)) (wlo 1 2 rfl rfl rfl (wo_run rfl rfl (run_load1 rfl rfl Tryz.underlying22 rfl (S50.boxc (i := 5) rfl rfl)) (wlm 2 3 rfl rfl rfl rfl rfl rfl rfl (wlo 3 4 rfl rfl rfl (wo_run rfl rfl (run_indexM (C := cdCr) i5 rfl rfl rfl sl22 (by first | rfl | omega) hdcrs (by first | omega | (simp only [lens]; omega))) ?_))))))))
             refine wlo 4 5 rfl rfl rfl (wo_run rfl rfl (run_loadN (us := [_, _, _, _, _]) rfl rfl Tryz.underlying77 rfl sz77 (hdcrs.cellsAt S50.um (e := i5) (by first | omega | (simp only [lens]; omega)) (j := 0) ⟨rfl, rfl, rfl, rfl, rfl, trivial⟩)) ?_)
             refine wlo 5 6 rfl rfl rfl (wo_alloc (l := [_, _, _, _, _]) rfl rfl rfl zr77 rfl S50 ?_)
             intro gb5 w50 S51; clear S50
             refine wlo 6 7 rfl rfl rfl (wo_storeB (i := 0) (us := [_, _, _, _, _]) (l' := [_, _, _, _, _]) (H' := [_, _, _, _, _, _, _]) rfl rfl S51 rfl rfl rfl rfl sz77 rfl rfl rfl rfl ?_)
             intro w51 S52; clear S51
             refine wl_end rfl (nmk [1, 2, 4, 11, 15, 18, 21, 22] rfl (nm_thn (ws_draw rfl (by kernel_rfl) S52 41 rfl ?_)))
             clear S52
             refine wap 0 40 rfl (by kernel_rfl) rfl rfl rfl (fun w52 => run_fieldAddr rfl rfl Tryz.underlying24 rfl (ce22) (nf22)) ?_
             refine wat 1 39 rfl (by kernel_rfl) rfl rfl rfl (fun M27 N26 w53 hle33 S54 => .inl (run_load1 rfl rfl Tryz.underlying22 rfl (S54.suf.boxc (i := 3) rfl rfl))) ?_
             refine wap 2 38 rfl (by kernel_rfl) rfl rfl rfl (fun w54 => run_move rfl rfl) ?_
             refine wap 3 37 rfl (by kernel_rfl) rfl rfl rfl (fun w55 => run_move rfl rfl) ?_
             refine wap 4 36 rfl (by kernel_rfl) rfl rfl rfl (fun w56 => run_fieldAddr rfl rfl Tryz.underlying77 rfl (ce3) (nf3)) ?_
             refine wat 5 35 rfl (by kernel_rfl) rfl rfl rfl (fun M31 N30 w57 hle37 S58 => .inl (run_load1 rfl rfl Tryz.underlying3 rfl (S58.suf.boxc (i := 0) rfl rfl))) ?_
             refine wat 6 34 rfl (by kernel_rfl) rfl rfl rfl (fun M32 N31 w58 hle38 S59 => .inl (run_indexR (C := cdInt) (i := 4) (((ga d.crs i5).a).toNat) rfl rfl rfl sl53 S59.suf rfl (by first | rfl | omega) (by first | omega | (simp only [lens]; omega)))) ?_
             refine wat 7 33 rfl (by kernel_rfl) rfl rfl rfl (fun M33 N32 w59 hle39 S60 => .inl (run_load1 rfl rfl Tryz.underlying3 rfl (S60.suf.rowc (i := 4) (e := ((ga d.crs i5).a).toNat) (j := 0) rfl (by first | omega | (simp only [lens]; omega)) rfl rfl))) ?_
             refine wat 8 32 rfl (by kernel_rfl) rfl rfl rfl (fun M34 N33 w60 hle40 S61 => .inl (run_indexR (C := cdInt) (i := 2) ((ga cl (((ga d.crs i5).a).toNat)).toNat) rfl rfl rfl sl53 S61.suf rfl (by first | rfl | omega) (by first | omega | (simp only [lens]; omega)))) ?_
             refine wat 9 31 rfl (by kernel_rfl) rfl rfl rfl (fun M35 N34 w61 hle41 S62 => .inl (run_load1 rfl rfl Tryz.underlying3 rfl (S62.suf.rowc (i := 2) (e := (ga cl (((ga d.crs i5).a).toNat)).toNat) (j := 0) rfl (by first | omega | (simp only [lens]; omega)) rfl rfl))) ?_
             refine wap 10 30 rfl (by kernel_rfl) rfl rfl rfl (fun w62 => run_move rfl rfl) ?_
             refine wap 11 29 rfl (by kernel_rfl) rfl rfl rfl (fun w63 => run_move rfl rfl) ?_
             refine wap 12 28 rfl (by kernel_rfl) rfl rfl rfl (fun w64 => run_fieldAddr rfl rfl Tryz.underlying77 rfl (ce3) (nf3)) ?_
             refine wat 13 27 rfl (by kernel_rfl) rfl rfl rfl (fun M39 N38 w65 hle45 S66 => .inl (run_load1 rfl rfl Tryz.underlying3 rfl (S66.suf.boxc (i := 0) rfl rfl))) ?_
             refine wat 14 26 rfl (by kernel_rfl) rfl rfl rfl (fun M40 N39 w66 hle46 S67 => .inl (run_indexR (C := cdInt) (i := 4) (((ga d.crs i5).b).toNat) rfl rfl rfl sl53 S67.suf rfl (by first | rfl | omega) (by first | omega | (simp only [lens]; omega)))) ?_
             refine wat 15 25 rfl (by kernel_rfl) rfl rfl rfl (fun M41 N40 w67 hle47 S68 => .inl (run_load1 rfl rfl Tryz.underlying3 rfl (S68.suf.rowc (i := 4) (e := ((ga d.crs i5).b).toNat) (j := 0) rfl (by first | omega | (simp only [lens]; omega)) rfl rfl))) ?_
             refine wat 16 24 rfl (by kernel_rfl) rfl rfl rfl (fun M42 N41 w68 hle48 S69 => .inl (run_indexR (C := cdInt) (i := 2) ((ga cl (((ga d.crs i5).b).toNat)).toNat) rfl rfl rfl sl53 S69.suf rfl (by first | rfl | omega) (by first | omega | (simp only [lens]; omega)))) ?_
             refine wat 17 23 rfl (by kernel_rfl) rfl rfl rfl (fun M43 N42 w69 hle49 S70 => .inl (run_load1 rfl rfl Tryz.underlying3 rfl (S70.suf.rowc (i := 2) (e := (ga cl (((ga d.crs i5).b).toNat)).toNat) (j := 0) rfl (by first | omega | (simp only [lens]; omega)) rfl rfl))) ?_
             refine wap 18 22 rfl (by kernel_rfl) rfl rfl rfl (fun w70 => run_move rfl rfl) ?_
             refine wap 19 21 rfl (by kernel_rfl) rfl rfl rfl (fun w71 => run_move rfl rfl) ?_
             refine wap 20 20 rfl (by kernel_rfl) rfl rfl rfl (fun w72 => run_fieldAddr rfl rfl Tryz.underlying77 rfl (ce3) (nf3)) ?_
             refine wat 21 19 rfl (by kernel_rfl) rfl rfl rfl (fun M47 N46 w73 hle53 S74 => .inl (run_load1 rfl rfl Tryz.underlying3 rfl (S74.suf.boxc (i := 0) rfl rfl))) ?_
             refine wat 22 18 rfl (by kernel_rfl) rfl rfl rfl (fun M48 N47 w74 hle54 S75 => .inl (run_indexR (C := cdInt) (i := 4) (((ga d.crs i5).c).toNat) rfl rfl rfl sl53 S75.suf rfl (by first | rfl | omega) (by first | omega | (simp only [lens]; omega)))) ?_
             refine wat 23 17 rfl (by kernel_rfl) rfl rfl rfl (fun M49 N48 w75 hle55 S76 => .inl (run_load1 rfl rfl Tryz.underlying3 rfl (S76.suf.rowc (i := 4) (e := ((ga d.crs i5).c).toNat) (j := 0) rfl (by first | omega | (simp only [lens]; omega)) rfl rfl))) ?_
             refine wat 24 16 rfl (by kernel_rfl) rfl rfl rfl (fun M50 N49 w76 hle56 S77 => .inl (run_indexR (C := cdInt) (i := 2) ((ga cl (((ga d.crs i5).c).toNat)).toNat) rfl rfl rfl sl53 S77.suf rfl (by first | rfl | omega) (by first | omega | (simp only [lens]; omega)))) ?_
             refine wat 25 15 rfl (by kernel_rfl) rfl rfl rfl (fun M51 N50 w77 hle57 S78 => .inl (run_load1 rfl rfl Tryz.underlying3 rfl (S78.suf.rowc (i := 2) (e := (ga cl (((ga d.crs i5).c).toNat)).toNat) (j := 0) rfl (by first | omega | (simp only [lens]; omega)) rfl rfl))) ?_
             refine wap 26 14 rfl (by kernel_rfl) rfl rfl rfl (fun w78 => run_move rfl rfl) ?_
             refine wap 27 13 rfl (by kernel_rfl) rfl rfl rfl (fun w79 => run_move rfl rfl) ?_
             refine wap 28 12 rfl (by kernel_rfl) rfl rfl rfl (fun w80 => run_fieldAddr rfl rfl Tryz.underlying77 rfl (ce3) (nf3)) ?_
             refine wat 29 11 rfl (by kernel_rfl) rfl rfl rfl (fun M55 N54 w81 hle61 S82 => .inl (run_load1 rfl rfl Tryz.underlying3 rfl (S82.suf.boxc (i := 0) rfl rfl))) ?_
             refine wat 30 10 rfl (by kernel_rfl) rfl rfl rfl (fun M56 N55 w82 hle62 S83 => .inl (run_indexR (C := cdInt) (i := 4) (((ga d.crs i5).d).toNat) rfl rfl rfl sl53 S83.suf rfl (by first | rfl | omega) (by first | omega | (simp only [lens]; omega)))) ?_
             refine wat 31 9 rfl (by kernel_rfl) rfl rfl rfl (fun M57 N56 w83 hle63 S84 => .inl (run_load1 rfl rfl Tryz.underlying3 rfl (S84.suf.rowc (i := 4) (e := ((ga d.crs i5).d).toNat) (j := 0) rfl (by first | omega | (simp only [lens]; omega)) rfl rfl))) ?_
             refine wat 32 8 rfl (by kernel_rfl) rfl rfl rfl (fun M58 N57 w84 hle64 S85 => .inl (run_indexR (C := cdInt) (i := 2) ((ga cl (((ga d.crs i5).d).toNat)).toNat) rfl rfl rfl sl53 S85.suf rfl (by first | rfl | omega) (by first | omega | (simp only [lens]; omega)))) ?_
             refine wat 33 7 rfl (by kernel_rfl) rfl rfl rfl (fun M59 N58 w85 hle65 S86 => .inl (run_load1 rfl rfl Tryz.underlying3 rfl (S86.suf.rowc (i := 2) (e := (ga cl (((ga d.crs i5).d).toNat)).toNat) (j := 0) rfl (by first | omega | (simp only [lens]; omega)) rfl rfl))) ?_
             refine wap 34 6 rfl (by kernel_rfl) rfl rfl rfl (fun w86 => run_fieldAddr rfl rfl Tryz.underlying77 rfl (ce4) (nf4)) ?_
             refine wat 35 5 rfl (by kernel_rfl) rfl rfl rfl (fun M61 N60 w87 hle67 S88 => .inl (run_load1 rfl rfl Tryz.underlying4 rfl (S88.suf.boxc (i := 0) rfl rfl))) ?_
             refine wat 36 4 rfl (by kernel_rfl) rfl rfl rfl (fun M62 N61 w88 hle68 S89 => .inl (run_build (l := [_, _, _, _, _]) rfl rfl st77 rfl rfl)) ?_
             refine wa_only (i := 37) 3 rfl (by kernel_rfl) rfl rfl (fun w90 S91 => ?_)
             refine (wo_buildSlice1 (C := cdCr) (l := [_, _, _, _, _]) rfl rfl rfl rfl sl22 rfl rfl rfl rfl S91 ?_)
             intro gb6 w91 S92; clear S91
             refine LeftW.grow [_] (Hp.le_refl _) S92 ?_; clear S92
             change WA _ _ _ _ _ _ _ _ _ _ _ _ [_, _, _, _, _, _, _, _]
             refine wa_only (i := 38) 2 rfl (by kernel_rfl) rfl rfl (fun w93 S94 => ?_)
             refine (wo_append1 (C := cdCr) (i := 2) (q := 0) (⟨ga nu ((ga cl (((ga d.crs i5).a).toNat)).toNat), ga nu ((ga cl (((ga d.crs i5).b).toNat)).toNat), ga nu ((ga cl (((ga d.crs i5).c).toNat)).toNat), ga nu ((ga cl (((ga d.crs i5).d).toNat)).toNat), (ga d.crs i5).plus⟩ : Cr) rfl rfl rfl rfl rfl rfl rfl rfl sl22 S94 rfl rfl rfl (by show (_ + 1) * 40 ≤ _; first | omega | (simp only [lens]; omega)) ?_)
             intro vr5 w94 S95; clear S94
             have S96 := S95.pick [1, 2, 3, 4, 5, 6, 7] [_, _, _, _, _, _, _] (by decide) ⟨rfl, rfl, rfl, rfl, rfl, rfl, rfl, trivial⟩; clear S95
             refine LeftW.turn (by kernel_rfl) S96 ?_; clear S96
             change WA _ _ _ _ _ _ _ _ _ _ _ _ [_, _, _, _, _, _, _]
             refine wap 39 1 rfl (by kernel_rfl) rfl rfl rfl (fun w95 => run_fieldAddr rfl rfl Tryz.underlying24 rfl (ce22) (nf22)) ?_
             refine wa_only (i := 40) 0 rfl (by kernel_rfl) rfl rfl (fun w97 S99 => ?_)
             refine (wo_storeB (i := 3) (us := [_]) (l' := [_, _]) (H' := [_, _, _, _, _, _, _]) rfl rfl S99 rfl rfl rfl (S99.cells1 (i := 1) rfl) sz22 rfl (ones_cons (S99.one (i := 1) rfl) rfl) rfl rfl ?_)
             intro w98 S100; clear S99
             refine LeftW.turn (by kernel_rfl) S100 ?_; clear S100
             change WA _ _ _ _ _ _ _ _ _ _ _ _ [_, _, _, _, _, _, _]
             refine wa_end (by kernel_rfl) (fun w99 S101 => ?_)
             refine nm_blk (nmk [1, 2, 4, 11, 15, 18, 21] rfl (nm_thn (ws_region rfl (wlm 0 1 rfl rfl rfl rfl rfl rfl rfl (wlo 1 2 rfl rfl rfl (wo_run rfl rfl (run_add rfl rfl rfl (by first | omega | (simp only [lens]; omega))) ?_))))))
             refine wla 2 3 rfl rfl rfl rfl rfl rfl rfl (wl_end rfl (nm_lp ?_))
             intro ax_ hax_
             refine ⟨_, ?hq17m, ⟨i5 + 1, _, _, rfl, hax_.sub ⟨rfl, rfl, rfl, rfl, rfl, rfl, rfl, trivial⟩, S101.pick [1, 2, 3, 4, 5, 6] [_, _, _, _, _, _] (by decide) ⟨rfl, rfl, rfl, rfl, rfl, rfl, trivial⟩, ?hq17f0, ?hq17f1⟩⟩
             case hq17f0 => omega
             case hq17f1 => first | (rw [remN, if_pos (by omega)]; exact hc5) | (rw [remN, if_neg (by omega), List.map_append, ← hc5]; refine congrArg _ ?_; show [(⟨ga nu (ga cl (crArc (ga d.crs i5) 0).toNat).toNat, ga nu (ga cl (crArc (ga d.crs i5) 1).toNat).toNat, ga nu (ga cl (crArc (ga d.crs i5) 2).toNat).toNat, ga nu (ga cl (crArc (ga d.crs i5) 3).toNat).toNat, (ga d.crs i5).plus⟩ : Cr)] = _; rw [hnv 0 (by omega), hnv 1 (by omega), hnv 2 (by omega), hnv 3 (by omega)]; rfl)
             case hq17m => omega
            ·replace hb141 := of_decide_eq_false hb141
             refine ws_skip rfl (nm_blk (nmk [1, 2, 4, 11, 15, 18, 21] rfl (nm_thn (ws_region rfl (wlm 0 1 rfl rfl rfl rfl rfl rfl rfl (wlo 1 2 rfl rfl rfl (wo_run rfl rfl (run_add rfl rfl rfl (by first | omega | (simp only [lens]; omega))) ?_)))))))
             refine wla 2 3 rfl rfl rfl rfl rfl rfl rfl (wl_end rfl (nm_lp ?_))
             intro ax_ hax_
             refine ⟨_, ?hq18m, ⟨i5 + 1, _, _, rfl, hax_.sub ⟨rfl, rfl, rfl, rfl, rfl, rfl, rfl, trivial⟩, S50.pick [0, 1, 2, 3, 4, 5] [_, _, _, _, _, _] (by decide) ⟨rfl, rfl, rfl, rfl, rfl, rfl, trivial⟩, ?hq18f0, ?hq18f1⟩⟩
             case hq18f0 => omega
             case hq18f1 => first | (rw [remN, if_pos (by omega)]; exact hc5) | (rw [remN, if_neg (by omega), List.map_append, ← hc5]; refine congrArg _ ?_; show [(⟨ga nu (ga cl (crArc (ga d.crs i5) 0).toNat).toNat, ga nu (ga cl (crArc (ga d.crs i5) 1).toNat).toNat, ga nu (ga cl (crArc (ga d.crs i5) 2).toNat).toNat, ga nu (ga cl (crArc (ga d.crs i5) 3).toNat).toNat, (ga d.crs i5).plus⟩ : Cr)] = _; rw [hnv 0 (by omega), hnv 1 (by omega), hnv 2 (by omega), hnv 3 (by omega)]; rfl)
             case hq18m => omega
           ·replace hb136 := of_decide_eq_false hb136
            refine ws_exit rfl rfl (nmk [4, 15] rfl (nm_thn (ws_seqN SmoothOf_n137 SmoothOf_n138 rfl rfl rfl (ws_region rfl (wlo 0 1 rfl rfl rfl (wo_run rfl rfl (run_loadN (us := [_, _]) rfl rfl Tryz.underlying24 rfl sz24 (S50.boxcs (i := 2) rfl ⟨rfl, rfl, trivial⟩)) (wlo 1 2 rfl rfl rfl (wo_storeB (i := 4) (us := [_, _]) (l' := [_, _]) (H' := [_, _, _, _, _, _]) rfl rfl S50 rfl rfl rfl rfl sz24 rfl (ones_cons (S50.one (i := 0) rfl) (ones_cons rfl rfl)) rfl rfl ?_))))))))
            intro w100 S102; clear S50
            refine wl_end rfl (nmk [4] rfl (nm_thn ?_))
            obtain ⟨M67, hle73, S103, ⟨A1, c1, e1, hr1⟩⟩ := S102.pubrow (i := 0) (H' := [_, _, _, _, _, _]) rfl rfl (by show _ * 40 ≤ _; first | omega | (simp only [lens]; omega))
            clear S102; subst e1
            replace hdcrs := hdcrs.mono (Hp.un_mono hle73 S103.mx)
            refine ws_ret hC [_] rfl rfl ⟨⟨_, rfl, loadVarN (us := [_, _]) Tryz.underlying24 rfl sz24 (S103.boxcs (i := 4) rfl ⟨rfl, rfl, trivial⟩)⟩, trivial⟩ ?_
            refine ⟨_, rfl, _, hle13.trans hle73, (S103.pick [] [] (by decide) trivial), ?_⟩
            obtain rfl : i5 = d.crs.length := by omega
            have e9 : (smD d k).crs = c5 := by rw [hc5, hclf, hocf]; rfl
            have e8 : (smD d k).loops = d.loops + (cn (loB2 cl oc) (2 * d.crs.length + 1) : Int) := by rw [hclf, hocf]; rfl
            rw [e9, e8]
            exact ⟨_, _, rfl, hr1⟩
end Go.Proofs.YthppkofceancjaaGreat
namespace Go.Proofs.YthppkofceancjaaGreat
open Go.ChangeShapes Go.WideShapes Go.ChangeAt Go.RowKit
theorem can2_len {l : List T2} {B : Nat} (hB : B ≤ 400) (h : Can2 l) (hb : B2 B l) : l.length ≤ 801201 := by
 have h1 := can_len (B := 1001 * B) h fun t ht => by
  obtain ⟨u, hu, rfl⟩ := List.mem_map.1 ht
  exact enc_bd (hb u hu)
 rw [List.length_map] at h1
 omega
theorem can2_wr {l : List T2} (h : Can2 l) {i : Nat} (hi : i < l.length) : wr (ga l i).c = (ga l i).c := (h.2 (e2 (ga l i)) (List.mem_map.2 ⟨_, ga_mem hi, rfl⟩)).2.1
theorem ringS_step {acc l : List T2} {i : Nat} (h : acc = ringL.ringS [] (l.take i)) (hi : i < l.length) : put2 (put2 acc ((ga l i).x + 1) ((ga l i).z - 1) (ga l i).c) ((ga l i).x - 1) ((ga l i).z - 1) (wr (-(ga l i).c)) = ringL.ringS [] (l.take (i + 1)) := by
 rw [h, take_ga l i hi, ringS_snoc]
theorem addL_step {out acc l : List T2} {dx dz s x z c : Int} {i : Nat} (h : acc = addL out dx dz s (l.take i)) (hi : i < l.length) (hx : x = (ga l i).x + dx) (hz : z = (ga l i).z + dz) (hc : c = wr (s * (ga l i).c)) : put2 acc x z c = addL out dx dz s (l.take (i + 1)) := by
 rw [h, take_ga l i hi, addL_snoc, hx, hz, hc]
def dxP (b : Bool) : Int := if b = true then -2 else 2
def exP (b : Bool) : Int := if b = true then -1 else 1
def sP (b : Bool) : Int := if b = true then 1 else -1
theorem homL_two {f : Nat} {d : Dg} (hl : ¬ low d < 0) : homL (f + 1) d = addL (addL [] (dxP (ga d.crs (low d).toNat).plus) 0 1 (homL f (chD d (low d).toNat))) (exP (ga d.crs (low d).toNat).plus) 1 (sP (ga d.crs (low d).toNat).plus) (homL f (smD d (low d).toNat)) := by
 rw [homL, if_neg hl]
 cases (ga d.crs (low d).toNat).plus <;> rfl
theorem b2_at {l : List T2} {B : Nat} (h : B2 B l) {i : Nat} (hi : i < l.length) : -(B : Int) ≤ (ga l i).x ∧ (ga l i).x ≤ B ∧ -(B : Int) ≤ (ga l i).z ∧ (ga l i).z ≤ B := h _ (ga_mem hi)
noncomputable def HomflyOf_n0 : Code := Tryz.f20.body.getD .skip
noncomputable def HomflyOf_n1 : Code := cL HomflyOf_n0
noncomputable def HomflyOf_n2 : Code := cR HomflyOf_n0
noncomputable def HomflyOf_n3 : Code := cL HomflyOf_n2
noncomputable def HomflyOf_n4 : Code := cR HomflyOf_n2
noncomputable def HomflyOf_n5 : Code := cL HomflyOf_n4
noncomputable def HomflyOf_n6 : Code := cR HomflyOf_n4
noncomputable def HomflyOf_n7 : Code := cL HomflyOf_n5
noncomputable def HomflyOf_n8 : Code := cR HomflyOf_n5
noncomputable def HomflyOf_n9 : Code := cL HomflyOf_n8
noncomputable def HomflyOf_n10 : Code := cR HomflyOf_n8
noncomputable def HomflyOf_n11 : Code := cL HomflyOf_n9
noncomputable def HomflyOf_n12 : Code := cR HomflyOf_n9
noncomputable def HomflyOf_n13 : Code := cL HomflyOf_n12
noncomputable def HomflyOf_n14 : Code := cR HomflyOf_n12
noncomputable def HomflyOf_n15 : Code := cL HomflyOf_n13
noncomputable def HomflyOf_n16 : Code := cR HomflyOf_n13
noncomputable def HomflyOf_n17 : Code := cL HomflyOf_n16
noncomputable def HomflyOf_n18 : Code := cL HomflyOf_n17
noncomputable def HomflyOf_n19 : Code := cL HomflyOf_n18
noncomputable def HomflyOf_n20 : Code := cR HomflyOf_n18
noncomputable def HomflyOf_n21 : Code := cL HomflyOf_n19
noncomputable def HomflyOf_n22 : Code := cR HomflyOf_n19
noncomputable def HomflyOf_n23 : Code := cL HomflyOf_n22
noncomputable def HomflyOf_n24 : Code := cR HomflyOf_n22
noncomputable def HomflyOf_n25 : Code := cL HomflyOf_n20
noncomputable def HomflyOf_n26 : Code := cR HomflyOf_n20
noncomputable def HomflyOf_n27 : Code := cL HomflyOf_n25
noncomputable def HomflyOf_n28 : Code := cL HomflyOf_n27
noncomputable def HomflyOf_n29 : Code := cR HomflyOf_n27
noncomputable def HomflyOf_n30 : Code := cL HomflyOf_n29
noncomputable def HomflyOf_n31 : Code := cR HomflyOf_n29
noncomputable def HomflyOf_n32 : Code := cL HomflyOf_n30
noncomputable def HomflyOf_n33 : Code := cR HomflyOf_n30
noncomputable def HomflyOf_n34 : Code := cL HomflyOf_n33
noncomputable def HomflyOf_n35 : Code := cL HomflyOf_n34
noncomputable def HomflyOf_n36 : Code := cL HomflyOf_n35
noncomputable def HomflyOf_n37 : Code := cR HomflyOf_n35
noncomputable def HomflyOf_n38 : Code := cL HomflyOf_n36
noncomputable def HomflyOf_n39 : Code := cR HomflyOf_n36
noncomputable def HomflyOf_n40 : Code := cL HomflyOf_n39
noncomputable def HomflyOf_n41 : Code := cR HomflyOf_n39
noncomputable def HomflyOf_n42 : Code := cL HomflyOf_n37
noncomputable def HomflyOf_n43 : Code := cR HomflyOf_n37
noncomputable def HomflyOf_n44 : Code := cL HomflyOf_n42
noncomputable def HomflyOf_n45 : Code := cL HomflyOf_n44
noncomputable def HomflyOf_n46 : Code := cR HomflyOf_n44
noncomputable def HomflyOf_n47 : Code := cL HomflyOf_n14
noncomputable def HomflyOf_n48 : Code := cR HomflyOf_n14
noncomputable def HomflyOf_n49 : Code := cL HomflyOf_n6
noncomputable def HomflyOf_n50 : Code := cR HomflyOf_n6
noncomputable def HomflyOf_n51 : Code := cL HomflyOf_n50
noncomputable def HomflyOf_n52 : Code := cR HomflyOf_n50
noncomputable def HomflyOf_n53 : Code := cL HomflyOf_n52
noncomputable def HomflyOf_n54 : Code := cR HomflyOf_n52
noncomputable def HomflyOf_n55 : Code := cL HomflyOf_n53
noncomputable def HomflyOf_n56 : Code := cR HomflyOf_n53
noncomputable def HomflyOf_n57 : Code := cL HomflyOf_n56
noncomputable def HomflyOf_n58 : Code := cL HomflyOf_n57
noncomputable def HomflyOf_n59 : Code := cL HomflyOf_n58
noncomputable def HomflyOf_n60 : Code := cR HomflyOf_n58
noncomputable def HomflyOf_n61 : Code := cL HomflyOf_n59
noncomputable def HomflyOf_n62 : Code := cR HomflyOf_n59
noncomputable def HomflyOf_n63 : Code := cL HomflyOf_n62
noncomputable def HomflyOf_n64 : Code := cR HomflyOf_n62
noncomputable def HomflyOf_n65 : Code := cL HomflyOf_n60
noncomputable def HomflyOf_n66 : Code := cR HomflyOf_n60
noncomputable def HomflyOf_n67 : Code := cL HomflyOf_n65
noncomputable def HomflyOf_n68 : Code := cL HomflyOf_n67
noncomputable def HomflyOf_n69 : Code := cR HomflyOf_n67
noncomputable def HomflyOf_n70 : Code := cL HomflyOf_n69
noncomputable def HomflyOf_n71 : Code := cR HomflyOf_n69
noncomputable def HomflyOf_n72 : Code := cL HomflyOf_n54
noncomputable def HomflyOf_n73 : Code := cR HomflyOf_n54
noncomputable def HomflyOf_n74 : Code := cL HomflyOf_n72
noncomputable def HomflyOf_n75 : Code := cR HomflyOf_n72
noncomputable def HomflyOf_n76 : Code := cL HomflyOf_n75
noncomputable def HomflyOf_n77 : Code := cL HomflyOf_n76
noncomputable def HomflyOf_n78 : Code := cL HomflyOf_n77
noncomputable def HomflyOf_n79 : Code := cR HomflyOf_n77
noncomputable def HomflyOf_n80 : Code := cL HomflyOf_n78
noncomputable def HomflyOf_n81 : Code := cR HomflyOf_n78
noncomputable def HomflyOf_n82 : Code := cL HomflyOf_n81
noncomputable def HomflyOf_n83 : Code := cR HomflyOf_n81
noncomputable def HomflyOf_n84 : Code := cL HomflyOf_n79
noncomputable def HomflyOf_n85 : Code := cR HomflyOf_n79
noncomputable def HomflyOf_n86 : Code := cL HomflyOf_n84
noncomputable def HomflyOf_n87 : Code := cL HomflyOf_n86
noncomputable def HomflyOf_n88 : Code := cR HomflyOf_n86
noncomputable def HomflyOf_n89 : Code := cL HomflyOf_n88
noncomputable def HomflyOf_n90 : Code := cR HomflyOf_n88
noncomputable def HomflyOf_n91 : Code := cL HomflyOf_n73
noncomputable def HomflyOf_n92 : Code := cR HomflyOf_n73
set_option maxHeartbeats 4000000 in
set_option maxRecDepth 10000 in
theorem HomflyOf_t {w : World} {M : Hp} {X : Fr} (d : Dg) {dcrsA : Option Addr} {dcrsc : Nat} (hdcrs : RdA cdCr (M.un X.h) dcrsA dcrsc d.crs) {f : Nat} (J : Jd d) (hf : mu d < f + 1) (ih : ∀ {w : World} {M : Hp} {X : Fr} (d : Dg) {A : Option Addr} {c : Nat}, RdA cdCr (M.un X.h) A c d.crs → Jd d → mu d < f → SH w M X [] → Ct Tryz.prog 20 [.agg [.slice A d.crs.length c, .int .i64 d.loops].toArray] w M X (LsT (homL f d))) (S : SH w M X []) : Ct Tryz.prog 20 [.agg [.slice dcrsA d.crs.length dcrsc, .int .i64 d.loops].toArray] w M X (LsT (homL (f + 1) d)) := by
 unfold Ct
 have rmhdcrs : d.crs.length * 40 ≤ 140737488355328 := hdcrs.room
 have hab := J.ab
 have hn8 := J.n
 have hn : d.crs.length ≤ 16 := by omega
 have hlo := J.l0
 have hnl := J.nl
 have hlb := J.lb
 have hmu := mu_le J
 have hsl9 := (rgsN_le J).2
 refine calls_in (b := HomflyOf_n0) Tryz.func20 rfl Tryz.ntmps20 rfl (fun C hC => (ws_sub [(0, _)] ⟨rfl, trivial⟩ (ws_seqN HomflyOf_n1 HomflyOf_n2 rfl rfl rfl (ws_region rfl (wlo 0 1 rfl rfl rfl (wo_box (l := [_, _]) rfl rfl rfl rfl rfl S ?_))))))
 intro gb1 w1 S1; clear S
 refine wla 1 2 rfl rfl rfl rfl rfl rfl rfl (wl_end rfl (nmk [1] rfl (nm_thn (ws_seqN HomflyOf_n3 HomflyOf_n4 rfl rfl rfl (ws_region rfl (wlo 0 1 rfl rfl rfl (wo_run rfl rfl (run_loadN (us := [_, _]) rfl rfl Tryz.underlying24 rfl sz24 (S1.boxcs (i := 0) rfl ⟨rfl, rfl, trivial⟩)) (wlo 1 2 rfl rfl rfl (wo_ct rfl rfl rfl rfl rfl rfl rfl cf50 S1 (firstBelow_t d (hdcrs.mono S1.un_XH) (hn) (hab) S1.lend) ?_)))))))))
 intro vw2 w2 M1 hle1 S2 hRw2; clear S1
 replace hdcrs := hdcrs.mono (Hp.un_mono hle1 S2.mx)
 obtain rfl := hRw2
 refine wla 2 3 rfl rfl rfl rfl rfl rfl rfl (wl_end rfl (nmk [1, 3] rfl (nm_thn (ws_seqN HomflyOf_n5 HomflyOf_n6 rfl rfl rfl (ws_seqN HomflyOf_n7 HomflyOf_n8 rfl rfl rfl (ws_region rfl (wlm 0 1 rfl rfl rfl rfl rfl rfl rfl (wlo 1 2 rfl rfl rfl (wo_run rfl rfl (run_lss rfl rfl rfl) ?_)))))))))
 refine wl_end rfl (nmk [1, 3, 16] rfl (nm_thn ?_))
 refine ws_condN HomflyOf_n9 HomflyOf_n10 rfl rfl rfl rfl (fun hb16 => ?_) (fun hb16 => ?_)
 ·replace hb16 := of_decide_eq_true hb16
  refine ws_seqN HomflyOf_n11 HomflyOf_n12 rfl rfl rfl (ws_region rfl (wlo 0 1 rfl rfl rfl (wo_run rfl rfl (run_build (l := [_, _, _]) rfl rfl st97 rfl rfl) (wlo 1 2 rfl rfl rfl (wo_buildSlice1 (C := cdT2) (l := [_, _, _]) rfl rfl rfl rfl sl42 rfl rfl rfl rfl S2 ?_)))))
  intro gb2 w3 S3; clear S2
  refine wla 2 3 rfl rfl rfl rfl rfl rfl rfl (wl_end rfl (nmk [1, 4] rfl (nm_thn (ws_seqN HomflyOf_n13 HomflyOf_n14 rfl rfl rfl (ws_seqN HomflyOf_n15 HomflyOf_n16 rfl rfl rfl ?_)))))
  obtain ⟨M2, hle2, S4, hr1⟩ := S3.pubbox (C := cdT2) (z := (⟨0, 0, 1⟩ : T2)) (i := 0) (H' := [_, _]) rfl rfl rfl (by decide)
  clear S3
  replace hdcrs := hdcrs.mono (Hp.un_mono hle2 S4.mx)
  have hl9 : low d < 0 := hb16
  have hrn := rgsN_le J
  have hsp : 1 ≤ (strandsL d).length + d.loops.toNat := by (by_cases h9 : 1 ≤ d.crs.length; (have := strands_pos h9; omega); omega)
  have hrq : rgsN d = (strandsL d).length + d.loops.toNat - 1 := rfl
  refine ws_draw rfl (by kernel_rfl) S4 7 rfl ?_
  clear S4
  refine wat 0 6 rfl (by kernel_rfl) rfl rfl rfl (fun M3 N1 w4 hle3 S5 => .inl (run_loadN (us := [_, _]) rfl rfl Tryz.underlying24 rfl sz24 (S5.suf.boxcs (i := 1) rfl ⟨rfl, rfl, trivial⟩))) ?_
  refine wap 3 5 rfl (by kernel_rfl) rfl rfl rfl (fun w6 => run_fieldAddr rfl rfl Tryz.underlying24 rfl (ce3) (nf3)) ?_
  refine wat 4 4 rfl (by kernel_rfl) rfl rfl rfl (fun M7 N5 w8 hle7 S9 => .inl (run_load1 rfl rfl Tryz.underlying3 rfl (S9.suf.boxc (i := 1) rfl rfl))) ?_
  refine wa_only (i := 1) 3 rfl (by kernel_rfl) rfl rfl (fun w10 S11 => ?_)
  refine (wo_ct rfl rfl rfl rfl rfl rfl rfl cf51 S11 (StrandsOf_t d (hdcrs.mono S11.un_XH) (hn) (hab) S11.lend) ?_)
  intro vw11 w11 M9 hle9 S12 hRw11; clear S11
  replace hdcrs := hdcrs.mono (Hp.un_mono hle9 S12.mx)
  replace hr1 := hr1.mono hle9
  obtain ⟨A1, c1, vs1, rfl, hr2, hd1⟩ := hRw11
  have hlenstrandsL := hd1.1
  refine LeftW.grow [] (hle9) S12 ?_; clear S12
  change WA _ _ _ _ _ _ _ _ _ _ _ _ [_, _]
  refine wa_base (wat 2 2 rfl (by kernel_rfl) rfl rfl rfl (fun M10 N7 w12 hle10 S13 => .inl (run_len rfl rfl rfl rfl rfl rfl Tryz.underlying103)) ?_)
  refine wap 5 1 rfl (by kernel_rfl) rfl rfl rfl (fun w13 => run_add rfl rfl rfl (by first | omega | (simp only [lens]; omega))) ?_
  refine wap 6 0 rfl (by kernel_rfl) rfl rfl rfl (fun w14 => run_assign rfl rfl) ?_
  refine wa_end (by kernel_rfl) (fun w15 S16 => ?_)
  refine nmk [4, 5] rfl (nm_thn (ws_blockN HomflyOf_n17 0 rfl rfl rfl ?_))
  refine ws_loopE (fun mx_ ax_ wx_ => ∃ (j : Nat) (m : Int) (acc0 : List T2) (A09 : Option Addr) (c09 : Nat) (M13 : Hp), M9.le M13 ∧ mx_ = rgsN d - j ∧ Env 184 [(4, .slice A09 acc0.length c09), (5, .int .i64 m)] ax_ ∧ SH wx_ M13 X [] ∧ RdA cdT2 M13 A09 c09 acc0 ∧ j ≤ rgsN d ∧ m = ((strandsL d).length : Int) + d.loops - (j : Int) ∧ acc0 = ringL j) rfl ?_ ?_
  ·intro ax_ hax_
   refine ⟨_, ⟨0, (vs1.length : Int) + d.loops, [(⟨0, 0, 1⟩ : T2)], (some ⟨gb2, 0, none⟩), 1, _, Hp.le_refl _, rfl, hax_.sub ⟨rfl, rfl, trivial⟩, S16.pick [] [] (by decide) trivial, ?hq1f0, ?hq1f1, ?hq1f2, ?hq1f3⟩⟩
   case hq1f0 => exact hr1
   case hq1f1 => omega
   case hq1f2 => omega
   case hq1f3 => rfl
  ·rintro m1 a1 w16 ⟨j, m, acc0, A09, c09, M13, hle13, rfl, he1, S17, hacc0, hj, hm9, ha0⟩
   clear S16
   refine ws_in he1 (c := HomflyOf_n18) rfl ?_
   clear he1 a1
   replace hdcrs := hdcrs.mono (Hp.un_mono hle13 S17.mx)
   replace hr1 := hr1.mono hle13
   replace hr2 := hr2.mono hle13
   replace hd1 := hd1.mono hle13
   have hrs := ringL_spec j (by omega)
   rw [← ha0] at hrs
   have hal := can2_len (by omega) hrs.2.1 hrs.1
   refine ws_seqN HomflyOf_n19 HomflyOf_n20 rfl rfl rfl (ws_seqN HomflyOf_n21 HomflyOf_n22 rfl rfl rfl (ws_region rfl (wlm 0 1 rfl rfl rfl rfl rfl rfl rfl (wlo 1 2 rfl rfl rfl (wo_run rfl rfl (run_gtr rfl rfl rfl) (wl_end rfl (nmk [4, 5, 26] rfl (nm_thn ?_))))))))
   refine ws_condN HomflyOf_n23 HomflyOf_n24 rfl rfl rfl rfl (fun hb26 => ?_) (fun hb26 => ?_)
   ·replace hb26 := of_decide_eq_true hb26
    refine ws_skip rfl (nmk [4, 5] rfl (nm_thn (ws_seqN HomflyOf_n25 HomflyOf_n26 rfl rfl rfl (ws_blockN HomflyOf_n27 1 rfl rfl rfl (ws_seqN HomflyOf_n28 HomflyOf_n29 rfl rfl rfl (ws_region rfl (wla 0 1 rfl rfl rfl rfl rfl rfl rfl (wl_end rfl ?_))))))))
    refine nm_thn (ws_seqN HomflyOf_n30 HomflyOf_n31 rfl rfl rfl (ws_seqN HomflyOf_n32 HomflyOf_n33 rfl rfl rfl (ws_region rfl (wla 0 1 rfl rfl rfl rfl rfl rfl rfl (wl_end rfl (nm_thn (ws_blockN HomflyOf_n34 2 rfl rfl rfl ?_)))))))
    refine ws_loopE (fun mx_ ax_ wx_ => ∃ (i : Nat) (acc1 : List T2) (A19 : Option Addr) (c19 : Nat) (M14 : Hp), M13.le M14 ∧ mx_ = acc0.length - i ∧ Env 184 [(4, .slice A09 acc0.length c09), (5, .int .i64 m), (6, .slice A19 acc1.length c19), (7, .int .i64 (i : Int))] ax_ ∧ SH wx_ M14 X [] ∧ RdA cdT2 M14 A19 c19 acc1 ∧ i ≤ acc0.length ∧ acc1 = ringL.ringS [] (acc0.take i) ∧ acc1.length ≤ 2 * i) rfl ?_ ?_
    ·intro ax_ hax_
     refine ⟨_, ⟨0, [], none, 0, _, Hp.le_refl _, rfl, hax_.sub ⟨rfl, rfl, rfl, rfl, trivial⟩, S17.pick [] [] (by decide) trivial, ?hq2f0, ?hq2f1, ?hq2f2, ?hq2f3⟩⟩
     case hq2f0 => exact RdA.nil_
     case hq2f1 => omega
     case hq2f2 => rfl
     case hq2f3 => exact Nat.zero_le _
    ·rintro m2 a2 w17 ⟨i, acc1, A19, c19, M14, hle14, rfl, he2, S18, hacc1, hi, ha1, hl1⟩
     clear S17
     refine ws_in he2 (c := HomflyOf_n35) rfl ?_
     clear he2 a2
     replace hdcrs := hdcrs.mono (Hp.un_mono hle14 S18.mx)
     replace hr1 := hr1.mono hle14
     replace hr2 := hr2.mono hle14
     replace hd1 := hd1.mono hle14
     replace hacc0 := hacc0.mono hle14
     refine ws_seqN HomflyOf_n36 HomflyOf_n37 rfl rfl rfl (ws_seqN HomflyOf_n38 HomflyOf_n39 rfl rfl rfl (ws_region rfl (wlm 0 1 rfl rfl rfl rfl rfl rfl rfl (wlm 1 2 rfl rfl rfl rfl rfl rfl rfl (wlo 2 3 rfl rfl rfl (wo_run rfl rfl (run_len rfl rfl rfl rfl rfl rfl Tryz.underlying42) (wlo 3 4 rfl rfl rfl (wo_run rfl rfl (run_lss rfl rfl rfl) (wl_end rfl (nmk [4, 5, 6, 7, 32] rfl ?_))))))))))
     refine nm_thn ?_
     refine ws_condN HomflyOf_n40 HomflyOf_n41 rfl rfl rfl rfl (fun hb32 => ?_) (fun hb32 => ?_)
     ·replace hb32 := of_decide_eq_true hb32
      refine ws_skip rfl (nmk [4, 5, 6, 7] rfl (nm_thn (ws_seqN HomflyOf_n42 HomflyOf_n43 rfl rfl rfl (ws_blockN HomflyOf_n44 3 rfl rfl rfl (ws_seqN HomflyOf_n45 HomflyOf_n46 rfl rfl rfl ?_)))))
      have hbi := b2_at hrs.1 (i := i) (by omega)
      refine ws_draw rfl (by kernel_rfl) S18 20 rfl ?_
      clear S18
      refine wap 0 19 rfl (by kernel_rfl) rfl rfl rfl (fun w18 => run_move rfl rfl) ?_
      refine wap 1 18 rfl (by kernel_rfl) rfl rfl rfl (fun w19 => run_move rfl rfl) ?_
      refine wap 2 17 rfl (by kernel_rfl) rfl rfl rfl (fun w20 => run_move rfl rfl) ?_
      refine wat 3 16 rfl (by kernel_rfl) rfl rfl rfl (fun M18 N13 w21 hle18 S22 => .inl (run_indexM (C := cdT2) i rfl rfl rfl sl42 (by first | rfl | omega) (hacc0.mono hle18) (by first | omega | (simp only [lens]; omega)))) ?_
      refine wap 4 15 rfl (by kernel_rfl) rfl rfl rfl (fun w22 => run_fieldAddr rfl rfl Tryz.underlying97 rfl (ce3) (nf3)) ?_
      refine wat 5 14 rfl (by kernel_rfl) rfl rfl rfl (fun M20 N15 w23 hle20 S24 => .inl (run_load1 rfl rfl Tryz.underlying3 rfl ((hacc0.mono hle20).cell S24.m (i := i) (by first | omega | (simp only [lens]; omega)) 0 rfl rfl))) ?_
      refine wap 6 13 rfl (by kernel_rfl) rfl rfl rfl (fun w24 => run_add rfl rfl rfl (by first | omega | (simp only [lens]; omega))) ?_
      refine wap 7 12 rfl (by kernel_rfl) rfl rfl rfl (fun w25 => run_move rfl rfl) ?_
      refine wap 8 11 rfl (by kernel_rfl) rfl rfl rfl (fun w26 => run_move rfl rfl) ?_
      refine wat 9 10 rfl (by kernel_rfl) rfl rfl rfl (fun M24 N19 w27 hle24 S28 => .inl (run_indexM (C := cdT2) i rfl rfl rfl sl42 (by first | rfl | omega) (hacc0.mono hle24) (by first | omega | (simp only [lens]; omega)))) ?_
      refine wap 10 9 rfl (by kernel_rfl) rfl rfl rfl (fun w28 => run_fieldAddr rfl rfl Tryz.underlying97 rfl (ce3) (nf3)) ?_
      refine wat 11 8 rfl (by kernel_rfl) rfl rfl rfl (fun M26 N21 w29 hle26 S30 => .inl (run_load1 rfl rfl Tryz.underlying3 rfl ((hacc0.mono hle26).cell S30.m (i := i) (by first | omega | (simp only [lens]; omega)) 1 rfl rfl))) ?_
      refine wap 12 7 rfl (by kernel_rfl) rfl rfl rfl (fun w30 => run_sub rfl rfl rfl (by first | omega | (simp only [lens]; omega))) ?_
      refine wap 13 6 rfl (by kernel_rfl) rfl rfl rfl (fun w31 => run_move rfl rfl) ?_
      refine wap 14 5 rfl (by kernel_rfl) rfl rfl rfl (fun w32 => run_move rfl rfl) ?_
      refine wat 15 4 rfl (by kernel_rfl) rfl rfl rfl (fun M30 N25 w33 hle30 S34 => .inl (run_indexM (C := cdT2) i rfl rfl rfl sl42 (by first | rfl | omega) (hacc0.mono hle30) (by first | omega | (simp only [lens]; omega)))) ?_
      refine wap 16 3 rfl (by kernel_rfl) rfl rfl rfl (fun w34 => run_fieldAddr rfl rfl Tryz.underlying97 rfl (ce3) (nf3)) ?_
      refine wat 17 2 rfl (by kernel_rfl) rfl rfl rfl (fun M32 N27 w35 hle32 S36 => .inl (run_load1 rfl rfl Tryz.underlying3 rfl ((hacc0.mono hle32).cell S36.m (i := i) (by first | omega | (simp only [lens]; omega)) 2 rfl rfl))) ?_
      refine wa_only (i := 18) 1 rfl (by kernel_rfl) rfl rfl (fun w37 S38 => ?_)
      refine (wo_ct rfl rfl rfl rfl rfl rfl rfl cf52 S38 (Put2_t acc1 (((ga acc0 i).x) + 1) (((ga acc0 i).z) - 1) ((ga acc0 i).c) hacc1 ((by omega)) S38.lend) ?_)
      intro vw38 w38 M34 hle34 S39 hRw38; clear S38
      replace hdcrs := hdcrs.mono (Hp.un_mono hle34 S39.mx)
      replace hr1 := hr1.mono hle34
      replace hr2 := hr2.mono hle34
      replace hd1 := hd1.mono hle34
      replace hacc0 := hacc0.mono hle34
      replace hacc1 := hacc1.mono hle34
      obtain ⟨A2, c2, rfl, hr3⟩ := hRw38
      have hpl53 := put2_len acc1 (((ga acc0 i).x) + 1) (((ga acc0 i).z) - 1) ((ga acc0 i).c)
      refine LeftW.grow [] (hle34) S39 ?_; clear S39
      change WA _ _ _ _ _ _ _ _ _ _ _ _ []
      refine wa_base (wap 19 0 rfl (by kernel_rfl) rfl rfl rfl (fun w39 => run_assign rfl rfl) ?_)
      refine wa_end (by kernel_rfl) (fun w40 S41 => ?_)
      refine nmk [4, 5, 6, 7] rfl (nm_thn (ws_draw rfl (by kernel_rfl) S41 21 rfl ?_))
      clear S41
      refine wap 0 20 rfl (by kernel_rfl) rfl rfl rfl (fun w41 => run_move rfl rfl) ?_
      refine wap 1 19 rfl (by kernel_rfl) rfl rfl rfl (fun w42 => run_move rfl rfl) ?_
      refine wap 2 18 rfl (by kernel_rfl) rfl rfl rfl (fun w43 => run_move rfl rfl) ?_
      refine wat 3 17 rfl (by kernel_rfl) rfl rfl rfl (fun M39 N33 w44 hle39 S45 => .inl (run_indexM (C := cdT2) i rfl rfl rfl sl42 (by first | rfl | omega) (hacc0.mono hle39) (by first | omega | (simp only [lens]; omega)))) ?_
      refine wap 4 16 rfl (by kernel_rfl) rfl rfl rfl (fun w45 => run_fieldAddr rfl rfl Tryz.underlying97 rfl (ce3) (nf3)) ?_
      refine wat 5 15 rfl (by kernel_rfl) rfl rfl rfl (fun M41 N35 w46 hle41 S47 => .inl (run_load1 rfl rfl Tryz.underlying3 rfl ((hacc0.mono hle41).cell S47.m (i := i) (by first | omega | (simp only [lens]; omega)) 0 rfl rfl))) ?_
      refine wap 6 14 rfl (by kernel_rfl) rfl rfl rfl (fun w47 => run_sub rfl rfl rfl (by first | omega | (simp only [lens]; omega))) ?_
      refine wap 7 13 rfl (by kernel_rfl) rfl rfl rfl (fun w48 => run_move rfl rfl) ?_
      refine wap 8 12 rfl (by kernel_rfl) rfl rfl rfl (fun w49 => run_move rfl rfl) ?_
      refine wat 9 11 rfl (by kernel_rfl) rfl rfl rfl (fun M45 N39 w50 hle45 S51 => .inl (run_indexM (C := cdT2) i rfl rfl rfl sl42 (by first | rfl | omega) (hacc0.mono hle45) (by first | omega | (simp only [lens]; omega)))) ?_
      refine wap 10 10 rfl (by kernel_rfl) rfl rfl rfl (fun w51 => run_fieldAddr rfl rfl Tryz.underlying97 rfl (ce3) (nf3)) ?_
      refine wat 11 9 rfl (by kernel_rfl) rfl rfl rfl (fun M47 N41 w52 hle47 S53 => .inl (run_load1 rfl rfl Tryz.underlying3 rfl ((hacc0.mono hle47).cell S53.m (i := i) (by first | omega | (simp only [lens]; omega)) 1 rfl rfl))) ?_
      refine wap 12 8 rfl (by kernel_rfl) rfl rfl rfl (fun w53 => run_sub rfl rfl rfl (by first | omega | (simp only [lens]; omega))) ?_
      refine wap 13 7 rfl (by kernel_rfl) rfl rfl rfl (fun w54 => run_move rfl rfl) ?_
      refine wap 14 6 rfl (by kernel_rfl) rfl rfl rfl (fun w55 => run_move rfl rfl) ?_
      refine wat 15 5 rfl (by kernel_rfl) rfl rfl rfl (fun M51 N45 w56 hle51 S57 => .inl (run_indexM (C := cdT2) i rfl rfl rfl sl42 (by first | rfl | omega) (hacc0.mono hle51) (by first | omega | (simp only [lens]; omega)))) ?_
      refine wap 16 4 rfl (by kernel_rfl) rfl rfl rfl (fun w57 => run_fieldAddr rfl rfl Tryz.underlying97 rfl (ce3) (nf3)) ?_
      refine wat 17 3 rfl (by kernel_rfl) rfl rfl rfl (fun M53 N47 w58 hle53 S59 => .inl (run_load1 rfl rfl Tryz.underlying3 rfl ((hacc0.mono hle53).cell S59.m (i := i) (by first | omega | (simp only [lens]; omega)) 2 rfl rfl))) ?_
      refine wap 18 2 rfl (by kernel_rfl) rfl rfl rfl (fun w59 => run_negW rfl rfl) ?_
      refine wa_only (i := 19) 1 rfl (by kernel_rfl) rfl rfl (fun w61 S62 => ?_)
      refine (wo_ct rfl rfl rfl rfl rfl rfl rfl cf52 S62 (Put2_t (put2 acc1 (((ga acc0 i).x) + 1) (((ga acc0 i).z) - 1) ((ga acc0 i).c)) (((ga acc0 i).x) - 1) (((ga acc0 i).z) - 1) (wr (-((ga acc0 i).c))) hr3 ((by omega)) S62.lend) ?_)
      intro vw62 w62 M56 hle56 S63 hRw62; clear S62
      replace hdcrs := hdcrs.mono (Hp.un_mono hle56 S63.mx)
      replace hr1 := hr1.mono hle56
      replace hr2 := hr2.mono hle56
      replace hd1 := hd1.mono hle56
      replace hacc0 := hacc0.mono hle56
      replace hacc1 := hacc1.mono hle56
      replace hr3 := hr3.mono hle56
      obtain ⟨A3, c3, rfl, hr4⟩ := hRw62
      have hpl73 := put2_len (put2 acc1 (((ga acc0 i).x) + 1) (((ga acc0 i).z) - 1) ((ga acc0 i).c)) (((ga acc0 i).x) - 1) (((ga acc0 i).z) - 1) (wr (-((ga acc0 i).c)))
      refine LeftW.grow [] (hle56) S63 ?_; clear S63
      change WA _ _ _ _ _ _ _ _ _ _ _ _ []
      refine wa_base (wap 20 0 rfl (by kernel_rfl) rfl rfl rfl (fun w63 => run_assign rfl rfl) ?_)
      refine wa_end (by kernel_rfl) (fun w64 S65 => ?_)
      refine nm_blk (nmk [4, 5, 6, 7] rfl (nm_thn (ws_region rfl (wlm 0 1 rfl rfl rfl rfl rfl rfl rfl (wlo 1 2 rfl rfl rfl (wo_run rfl rfl (run_add rfl rfl rfl (by first | omega | (simp only [lens]; omega))) ?_))))))
      refine wla 2 3 rfl rfl rfl rfl rfl rfl rfl (wl_end rfl (nm_lp ?_))
      intro ax_ hax_
      refine ⟨_, ?hq3m, ⟨i + 1, (put2 (put2 acc1 (((ga acc0 i).x) + 1) (((ga acc0 i).z) - 1) ((ga acc0 i).c)) (((ga acc0 i).x) - 1) (((ga acc0 i).z) - 1) (wr (-((ga acc0 i).c)))), A3, c3, _, ((hle14.trans hle34).trans hle56), rfl, hax_.sub ⟨rfl, rfl, rfl, rfl, trivial⟩, S65.pick [] [] (by decide) trivial, ?hq3f0, ?hq3f1, ?hq3f2, ?hq3f3⟩⟩
      case hq3f0 => exact hr4
      case hq3f1 => omega
      case hq3f2 => exact ringS_step ha1 (by omega)
      case hq3f3 => omega
      case hq3m => omega
     ·replace hb32 := of_decide_eq_false hb32
      refine ws_exit rfl rfl (nmk [5, 6] rfl (nm_thn (ws_region rfl (wlm 0 1 rfl rfl rfl rfl rfl rfl rfl (wla 1 2 rfl rfl rfl rfl rfl rfl rfl (wl_end rfl (nm_blk (nmk [5, 4] rfl ?_))))))))
      refine nm_thn (ws_region rfl (wlm 0 1 rfl rfl rfl rfl rfl rfl rfl (wlo 1 2 rfl rfl rfl (wo_run rfl rfl (run_sub rfl rfl rfl (by first | omega | (simp only [lens]; omega))) ?_))))
      refine wla 2 3 rfl rfl rfl rfl rfl rfl rfl (wl_end rfl (nm_lp ?_))
      intro ax_ hax_
      refine ⟨_, ?hq4m, ⟨j + 1, m - 1, acc1, A19, c19, _, (hle13.trans hle14), rfl, hax_.sub ⟨rfl, rfl, trivial⟩, S18.pick [] [] (by decide) trivial, ?hq4f0, ?hq4f1, ?hq4f2, ?hq4f3⟩⟩
      case hq4f0 => exact hacc1
      case hq4f1 => omega
      case hq4f2 => omega
      case hq4f3 => (rw [ha1, show i = acc0.length by omega, List.take_length, ha0]; rfl)
      case hq4m => omega
   ·replace hb26 := of_decide_eq_false hb26
    refine ws_exit rfl rfl (nmk [4] rfl (nm_thn (ws_seqN HomflyOf_n47 HomflyOf_n48 rfl rfl rfl (ws_region rfl (wlm 0 1 rfl rfl rfl rfl rfl rfl rfl (wla 1 2 rfl rfl rfl rfl rfl rfl rfl (wl_end rfl (nmk [2] rfl ?_))))))))
    refine nm_thn (ws_ret hC [_] rfl rfl ⟨rfl, trivial⟩ ?_)
    refine ⟨_, rfl, _, ((hle1.trans hle2).trans hle9).trans hle13, (S17.pick [] [] (by decide) trivial), ?_⟩
    have e9 : homL (f + 1) d = acc0 := by rw [homL_ring hl9, ha0, show j = rgsN d by omega]
    rw [e9]
    exact ⟨_, _, rfl, hacc0⟩
 ·replace hb16 := of_decide_eq_false hb16
  refine ws_skip rfl (nmk [1, 3] rfl (nm_thn (ws_seqN HomflyOf_n49 HomflyOf_n50 rfl rfl rfl ?_)))
  obtain ⟨kk, hkk⟩ : ∃ kk : Nat, low d = (kk : Int) := ⟨(low d).toNat, by omega⟩
  obtain ⟨hm1, hk⟩ := mu_ch hab hkk
  have hm2 := mu_sm hab hkk
  have hkt : (low d).toNat = kk := by omega
  have hl9 : ¬ low d < 0 := hb16
  have hA := homL_spec f _ (J.ch hk) (by omega)
  have hB := homL_spec f _ (J.sm hk) (by omega)
  have hbE : bE (chD d kk) ≤ 254 ∧ bE (smD d kk) ≤ 254 := by unfold bE; omega
  have hAl := can2_len (by omega) hA.2 hA.1
  have hBl := can2_len (by omega) hB.2 hB.1
  refine ws_eq 3 (.int .i64 (kk : Int)) rfl (int_eq hkk) (ws_draw rfl (by kernel_rfl) S2 10 rfl ?_)
  clear S2
  refine wat 0 9 rfl (by kernel_rfl) rfl rfl rfl (fun M58 N51 w65 hle58 S66 => .inl (run_loadN (us := [_, _]) rfl rfl Tryz.underlying24 rfl sz24 (S66.suf.boxcs (i := 0) rfl ⟨rfl, rfl, trivial⟩))) ?_
  refine wap 1 8 rfl (by kernel_rfl) rfl rfl rfl (fun w66 => run_move rfl rfl) ?_
  refine wat 4 7 rfl (by kernel_rfl) rfl rfl rfl (fun M61 N54 w68 hle61 S69 => .inl (run_loadN (us := [_, _]) rfl rfl Tryz.underlying24 rfl sz24 (S69.suf.boxcs (i := 0) rfl ⟨rfl, rfl, trivial⟩))) ?_
  refine wap 5 6 rfl (by kernel_rfl) rfl rfl rfl (fun w70 => run_move rfl rfl) ?_
  refine wa_only (i := 2) 5 rfl (by kernel_rfl) rfl rfl (fun w72 S73 => ?_)
  refine (wo_ct rfl rfl rfl rfl rfl rfl rfl cf53 S73 (ChangeOf_t d kk (hdcrs.mono S73.un_XH) (hk) S73.lend) ?_)
  intro vw73 w73 M65 hle65 S74 hRw73; clear S73
  replace hdcrs := hdcrs.mono (Hp.un_mono hle65 S74.mx)
  obtain ⟨A4, c4, rfl, hr5⟩ := hRw73
  refine LeftW.grow [] (hle65) S74 ?_; clear S74
  change WA _ _ _ _ _ _ _ _ _ _ _ _ [_]
  refine wa_base (wa_only (i := 3) 4 rfl (by kernel_rfl) rfl rfl (fun w75 S76 => ?_))
  refine (wo_ct rfl rfl rfl rfl rfl rfl rfl cf20 S76 (ih (chD d kk) (hr5.mono (Hp.le_un _ _)) ((J.ch hk)) ((by omega)) S76.lend) ?_)
  intro vw76 w76 M67 hle67 S77 hRw76; clear S76
  replace hdcrs := hdcrs.mono (Hp.un_mono hle67 S77.mx)
  replace hr5 := hr5.mono hle67
  obtain ⟨A5, c5, rfl, hr6⟩ := hRw76
  refine LeftW.grow [] (hle67) S77 ?_; clear S77
  change WA _ _ _ _ _ _ _ _ _ _ _ _ [_]
  refine wa_base (wa_only (i := 6) 3 rfl (by kernel_rfl) rfl rfl (fun w78 S79 => ?_))
  refine (wo_ct rfl rfl rfl rfl rfl rfl rfl cf54 S79 (SmoothOf_t d kk (hdcrs.mono S79.un_XH) (hk) (hn) (hab) (⟨hlo, by omega⟩) S79.lend) ?_)
  intro vw79 w79 M69 hle69 S80 hRw79; clear S79
  replace hdcrs := hdcrs.mono (Hp.un_mono hle69 S80.mx)
  replace hr5 := hr5.mono hle69
  replace hr6 := hr6.mono hle69
  obtain ⟨A6, c6, rfl, hr7⟩ := hRw79
  refine LeftW.grow [] (hle69) S80 ?_; clear S80
  change WA _ _ _ _ _ _ _ _ _ _ _ _ [_]
  refine wa_base (wa_only (i := 7) 2 rfl (by kernel_rfl) rfl rfl (fun w81 S82 => ?_))
  refine (wo_ct rfl rfl rfl rfl rfl rfl rfl cf20 S82 (ih (smD d kk) (hr7.mono (Hp.le_un _ _)) ((J.sm hk)) ((by omega)) S82.lend) ?_)
  intro vw82 w82 M71 hle71 S83 hRw82; clear S82
  replace hdcrs := hdcrs.mono (Hp.un_mono hle71 S83.mx)
  replace hr5 := hr5.mono hle71
  replace hr6 := hr6.mono hle71
  replace hr7 := hr7.mono hle71
  obtain ⟨A7, c7, rfl, hr8⟩ := hRw82
  refine LeftW.grow [] (hle71) S83 ?_; clear S83
  change WA _ _ _ _ _ _ _ _ _ _ _ _ [_]
  refine wa_base (wap 8 1 rfl (by kernel_rfl) rfl rfl rfl (fun w83 => run_assign rfl rfl) ?_)
  refine wap 9 0 rfl (by kernel_rfl) rfl rfl rfl (fun w84 => run_assign rfl rfl) ?_
  refine wa_end (by kernel_rfl) (fun w85 S86 => ?_)
  refine nmk [1, 3, 8, 9] rfl (nm_thn (ws_seqN HomflyOf_n51 HomflyOf_n52 rfl rfl rfl (ws_region rfl (wla 0 1 rfl rfl rfl rfl rfl rfl rfl (wl_end rfl (nm_thn (ws_seqN HomflyOf_n53 HomflyOf_n54 rfl rfl rfl (ws_seqN HomflyOf_n55 HomflyOf_n56 rfl rfl rfl ?_))))))))
  refine ws_region rfl (wla 0 1 rfl rfl rfl rfl rfl rfl rfl (wl_end rfl (nm_thn (ws_blockN HomflyOf_n57 4 rfl rfl rfl ?_))))
  refine ws_loopE (fun mx_ ax_ wx_ => ∃ (i2 : Nat) (acc2 : List T2) (A29 : Option Addr) (c29 : Nat) (M74 : Hp), M71.le M74 ∧ mx_ = (homL f (chD d kk)).length - i2 ∧ Env 184 [(1, .pointer (some ⟨gb1, 0, none⟩)), (3, .int .i64 (kk : Int)), (8, .slice A5 (homL f (chD d kk)).length c5), (9, .slice A7 (homL f (smD d kk)).length c7), (10, .slice A29 acc2.length c29), (11, .int .i64 (i2 : Int))] ax_ ∧ SH wx_ M74 X [Rs.box gb1 24 [.slice dcrsA d.crs.length dcrsc, .int .i64 d.loops]] ∧ RdA cdT2 M74 A29 c29 acc2 ∧ i2 ≤ (homL f (chD d kk)).length ∧ acc2 = addL [] (dxP (ga d.crs kk).plus) 0 1 ((homL f (chD d kk)).take i2) ∧ acc2.length ≤ i2) rfl ?_ ?_
  ·intro ax_ hax_
   refine ⟨_, ⟨0, [], none, 0, _, Hp.le_refl _, rfl, hax_.sub ⟨rfl, rfl, rfl, rfl, rfl, rfl, trivial⟩, S86.pick [0] [_] (by decide) ⟨rfl, trivial⟩, ?hq5f0, ?hq5f1, ?hq5f2, ?hq5f3⟩⟩
   case hq5f0 => exact RdA.nil_
   case hq5f1 => omega
   case hq5f2 => rfl
   case hq5f3 => exact Nat.zero_le _
  ·rintro m3 a3 w86 ⟨i2, acc2, A29, c29, M74, hle74, rfl, he3, S87, hacc2, hi2, ha2, hl2⟩
   clear S86
   refine ws_in he3 (c := HomflyOf_n58) rfl ?_
   clear he3 a3
   replace hdcrs := hdcrs.mono (Hp.un_mono hle74 S87.mx)
   replace hr5 := hr5.mono hle74
   replace hr6 := hr6.mono hle74
   replace hr7 := hr7.mono hle74
   replace hr8 := hr8.mono hle74
   refine ws_seqN HomflyOf_n59 HomflyOf_n60 rfl rfl rfl (ws_seqN HomflyOf_n61 HomflyOf_n62 rfl rfl rfl (ws_region rfl (wlm 0 1 rfl rfl rfl rfl rfl rfl rfl (wlm 1 2 rfl rfl rfl rfl rfl rfl rfl (wlo 2 3 rfl rfl rfl (wo_run rfl rfl (run_len rfl rfl rfl rfl rfl rfl Tryz.underlying42) (wlo 3 4 rfl rfl rfl (wo_run rfl rfl (run_lss rfl rfl rfl) (wl_end rfl (nmk [1, 3, 8, 9, 10, 11, 87] rfl ?_))))))))))
   refine nm_thn ?_
   refine ws_condN HomflyOf_n63 HomflyOf_n64 rfl rfl rfl rfl (fun hb87 => ?_) (fun hb87 => ?_)
   ·replace hb87 := of_decide_eq_true hb87
    refine ws_skip rfl (nmk [1, 3, 8, 9, 10, 11] rfl (nm_thn (ws_seqN HomflyOf_n65 HomflyOf_n66 rfl rfl rfl (ws_blockN HomflyOf_n67 5 rfl rfl rfl (ws_seqN HomflyOf_n68 HomflyOf_n69 rfl rfl rfl ?_)))))
    have hbi := b2_at hA.1 (i := i2) (by omega)
    refine ws_region rfl (wlo 0 1 rfl rfl rfl (wo_run rfl rfl (run_fieldAddr rfl rfl Tryz.underlying24 rfl (ce22) (nf22)) (wlo 1 2 rfl rfl rfl (wo_run rfl rfl (run_load1 rfl rfl Tryz.underlying22 rfl (S87.boxc (i := 0) rfl rfl)) (wlm 2 3 rfl rfl rfl rfl rfl rfl rfl (wlo 3 4 rfl rfl rfl (wo_run rfl rfl (run_indexM (C := cdCr) kk rfl rfl rfl sl22 (by first | rfl | omega) hdcrs (by first | omega | (simp only [lens]; omega))) ?_)))))))
    refine wlo 4 5 rfl rfl rfl (wo_run rfl rfl (run_fieldAddr rfl rfl Tryz.underlying77 rfl (ce4) (nf4)) (wlo 5 6 rfl rfl rfl (wo_run rfl rfl (run_load1 rfl rfl Tryz.underlying4 rfl (hdcrs.cell S87.um (i := kk) (by first | omega | (simp only [lens]; omega)) 4 rfl rfl)) ?_)))
    refine wl_end rfl (nmk [1, 3, 8, 9, 10, 11, 95] rfl (nm_thn ?_))
    refine ws_condN HomflyOf_n70 HomflyOf_n71 rfl rfl rfl rfl (fun hb95 => ?_) (fun hb95 => ?_)
    ·refine ws_draw rfl (by kernel_rfl) S87 19 rfl ?_
     clear S87
     refine wap 0 18 rfl (by kernel_rfl) rfl rfl rfl (fun w87 => run_move rfl rfl) ?_
     refine wap 1 17 rfl (by kernel_rfl) rfl rfl rfl (fun w88 => run_move rfl rfl) ?_
     refine wap 2 16 rfl (by kernel_rfl) rfl rfl rfl (fun w89 => run_move rfl rfl) ?_
     refine wat 3 15 rfl (by kernel_rfl) rfl rfl rfl (fun M78 N66 w90 hle78 S91 => .inl (run_indexM (C := cdT2) i2 rfl rfl rfl sl42 (by first | rfl | omega) (hr6.mono hle78) (by first | omega | (simp only [lens]; omega)))) ?_
     refine wap 4 14 rfl (by kernel_rfl) rfl rfl rfl (fun w91 => run_fieldAddr rfl rfl Tryz.underlying97 rfl (ce3) (nf3)) ?_
     refine wat 5 13 rfl (by kernel_rfl) rfl rfl rfl (fun M80 N68 w92 hle80 S93 => .inl (run_load1 rfl rfl Tryz.underlying3 rfl ((hr6.mono hle80).cell S93.m (i := i2) (by first | omega | (simp only [lens]; omega)) 0 rfl rfl))) ?_
     refine wap 6 12 rfl (by kernel_rfl) rfl rfl rfl (fun w93 => run_sub rfl rfl rfl (by first | omega | (simp only [lens]; omega))) ?_
     refine wap 7 11 rfl (by kernel_rfl) rfl rfl rfl (fun w94 => run_move rfl rfl) ?_
     refine wap 8 10 rfl (by kernel_rfl) rfl rfl rfl (fun w95 => run_move rfl rfl) ?_
     refine wat 9 9 rfl (by kernel_rfl) rfl rfl rfl (fun M84 N72 w96 hle84 S97 => .inl (run_indexM (C := cdT2) i2 rfl rfl rfl sl42 (by first | rfl | omega) (hr6.mono hle84) (by first | omega | (simp only [lens]; omega)))) ?_
     refine wap 10 8 rfl (by kernel_rfl) rfl rfl rfl (fun w97 => run_fieldAddr rfl rfl Tryz.underlying97 rfl (ce3) (nf3)) ?_
     refine wat 11 7 rfl (by kernel_rfl) rfl rfl rfl (fun M86 N74 w98 hle86 S99 => .inl (run_load1 rfl rfl Tryz.underlying3 rfl ((hr6.mono hle86).cell S99.m (i := i2) (by first | omega | (simp only [lens]; omega)) 1 rfl rfl))) ?_
     refine wap 12 6 rfl (by kernel_rfl) rfl rfl rfl (fun w99 => run_move rfl rfl) ?_
     refine wap 13 5 rfl (by kernel_rfl) rfl rfl rfl (fun w100 => run_move rfl rfl) ?_
     refine wat 14 4 rfl (by kernel_rfl) rfl rfl rfl (fun M89 N77 w101 hle89 S102 => .inl (run_indexM (C := cdT2) i2 rfl rfl rfl sl42 (by first | rfl | omega) (hr6.mono hle89) (by first | omega | (simp only [lens]; omega)))) ?_
     refine wap 15 3 rfl (by kernel_rfl) rfl rfl rfl (fun w102 => run_fieldAddr rfl rfl Tryz.underlying97 rfl (ce3) (nf3)) ?_
     refine wat 16 2 rfl (by kernel_rfl) rfl rfl rfl (fun M91 N79 w103 hle91 S104 => .inl (run_load1 rfl rfl Tryz.underlying3 rfl ((hr6.mono hle91).cell S104.m (i := i2) (by first | omega | (simp only [lens]; omega)) 2 rfl rfl))) ?_
     refine wa_only (i := 17) 1 rfl (by kernel_rfl) rfl rfl (fun w105 S106 => ?_)
     refine (wo_ct rfl rfl rfl rfl rfl rfl rfl cf52 S106 (Put2_t acc2 (((ga (homL f (chD d kk)) i2).x) - 2) ((ga (homL f (chD d kk)) i2).z) ((ga (homL f (chD d kk)) i2).c) hacc2 ((by omega)) S106.lend) ?_)
     intro vw106 w106 M93 hle93 S107 hRw106; clear S106
     replace hdcrs := hdcrs.mono (Hp.un_mono hle93 S107.mx)
     replace hr5 := hr5.mono hle93
     replace hr6 := hr6.mono hle93
     replace hr7 := hr7.mono hle93
     replace hr8 := hr8.mono hle93
     replace hacc2 := hacc2.mono hle93
     obtain ⟨A8, c8, rfl, hr9⟩ := hRw106
     have hpl113 := put2_len acc2 (((ga (homL f (chD d kk)) i2).x) - 2) ((ga (homL f (chD d kk)) i2).z) ((ga (homL f (chD d kk)) i2).c)
     refine LeftW.grow [] (hle93) S107 ?_; clear S107
     change WA _ _ _ _ _ _ _ _ _ _ _ _ [_]
     refine wa_base (wap 18 0 rfl (by kernel_rfl) rfl rfl rfl (fun w107 => run_assign rfl rfl) ?_)
     refine wa_end (by kernel_rfl) (fun w108 S109 => ?_)
     refine nm_blk (nmk [1, 3, 8, 9, 10, 11] rfl (nm_thn (ws_region rfl (wlm 0 1 rfl rfl rfl rfl rfl rfl rfl (wlo 1 2 rfl rfl rfl (wo_run rfl rfl (run_add rfl rfl rfl (by first | omega | (simp only [lens]; omega))) ?_))))))
     refine wla 2 3 rfl rfl rfl rfl rfl rfl rfl (wl_end rfl (nm_lp ?_))
     intro ax_ hax_
     refine ⟨_, ?hq6m, ⟨i2 + 1, (put2 acc2 (((ga (homL f (chD d kk)) i2).x) - 2) ((ga (homL f (chD d kk)) i2).z) ((ga (homL f (chD d kk)) i2).c)), A8, c8, _, (hle74.trans hle93), rfl, hax_.sub ⟨rfl, rfl, rfl, rfl, rfl, rfl, trivial⟩, S109.pick [0] [_] (by decide) ⟨rfl, trivial⟩, ?hq6f0, ?hq6f1, ?hq6f2, ?hq6f3⟩⟩
     case hq6f0 => exact hr9
     case hq6f1 => omega
     case hq6f2 => exact addL_step ha2 (by omega) (by unfold dxP; first | (rw [if_pos hb95]; omega) | (rw [if_neg (by rw [hb95]; decide)])) (by omega) (by rw [Int.one_mul]; exact (can2_wr hA.2 (by omega)).symm)
     case hq6f3 => omega
     case hq6m => omega
    ·refine ws_draw rfl (by kernel_rfl) S87 19 rfl ?_
     clear S87
     refine wap 0 18 rfl (by kernel_rfl) rfl rfl rfl (fun w109 => run_move rfl rfl) ?_
     refine wap 1 17 rfl (by kernel_rfl) rfl rfl rfl (fun w110 => run_move rfl rfl) ?_
     refine wap 2 16 rfl (by kernel_rfl) rfl rfl rfl (fun w111 => run_move rfl rfl) ?_
     refine wat 3 15 rfl (by kernel_rfl) rfl rfl rfl (fun M98 N85 w112 hle98 S113 => .inl (run_indexM (C := cdT2) i2 rfl rfl rfl sl42 (by first | rfl | omega) (hr6.mono hle98) (by first | omega | (simp only [lens]; omega)))) ?_
     refine wap 4 14 rfl (by kernel_rfl) rfl rfl rfl (fun w113 => run_fieldAddr rfl rfl Tryz.underlying97 rfl (ce3) (nf3)) ?_
     refine wat 5 13 rfl (by kernel_rfl) rfl rfl rfl (fun M100 N87 w114 hle100 S115 => .inl (run_load1 rfl rfl Tryz.underlying3 rfl ((hr6.mono hle100).cell S115.m (i := i2) (by first | omega | (simp only [lens]; omega)) 0 rfl rfl))) ?_
     refine wap 6 12 rfl (by kernel_rfl) rfl rfl rfl (fun w115 => run_add rfl rfl rfl (by first | omega | (simp only [lens]; omega))) ?_
     refine wap 7 11 rfl (by kernel_rfl) rfl rfl rfl (fun w116 => run_move rfl rfl) ?_
     refine wap 8 10 rfl (by kernel_rfl) rfl rfl rfl (fun w117 => run_move rfl rfl) ?_
     refine wat 9 9 rfl (by kernel_rfl) rfl rfl rfl (fun M104 N91 w118 hle104 S119 => .inl (run_indexM (C := cdT2) i2 rfl rfl rfl sl42 (by first | rfl | omega) (hr6.mono hle104) (by first | omega | (simp only [lens]; omega)))) ?_
     refine wap 10 8 rfl (by kernel_rfl) rfl rfl rfl (fun w119 => run_fieldAddr rfl rfl Tryz.underlying97 rfl (ce3) (nf3)) ?_
     refine wat 11 7 rfl (by kernel_rfl) rfl rfl rfl (fun M106 N93 w120 hle106 S121 => .inl (run_load1 rfl rfl Tryz.underlying3 rfl ((hr6.mono hle106).cell S121.m (i := i2) (by first | omega | (simp only [lens]; omega)) 1 rfl rfl))) ?_
     refine wap 12 6 rfl (by kernel_rfl) rfl rfl rfl (fun w121 => run_move rfl rfl) ?_
     refine wap 13 5 rfl (by kernel_rfl) rfl rfl rfl (fun w122 => run_move rfl rfl) ?_
     refine wat 14 4 rfl (by kernel_rfl) rfl rfl rfl (fun M109 N96 w123 hle109 S124 => .inl (run_indexM (C := cdT2) i2 rfl rfl rfl sl42 (by first | rfl | omega) (hr6.mono hle109) (by first | omega | (simp only [lens]; omega)))) ?_
     refine wap 15 3 rfl (by kernel_rfl) rfl rfl rfl (fun w124 => run_fieldAddr rfl rfl Tryz.underlying97 rfl (ce3) (nf3)) ?_
     refine wat 16 2 rfl (by kernel_rfl) rfl rfl rfl (fun M111 N98 w125 hle111 S126 => .inl (run_load1 rfl rfl Tryz.underlying3 rfl ((hr6.mono hle111).cell S126.m (i := i2) (by first | omega | (simp only [lens]; omega)) 2 rfl rfl))) ?_
     refine wa_only (i := 17) 1 rfl (by kernel_rfl) rfl rfl (fun w127 S128 => ?_)
     refine (wo_ct rfl rfl rfl rfl rfl rfl rfl cf52 S128 (Put2_t acc2 (((ga (homL f (chD d kk)) i2).x) + 2) ((ga (homL f (chD d kk)) i2).z) ((ga (homL f (chD d kk)) i2).c) hacc2 ((by omega)) S128.lend) ?_)
     intro vw128 w128 M113 hle113 S129 hRw128; clear S128
     replace hdcrs := hdcrs.mono (Hp.un_mono hle113 S129.mx)
     replace hr5 := hr5.mono hle113
     replace hr6 := hr6.mono hle113
     replace hr7 := hr7.mono hle113
     replace hr8 := hr8.mono hle113
     replace hacc2 := hacc2.mono hle113
     obtain ⟨A9, c9, rfl, hr10⟩ := hRw128
     have hpl131 := put2_len acc2 (((ga (homL f (chD d kk)) i2).x) + 2) ((ga (homL f (chD d kk)) i2).z) ((ga (homL f (chD d kk)) i2).c)
     refine LeftW.grow [] (hle113) S129 ?_; clear S129
     change WA _ _ _ _ _ _ _ _ _ _ _ _ [_]
     refine wa_base (wap 18 0 rfl (by kernel_rfl) rfl rfl rfl (fun w129 => run_assign rfl rfl) ?_)
     refine wa_end (by kernel_rfl) (fun w130 S131 => ?_)
     refine nm_blk (nmk [1, 3, 8, 9, 10, 11] rfl (nm_thn (ws_region rfl (wlm 0 1 rfl rfl rfl rfl rfl rfl rfl (wlo 1 2 rfl rfl rfl (wo_run rfl rfl (run_add rfl rfl rfl (by first | omega | (simp only [lens]; omega))) ?_))))))
     refine wla 2 3 rfl rfl rfl rfl rfl rfl rfl (wl_end rfl (nm_lp ?_))
     intro ax_ hax_
     refine ⟨_, ?hq7m, ⟨i2 + 1, (put2 acc2 (((ga (homL f (chD d kk)) i2).x) + 2) ((ga (homL f (chD d kk)) i2).z) ((ga (homL f (chD d kk)) i2).c)), A9, c9, _, (hle74.trans hle113), rfl, hax_.sub ⟨rfl, rfl, rfl, rfl, rfl, rfl, trivial⟩, S131.pick [0] [_] (by decide) ⟨rfl, trivial⟩, ?hq7f0, ?hq7f1, ?hq7f2, ?hq7f3⟩⟩
     case hq7f0 => exact hr10
     case hq7f1 => omega
     case hq7f2 => exact addL_step ha2 (by omega) (by unfold dxP; first | (rw [if_pos hb95]; omega) | (rw [if_neg (by rw [hb95]; decide)])) (by omega) (by rw [Int.one_mul]; exact (can2_wr hA.2 (by omega)).symm)
     case hq7f3 => omega
     case hq7m => omega
   ·replace hb87 := of_decide_eq_false hb87
    refine ws_exit rfl rfl (nmk [1, 3, 9, 10] rfl (nm_thn (ws_seqN HomflyOf_n72 HomflyOf_n73 rfl rfl rfl (ws_seqN HomflyOf_n74 HomflyOf_n75 rfl rfl rfl (ws_region rfl (wla 0 1 rfl rfl rfl rfl rfl rfl rfl (wl_end rfl (nm_thn ?_))))))))
    refine ws_blockN HomflyOf_n76 6 rfl rfl rfl ?_
    refine ws_loopE (fun mx_ ax_ wx_ => ∃ (i3 : Nat) (acc3 : List T2) (A39 : Option Addr) (c39 : Nat) (M115 : Hp), M74.le M115 ∧ mx_ = (homL f (smD d kk)).length - i3 ∧ Env 184 [(1, .pointer (some ⟨gb1, 0, none⟩)), (3, .int .i64 (kk : Int)), (9, .slice A7 (homL f (smD d kk)).length c7), (10, .slice A39 acc3.length c39), (12, .int .i64 (i3 : Int))] ax_ ∧ SH wx_ M115 X [Rs.box gb1 24 [.slice dcrsA d.crs.length dcrsc, .int .i64 d.loops]] ∧ RdA cdT2 M115 A39 c39 acc3 ∧ i3 ≤ (homL f (smD d kk)).length ∧ acc3 = addL (addL [] (dxP (ga d.crs kk).plus) 0 1 (homL f (chD d kk))) (exP (ga d.crs kk).plus) 1 (sP (ga d.crs kk).plus) ((homL f (smD d kk)).take i3) ∧ acc3.length ≤ 801201 + i3) rfl ?_ ?_
    ·intro ax_ hax_
     refine ⟨_, ⟨0, acc2, A29, c29, _, Hp.le_refl _, rfl, hax_.sub ⟨rfl, rfl, rfl, rfl, rfl, trivial⟩, S87.pick [0] [_] (by decide) ⟨rfl, trivial⟩, ?hq8f0, ?hq8f1, ?hq8f2, ?hq8f3⟩⟩
     case hq8f0 => exact hacc2
     case hq8f1 => omega
     case hq8f2 => (rw [ha2, show i2 = (homL f (chD d kk)).length by omega, List.take_length]; rfl)
     case hq8f3 => omega
    ·rintro m4 a4 w131 ⟨i3, acc3, A39, c39, M115, hle115, rfl, he4, S132, hacc3, hi3, ha3, hl3⟩
     clear S87
     refine ws_in he4 (c := HomflyOf_n77) rfl ?_
     clear he4 a4
     replace hdcrs := hdcrs.mono (Hp.un_mono hle115 S132.mx)
     replace hr5 := hr5.mono hle115
     replace hr6 := hr6.mono hle115
     replace hr7 := hr7.mono hle115
     replace hr8 := hr8.mono hle115
     replace hacc2 := hacc2.mono hle115
     refine ws_seqN HomflyOf_n78 HomflyOf_n79 rfl rfl rfl (ws_seqN HomflyOf_n80 HomflyOf_n81 rfl rfl rfl (ws_region rfl (wlm 0 1 rfl rfl rfl rfl rfl rfl rfl (wlm 1 2 rfl rfl rfl rfl rfl rfl rfl (wlo 2 3 rfl rfl rfl (wo_run rfl rfl (run_len rfl rfl rfl rfl rfl rfl Tryz.underlying42) (wlo 3 4 rfl rfl rfl (wo_run rfl rfl (run_lss rfl rfl rfl) (wl_end rfl (nmk [1, 3, 9, 10, 12, 135] rfl ?_))))))))))
     refine nm_thn ?_
     refine ws_condN HomflyOf_n82 HomflyOf_n83 rfl rfl rfl rfl (fun hb135 => ?_) (fun hb135 => ?_)
     ·replace hb135 := of_decide_eq_true hb135
      refine ws_skip rfl (nmk [1, 3, 9, 10, 12] rfl (nm_thn (ws_seqN HomflyOf_n84 HomflyOf_n85 rfl rfl rfl (ws_blockN HomflyOf_n86 7 rfl rfl rfl (ws_seqN HomflyOf_n87 HomflyOf_n88 rfl rfl rfl ?_)))))
      have hbi := b2_at hB.1 (i := i3) (by omega)
      refine ws_region rfl (wlo 0 1 rfl rfl rfl (wo_run rfl rfl (run_fieldAddr rfl rfl Tryz.underlying24 rfl (ce22) (nf22)) (wlo 1 2 rfl rfl rfl (wo_run rfl rfl (run_load1 rfl rfl Tryz.underlying22 rfl (S132.boxc (i := 0) rfl rfl)) (wlm 2 3 rfl rfl rfl rfl rfl rfl rfl (wlo 3 4 rfl rfl rfl (wo_run rfl rfl (run_indexM (C := cdCr) kk rfl rfl rfl sl22 (by first | rfl | omega) hdcrs (by first | omega | (simp only [lens]; omega))) ?_)))))))
      refine wlo 4 5 rfl rfl rfl (wo_run rfl rfl (run_fieldAddr rfl rfl Tryz.underlying77 rfl (ce4) (nf4)) (wlo 5 6 rfl rfl rfl (wo_run rfl rfl (run_load1 rfl rfl Tryz.underlying4 rfl (hdcrs.cell S132.um (i := kk) (by first | omega | (simp only [lens]; omega)) 4 rfl rfl)) ?_)))
      refine wl_end rfl (nmk [1, 3, 9, 10, 12, 143] rfl (nm_thn ?_))
      refine ws_condN HomflyOf_n89 HomflyOf_n90 rfl rfl rfl rfl (fun hb143 => ?_) (fun hb143 => ?_)
      ·refine ws_draw rfl (by kernel_rfl) S132 20 rfl ?_
       clear S132
       refine wap 0 19 rfl (by kernel_rfl) rfl rfl rfl (fun w132 => run_move rfl rfl) ?_
       refine wap 1 18 rfl (by kernel_rfl) rfl rfl rfl (fun w133 => run_move rfl rfl) ?_
       refine wap 2 17 rfl (by kernel_rfl) rfl rfl rfl (fun w134 => run_move rfl rfl) ?_
       refine wat 3 16 rfl (by kernel_rfl) rfl rfl rfl (fun M119 N104 w135 hle119 S136 => .inl (run_indexM (C := cdT2) i3 rfl rfl rfl sl42 (by first | rfl | omega) (hr8.mono hle119) (by first | omega | (simp only [lens]; omega)))) ?_
       refine wap 4 15 rfl (by kernel_rfl) rfl rfl rfl (fun w136 => run_fieldAddr rfl rfl Tryz.underlying97 rfl (ce3) (nf3)) ?_
       refine wat 5 14 rfl (by kernel_rfl) rfl rfl rfl (fun M121 N106 w137 hle121 S138 => .inl (run_load1 rfl rfl Tryz.underlying3 rfl ((hr8.mono hle121).cell S138.m (i := i3) (by first | omega | (simp only [lens]; omega)) 0 rfl rfl))) ?_
       refine wap 6 13 rfl (by kernel_rfl) rfl rfl rfl (fun w138 => run_sub rfl rfl rfl (by first | omega | (simp only [lens]; omega))) ?_
       refine wap 7 12 rfl (by kernel_rfl) rfl rfl rfl (fun w139 => run_move rfl rfl) ?_
       refine wap 8 11 rfl (by kernel_rfl) rfl rfl rfl (fun w140 => run_move rfl rfl) ?_
       refine wat 9 10 rfl (by kernel_rfl) rfl rfl rfl (fun M125 N110 w141 hle125 S142 => .inl (run_indexM (C := cdT2) i3 rfl rfl rfl sl42 (by first | rfl | omega) (hr8.mono hle125) (by first | omega | (simp only [lens]; omega)))) ?_
       refine wap 10 9 rfl (by kernel_rfl) rfl rfl rfl (fun w142 => run_fieldAddr rfl rfl Tryz.underlying97 rfl (ce3) (nf3)) ?_
       refine wat 11 8 rfl (by kernel_rfl) rfl rfl rfl (fun M127 N112 w143 hle127 S144 => .inl (run_load1 rfl rfl Tryz.underlying3 rfl ((hr8.mono hle127).cell S144.m (i := i3) (by first | omega | (simp only [lens]; omega)) 1 rfl rfl))) ?_
       refine wap 12 7 rfl (by kernel_rfl) rfl rfl rfl (fun w144 => run_add rfl rfl rfl (by first | omega | (simp only [lens]; omega))) ?_
       refine wap 13 6 rfl (by kernel_rfl) rfl rfl rfl (fun w145 => run_move rfl rfl) ?_
       refine wap 14 5 rfl (by kernel_rfl) rfl rfl rfl (fun w146 => run_move rfl rfl) ?_
       refine wat 15 4 rfl (by kernel_rfl) rfl rfl rfl (fun M131 N116 w147 hle131 S148 => .inl (run_indexM (C := cdT2) i3 rfl rfl rfl sl42 (by first | rfl | omega) (hr8.mono hle131) (by first | omega | (simp only [lens]; omega)))) ?_
       refine wap 16 3 rfl (by kernel_rfl) rfl rfl rfl (fun w148 => run_fieldAddr rfl rfl Tryz.underlying97 rfl (ce3) (nf3)) ?_
       refine wat 17 2 rfl (by kernel_rfl) rfl rfl rfl (fun M133 N118 w149 hle133 S150 => .inl (run_load1 rfl rfl Tryz.underlying3 rfl ((hr8.mono hle133).cell S150.m (i := i3) (by first | omega | (simp only [lens]; omega)) 2 rfl rfl))) ?_
       refine wa_only (i := 18) 1 rfl (by kernel_rfl) rfl rfl (fun w151 S152 => ?_)
       refine (wo_ct rfl rfl rfl rfl rfl rfl rfl cf52 S152 (Put2_t acc3 (((ga (homL f (smD d kk)) i3).x) - 1) (((ga (homL f (smD d kk)) i3).z) + 1) ((ga (homL f (smD d kk)) i3).c) hacc3 ((by omega)) S152.lend) ?_)
       intro vw152 w152 M135 hle135 S153 hRw152; clear S152
       replace hdcrs := hdcrs.mono (Hp.un_mono hle135 S153.mx)
       replace hr5 := hr5.mono hle135
       replace hr6 := hr6.mono hle135
       replace hr7 := hr7.mono hle135
       replace hr8 := hr8.mono hle135
       replace hacc2 := hacc2.mono hle135
       replace hacc3 := hacc3.mono hle135
       obtain ⟨A10, c10, rfl, hr11⟩ := hRw152
       have hpl162 := put2_len acc3 (((ga (homL f (smD d kk)) i3).x) - 1) (((ga (homL f (smD d kk)) i3).z) + 1) ((ga (homL f (smD d kk)) i3).c)
       refine LeftW.grow [] (hle135) S153 ?_; clear S153
       change WA _ _ _ _ _ _ _ _ _ _ _ _ [_]
       refine wa_base (wap 19 0 rfl (by kernel_rfl) rfl rfl rfl (fun w153 => run_assign rfl rfl) ?_)
       refine wa_end (by kernel_rfl) (fun w154 S155 => ?_)
       refine nm_blk (nmk [1, 3, 9, 10, 12] rfl (nm_thn (ws_region rfl (wlm 0 1 rfl rfl rfl rfl rfl rfl rfl (wlo 1 2 rfl rfl rfl (wo_run rfl rfl (run_add rfl rfl rfl (by first | omega | (simp only [lens]; omega))) ?_))))))
       refine wla 2 3 rfl rfl rfl rfl rfl rfl rfl (wl_end rfl (nm_lp ?_))
       intro ax_ hax_
       refine ⟨_, ?hq9m, ⟨i3 + 1, (put2 acc3 (((ga (homL f (smD d kk)) i3).x) - 1) (((ga (homL f (smD d kk)) i3).z) + 1) ((ga (homL f (smD d kk)) i3).c)), A10, c10, _, (hle115.trans hle135), rfl, hax_.sub ⟨rfl, rfl, rfl, rfl, rfl, trivial⟩, S155.pick [0] [_] (by decide) ⟨rfl, trivial⟩, ?hq9f0, ?hq9f1, ?hq9f2, ?hq9f3⟩⟩
       case hq9f0 => exact hr11
       case hq9f1 => omega
       case hq9f2 => exact addL_step ha3 (by omega) (by unfold exP; first | (rw [if_pos hb143]; omega) | (rw [if_neg (by rw [hb143]; decide)])) (by omega) (by unfold sP; first | (rw [if_pos hb143, Int.one_mul]; exact (can2_wr hB.2 (by omega)).symm) | (rw [if_neg (by rw [hb143]; decide)]; exact congrArg wr (by omega)))
       case hq9f3 => omega
       case hq9m => omega
      ·refine ws_draw rfl (by kernel_rfl) S132 21 rfl ?_
       clear S132
       refine wap 0 20 rfl (by kernel_rfl) rfl rfl rfl (fun w155 => run_move rfl rfl) ?_
       refine wap 1 19 rfl (by kernel_rfl) rfl rfl rfl (fun w156 => run_move rfl rfl) ?_
       refine wap 2 18 rfl (by kernel_rfl) rfl rfl rfl (fun w157 => run_move rfl rfl) ?_
       refine wat 3 17 rfl (by kernel_rfl) rfl rfl rfl (fun M140 N124 w158 hle140 S159 => .inl (run_indexM (C := cdT2) i3 rfl rfl rfl sl42 (by first | rfl | omega) (hr8.mono hle140) (by first | omega | (simp only [lens]; omega)))) ?_
       refine wap 4 16 rfl (by kernel_rfl) rfl rfl rfl (fun w159 => run_fieldAddr rfl rfl Tryz.underlying97 rfl (ce3) (nf3)) ?_
       refine wat 5 15 rfl (by kernel_rfl) rfl rfl rfl (fun M142 N126 w160 hle142 S161 => .inl (run_load1 rfl rfl Tryz.underlying3 rfl ((hr8.mono hle142).cell S161.m (i := i3) (by first | omega | (simp only [lens]; omega)) 0 rfl rfl))) ?_
       refine wap 6 14 rfl (by kernel_rfl) rfl rfl rfl (fun w161 => run_add rfl rfl rfl (by first | omega | (simp only [lens]; omega))) ?_
       refine wap 7 13 rfl (by kernel_rfl) rfl rfl rfl (fun w162 => run_move rfl rfl) ?_
       refine wap 8 12 rfl (by kernel_rfl) rfl rfl rfl (fun w163 => run_move rfl rfl) ?_
       refine wat 9 11 rfl (by kernel_rfl) rfl rfl rfl (fun M146 N130 w164 hle146 S165 => .inl (run_indexM (C := cdT2) i3 rfl rfl rfl sl42 (by first | rfl | omega) (hr8.mono hle146) (by first | omega | (simp only [lens]; omega)))) ?_
       refine wap 10 10 rfl (by kernel_rfl) rfl rfl rfl (fun w165 => run_fieldAddr rfl rfl Tryz.underlying97 rfl (ce3) (nf3)) ?_
       refine wat 11 9 rfl (by kernel_rfl) rfl rfl rfl (fun M148 N132 w166 hle148 S167 => .inl (run_load1 rfl rfl Tryz.underlying3 rfl ((hr8.mono hle148).cell S167.m (i := i3) (by first | omega | (simp only [lens]; omega)) 1 rfl rfl))) ?_
       refine wap 12 8 rfl (by kernel_rfl) rfl rfl rfl (fun w167 => run_add rfl rfl rfl (by first | omega | (simp only [lens]; omega))) ?_
       refine wap 13 7 rfl (by kernel_rfl) rfl rfl rfl (fun w168 => run_move rfl rfl) ?_
       refine wap 14 6 rfl (by kernel_rfl) rfl rfl rfl (fun w169 => run_move rfl rfl) ?_
       refine wat 15 5 rfl (by kernel_rfl) rfl rfl rfl (fun M152 N136 w170 hle152 S171 => .inl (run_indexM (C := cdT2) i3 rfl rfl rfl sl42 (by first | rfl | omega) (hr8.mono hle152) (by first | omega | (simp only [lens]; omega)))) ?_
       refine wap 16 4 rfl (by kernel_rfl) rfl rfl rfl (fun w171 => run_fieldAddr rfl rfl Tryz.underlying97 rfl (ce3) (nf3)) ?_
       refine wat 17 3 rfl (by kernel_rfl) rfl rfl rfl (fun M154 N138 w172 hle154 S173 => .inl (run_load1 rfl rfl Tryz.underlying3 rfl ((hr8.mono hle154).cell S173.m (i := i3) (by first | omega | (simp only [lens]; omega)) 2 rfl rfl))) ?_
       refine wap 18 2 rfl (by kernel_rfl) rfl rfl rfl (fun w173 => run_negW rfl rfl) ?_
       refine wa_only (i := 19) 1 rfl (by kernel_rfl) rfl rfl (fun w175 S176 => ?_)
       refine (wo_ct rfl rfl rfl rfl rfl rfl rfl cf52 S176 (Put2_t acc3 (((ga (homL f (smD d kk)) i3).x) + 1) (((ga (homL f (smD d kk)) i3).z) + 1) (wr (-((ga (homL f (smD d kk)) i3).c))) hacc3 ((by omega)) S176.lend) ?_)
       intro vw176 w176 M157 hle157 S177 hRw176; clear S176
       replace hdcrs := hdcrs.mono (Hp.un_mono hle157 S177.mx)
       replace hr5 := hr5.mono hle157
       replace hr6 := hr6.mono hle157
       replace hr7 := hr7.mono hle157
       replace hr8 := hr8.mono hle157
       replace hacc2 := hacc2.mono hle157
       replace hacc3 := hacc3.mono hle157
       obtain ⟨A11, c11, rfl, hr12⟩ := hRw176
       have hpl182 := put2_len acc3 (((ga (homL f (smD d kk)) i3).x) + 1) (((ga (homL f (smD d kk)) i3).z) + 1) (wr (-((ga (homL f (smD d kk)) i3).c)))
       refine LeftW.grow [] (hle157) S177 ?_; clear S177
       change WA _ _ _ _ _ _ _ _ _ _ _ _ [_]
       refine wa_base (wap 20 0 rfl (by kernel_rfl) rfl rfl rfl (fun w177 => run_assign rfl rfl) ?_)
       refine wa_end (by kernel_rfl) (fun w178 S179 => ?_)
       refine nm_blk (nmk [1, 3, 9, 10, 12] rfl (nm_thn (ws_region rfl (wlm 0 1 rfl rfl rfl rfl rfl rfl rfl (wlo 1 2 rfl rfl rfl (wo_run rfl rfl (run_add rfl rfl rfl (by first | omega | (simp only [lens]; omega))) ?_))))))
       refine wla 2 3 rfl rfl rfl rfl rfl rfl rfl (wl_end rfl (nm_lp ?_))
       intro ax_ hax_
       refine ⟨_, ?hq10m, ⟨i3 + 1, (put2 acc3 (((ga (homL f (smD d kk)) i3).x) + 1) (((ga (homL f (smD d kk)) i3).z) + 1) (wr (-((ga (homL f (smD d kk)) i3).c)))), A11, c11, _, (hle115.trans hle157), rfl, hax_.sub ⟨rfl, rfl, rfl, rfl, rfl, trivial⟩, S179.pick [0] [_] (by decide) ⟨rfl, trivial⟩, ?hq10f0, ?hq10f1, ?hq10f2, ?hq10f3⟩⟩
       case hq10f0 => exact hr12
       case hq10f1 => omega
       case hq10f2 => exact addL_step ha3 (by omega) (by unfold exP; first | (rw [if_pos hb143]; omega) | (rw [if_neg (by rw [hb143]; decide)])) (by omega) (by unfold sP; first | (rw [if_pos hb143, Int.one_mul]; exact (can2_wr hB.2 (by omega)).symm) | (rw [if_neg (by rw [hb143]; decide)]; exact congrArg wr (by omega)))
       case hq10f3 => omega
       case hq10m => omega
     ·replace hb135 := of_decide_eq_false hb135
      refine ws_exit rfl rfl (nmk [10] rfl (nm_thn (ws_seqN HomflyOf_n91 HomflyOf_n92 rfl rfl rfl (ws_region rfl (wlm 0 1 rfl rfl rfl rfl rfl rfl rfl (wla 1 2 rfl rfl rfl rfl rfl rfl rfl (wl_end rfl (nmk [2] rfl ?_))))))))
      refine nm_thn (ws_ret hC [_] rfl rfl ⟨rfl, trivial⟩ ?_)
      refine ⟨_, rfl, _, (((((hle1.trans hle65).trans hle67).trans hle69).trans hle71).trans hle74).trans hle115, (S132.pick [] [] (by decide) trivial), ?_⟩
      have e9 : homL (f + 1) d = acc3 := by rw [homL_two hl9, hkt, ha3, show i3 = (homL f (smD d kk)).length by omega, List.take_length]
      rw [e9]
      exact ⟨_, _, rfl, hacc3⟩
theorem HomflyOf_all : ∀ (f : Nat) {w : World} {M : Hp} {X : Fr} (d : Dg) {A : Option Addr} {c : Nat}, RdA cdCr (M.un X.h) A c d.crs → Jd d → mu d < f → SH w M X [] → Ct Tryz.prog 20 [.agg [.slice A d.crs.length c, .int .i64 d.loops].toArray] w M X (LsT (homL f d)) := by
 intro f
 induction f with
 | zero => intro w M X d A c _ _ h; omega
 | succ f ih => intro w M X d A c h J hf S; exact HomflyOf_t d h J hf ih S
end Go.Proofs.YthppkofceancjaaGreat
namespace Go.Proofs.YthppkofceancjaaGreat
open Go.ChangeShapes Go.WideShapes Go.ChangeAt Go.RowKit
def KeysP (g : Nat) (u : Value) (M : Hp) : Prop := ∃ b, u = .func (.func 92) #[] [.pointer (some ⟨b, 0, none⟩)].toArray ∧ BxM M b 85 [.map (some g)]
/-- One key more. -/
def stpP (s : List Pw × List Pw) (v : Value) (s' : List Pw × List Pw) : Prop := ∃ dn l1 x l2, s = (dn, l1 ++ x :: l2) ∧ v = .agg (cdPw.f x).toArray ∧ s' = (dn ++ [x], l1 ++ l2)
noncomputable def KeysP_n0 : Code := Tryz.f45.body.getD .skip
noncomputable def KeysP_n1 : Code := cL KeysP_n0
noncomputable def KeysP_n2 : Code := cR KeysP_n0
noncomputable def KeysP_n3 : Code := cL KeysP_n2
noncomputable def KeysP_n4 : Code := cR KeysP_n2
set_option maxRecDepth 10000 in
theorem KeysP_t {w : World} {M : Hp} {X : Fr} (es : List (Pw × Int)) {ges : Nat} (hmes : MpOk (fun x => Value.agg (cdPw.f x).toArray) (Value.int .i64) ges es M) (S : SH w M X []) : Ct Tryz.prog 45 [.map (some ges)] w M X (KeysP ges) := by
 unfold Ct
 refine calls_in (b := KeysP_n0) Tryz.func45 rfl Tryz.ntmps45 rfl (fun C hC => ?_)
 refine ws_sub [(0, _)] ⟨rfl, trivial⟩ ?_
 refine ws_seqN KeysP_n1 KeysP_n2 rfl rfl rfl ?_
 refine ws_region rfl ?_
 refine wl_op (k := 0) (k' := 1) rfl rfl rfl (wo_box (l := [_]) rfl rfl rfl rfl rfl S ?_)
 intro gb1 w1 S1; clear S
 refine wl_op (k := 1) (k' := 2) rfl rfl rfl (wo_run rfl rfl (run_assign rfl rfl) ?_)
 refine wl_end rfl ?_
 refine nm_sub [(1, _)] ⟨rfl, trivial⟩ ?_
 refine nm_thn ?_
 refine ws_seqN KeysP_n3 KeysP_n4 rfl rfl rfl ?_
 refine ws_region rfl ?_
 refine wl_op (k := 0) (k' := 1) rfl rfl rfl (wo_run rfl rfl (run_makeFunc (vs := [_]) rfl rfl rfl rfl) ?_)
 refine wl_op (k := 1) (k' := 2) rfl rfl rfl (wo_run rfl rfl (run_assign rfl rfl) ?_)
 refine wl_end rfl ?_
 refine nm_sub [(2, _)] ⟨rfl, trivial⟩ ?_
 refine nm_thn ?_
 obtain ⟨M1, hle1, S2, hbx1⟩ := S1.pubB2 (i := 0) (H' := [_]) rfl rfl
 clear S1
 replace hmes := hmes.mono hle1
 refine ws_ret hC [_] rfl rfl ⟨rfl, trivial⟩ ?_
 refine ⟨_, rfl, _, hle1, (S2.pick [] [] (by decide) trivial), ?_⟩
 exact ⟨_, rfl, hbx1⟩
namespace InF
noncomputable def KeysP1_n0 : Code := Tryz.f92.body.getD .skip
noncomputable def KeysP1_n1 : Code := cL KeysP1_n0
noncomputable def KeysP1_n2 : Code := cR KeysP1_n0
noncomputable def KeysP1_n3 : Code := cL KeysP1_n2
noncomputable def KeysP1_n4 : Code := cL KeysP1_n3
noncomputable def KeysP1_n5 : Code := cL KeysP1_n4
noncomputable def KeysP1_n6 : Code := cR KeysP1_n4
noncomputable def KeysP1_n7 : Code := cL KeysP1_n6
noncomputable def KeysP1_n8 : Code := cR KeysP1_n6
noncomputable def KeysP1_n9 : Code := cL KeysP1_n7
noncomputable def KeysP1_n10 : Code := cR KeysP1_n7
noncomputable def KeysP1_n11 : Code := cL KeysP1_n8
noncomputable def KeysP1_n12 : Code := cL KeysP1_n11
noncomputable def KeysP1_n13 : Code := cR KeysP1_n11
noncomputable def KeysP1_n14 : Code := cL KeysP1_n13
noncomputable def KeysP1_n15 : Code := cR KeysP1_n13
noncomputable def KeysP1_n17 : Code := cR KeysP1_n15
set_option maxRecDepth 10000 in
theorem KeysP1_iter {M : Hp} {X : Fr} {es : List (Pw × Int)} {gm b : Nat} (hm : MpOk (fun x => Value.agg (cdPw.f x).toArray) (Value.int .i64) gm es M) (hbx : BxM M b 85 [.map (some gm)]) : IterX Tryz.prog 92 [.pointer (some ⟨b, 0, none⟩)] ([], es.map Prod.fst) stpP (fun s => s.2 = []) M X := by
 intro l J w M1 B hle0 hY S hJ0
 replace hm := hm.mono hle0
 replace hbx := hbx.mono hle0
 refine calls_in (b := KeysP1_n0) Tryz.func92 rfl Tryz.ntmps92 rfl (fun C hCr hC => ?_)
 have hCF : C.F = Fence.wide := by unfold Ctx.F; rw [hCr]
 refine ws_sub [(0, _), (1, _)] ⟨rfl, rfl, trivial⟩ ?_
 refine ws_seqN KeysP1_n1 KeysP1_n2 rfl rfl rfl ?_
 refine ws_region rfl ?_
 refine wl_op (k := 0) (k' := 1) rfl rfl rfl (wo_run rfl rfl (run_load1 rfl rfl Tryz.underlying85 rfl (hbx.cell S.m rfl)) ?_)
 obtain ⟨arr1, clk1, hE1⟩ := hm.ents
 refine wl_op (k := 1) (k' := 2) rfl rfl rfl (wo_range rfl rfl rfl rfl Tryz.underlying85 S hE1 S.m ?_)
 intro r1 w1 S1; clear S
 refine wl_end rfl ?_
 refine nm_sub [(0, _), (5, _)] ⟨rfl, rfl, trivial⟩ ?_
 refine nm_thn ?_
 refine ws_blockN KeysP1_n3 0 rfl rfl rfl ?_
 refine ws_loopE (fun mx_ ax_ wx_ => ∃ (sn : Array Nat) (dn : List (Pw × Int)) (lf : List (Pw × Int)) (B1 : Rs) (M2 : Hp), M1.le M2 ∧ mx_ = lf.length ∧ Env 14 [(0, .func (.yield l) #[] #[]), (5, .pointer (some ⟨r1, 0, none⟩))] ax_ ∧ SH wx_ M2 X [Rs.itr gm clk1 r1 sn, B1] ∧ Lft (fun x => Value.agg (cdPw.f x).toArray) (Value.int .i64) arr1 sn lf ∧ (dn ++ lf).Perm es ∧ J (dn.map Prod.fst, lf.map Prod.fst) M2 B1) rfl ?_ ?_
 ·intro ax_ hax_
  refine ⟨_, ⟨#[], [], es, _, _, Hp.le_refl _, rfl, hax_.sub ⟨rfl, rfl, trivial⟩, S1.pick [0, 1] [_, _] (by decide) ⟨rfl, rfl, trivial⟩, ?hq1f0, ?hq1f1, ?hq1f2⟩⟩
  case hq1f0 => exact hE1.lft
  case hq1f1 => exact List.Perm.refl _
  case hq1f2 => exact hJ0
 ·rintro m1 a1 w2 ⟨sn, dn, lf, B1, M2, hle1, rfl, he1, S2, hlf, hpm, hJa⟩
  clear S1
  refine ws_in he1 (c := KeysP1_n4) rfl ?_
  clear he1 a1
  replace hbx := hbx.mono hle1
  replace hm := hm.mono hle1
  replace hE1 := hE1.mono hle1
  refine ws_seqN KeysP1_n5 KeysP1_n6 rfl rfl rfl ?_
  refine ws_region rfl ?_
  refine wl_op (k := 0) (k' := 1) rfl rfl rfl (wo_next (i := 0) rfl rfl rfl rfl S2 rfl hE1 S2.m hlf (fun hlf1 => ?_) (fun k1 v1 l1_1 l2_1 sn1 w3 hlf1 hlft1 hlst1 S3 => ?_))
  ·refine wl_op (k := 1) (k' := 2) rfl rfl rfl (wo_run rfl rfl (run_extract rfl rfl rfl) ?_)
   refine wl_end rfl ?_
   refine nm_sub [(0, _), (5, _), (7, _)] ⟨rfl, rfl, rfl, trivial⟩ ?_
   refine nm_thn ?_
   refine ws_seqN KeysP1_n7 KeysP1_n8 rfl rfl rfl ?_
   refine ws_condFN KeysP1_n10 rfl rfl rfl ?_
   refine ws_exit rfl rfl ?_
   refine nm_end hC [] rfl trivial ?_
   obtain rfl : lf = [] := hlf1
   exact ⟨⟨_, rfl⟩, _, _, _, rfl, hle1, S2.pick [1] [_] (by decide) ⟨rfl, trivial⟩, hJa⟩
  ·clear S2
   change SH _ _ _ [Rs.itr gm clk1 r1 sn1, _] at S3
   refine wl_op (k := 1) (k' := 2) rfl rfl rfl (wo_run rfl rfl (run_extract rfl rfl rfl) ?_)
   refine wl_end rfl ?_
   refine nm_sub [(0, _), (5, _), (7, _)] ⟨rfl, rfl, rfl, trivial⟩ ?_
   refine nm_thn ?_
   refine ws_seqN KeysP1_n7 KeysP1_n8 rfl rfl rfl ?_
   refine ws_condTN KeysP1_n9 rfl rfl rfl ?_
   refine ws_skip rfl ?_
   refine nm_sub [(0, _), (5, _)] ⟨rfl, rfl, trivial⟩ ?_
   refine nm_thn ?_
   refine ws_blockN KeysP1_n11 1 rfl rfl rfl ?_
   refine ws_seqN KeysP1_n12 KeysP1_n13 rfl rfl rfl ?_
   refine ws_region rfl ?_
   refine wl_op (k := 0) (k' := 1) rfl rfl rfl (wo_run rfl rfl (run_entry (i := 0) rfl rfl S3 rfl hE1 S3.m hlst1) ?_)
   refine wl_op (k := 1) (k' := 2) rfl rfl rfl (wo_run rfl rfl (run_extract rfl rfl rfl) ?_)
   refine wl_op (k := 2) (k' := 3) rfl rfl rfl (wo_alloc (l := [_, _]) rfl rfl rfl zr90 rfl S3 ?_)
   intro gb1 w4 S4; clear S3
   refine wl_op (k := 3) (k' := 4) rfl rfl rfl (wo_storeB (i := 0) (us := [_, _]) (l' := [_, _]) (H' := [_, _, _]) rfl rfl S4 rfl rfl rfl rfl sz90 rfl rfl rfl rfl ?_)
   intro w5 S5; clear S4
   refine wl_end rfl ?_
   refine nm_sub [(0, _), (5, _), (3, _)] ⟨rfl, rfl, rfl, trivial⟩ ?_
   refine nm_thn ?_
   refine ws_seqN KeysP1_n14 KeysP1_n15 rfl rfl rfl ?_
   refine ws_region rfl ?_
   refine wl_op (k := 0) (k' := 1) rfl rfl rfl (wo_run rfl rfl (run_move rfl rfl) ?_)
   refine wl_op (k := 1) (k' := 2) rfl rfl rfl (wo_run rfl rfl (run_loadN (us := [_, _]) rfl rfl Tryz.underlying90 rfl sz90 (S5.boxcs (i := 0) rfl ⟨rfl, rfl, trivial⟩)) ?_)
   have hst : stpP (dn.map Prod.fst, lf.map Prod.fst) (.agg (cdPw.f k1).toArray) ((dn ++ [(k1, v1)]).map Prod.fst, (l1_1 ++ l2_1).map Prod.fst) := ⟨dn.map Prod.fst, l1_1.map Prod.fst, k1, l2_1.map Prod.fst, by rw [hlf1]; simp, rfl, by simp⟩
   have S6 := S5.pick [2, 0, 1] [_, _, _] (by decide) ⟨rfl, rfl, rfl, trivial⟩
   refine wl_yield (k := 2) (k' := 3) rfl rfl rfl rfl rfl rfl rfl rfl rfl rfl (by rw [hCF]; exact hY _ _ _ _ _ [_, _] _ hst (hle1) S6 hJa) ?_
   rintro _ w6 ⟨rfl, M3, B6, hle2, S7, hJ1⟩; clear S5
   replace hbx := hbx.mono hle2
   replace hm := hm.mono hle2
   replace hE1 := hE1.mono hle2
   refine wl_op (k := 3) (k' := 4) rfl rfl rfl (wo_run rfl rfl (run_not rfl rfl) ?_)
   refine wl_end rfl ?_
   refine nm_sub [(0, _), (5, _), (13, _)] ⟨rfl, rfl, rfl, trivial⟩ ?_
   refine nm_thn ?_
   refine ws_condFN KeysP1_n17 rfl rfl rfl ?_
   refine ws_skip rfl ?_
   refine nm_blk ?_
   refine nm_lp ?_
   intro ax_ hax_
   refine ⟨_, ?hq2m, ⟨sn1, dn ++ [(k1, v1)], l1_1 ++ l2_1, _, _, (hle1.trans hle2), rfl, hax_.sub ⟨rfl, rfl, trivial⟩, S7.pick [2, 0] [_, _] (by decide) ⟨rfl, rfl, trivial⟩, ?hq2f0, ?hq2f1, ?hq2f2⟩⟩
   case hq2f0 => assumption
   case hq2f1 => (refine List.Perm.trans ?_ hpm; simp only [*, List.append_assoc, List.cons_append, List.nil_append]; exact (List.perm_append_left_iff _).2 (List.perm_middle.symm))
   case hq2f2 => assumption
   case hq2m => (simp only [*, List.length_append, List.length_cons]; omega)
end InF
noncomputable def ASeqP_rf : Code := cL (cR (cL (cR (Tryz.f140.body.getD .skip))))
/-- What holds between two rounds. -/
def ASeqPI (ks : List Pw) (g2 : Nat) (s : List Pw × List Pw) (M : Hp) (H : List Rs) : Prop := ∃ v, H = [Rs.row cdPw v s.1, Rs.box g2 87 [v]] ∧ (s.1 ++ s.2).Perm ks
def ASeqPI1 (ks : List Pw) (g2 : Nat) (s : List Pw × List Pw) (a : Act) (M : Hp) (H : List Rs) : Prop := ∃ v dn x gv, Env 13 [(2, .pointer (some ⟨g2, 0, none⟩)), (5, .pointer (some ⟨gv, 0, none⟩))] a ∧ H = [Rs.row cdPw v dn, Rs.box g2 87 [v], Rs.box gv 90 [.int .i64 x.x, .int .i64 x.z]] ∧ s.1 = dn ++ [x] ∧ (s.1 ++ s.2).Perm ks
namespace InF
set_option maxRecDepth 10000 in
theorem ASeqP_assign {w : World} {M : Hp} {X : Fr} {ks : List Pw} {gq2 : Nat} {C : Ctx} {R0 : Rs} {H : List Rs} {L : List (Nat × Value)} {k k1 : List Pw × List Pw} {u : Value} (hL : Sub L [(2, .pointer (some ⟨gq2, 0, none⟩)), (7, u)]) (hst : stpP k u k1) (S : SH w M X (R0 :: H)) (hI : ASeqPI ks gq2 k M H) :
  WS Tryz.prog 13 C (rgA ASeqP_rf) [.lp (fun a w2 => ∃ M2 H2, M.le M2 ∧ SH w2 M2 X (R0 :: H2) ∧ ASeqPI1 ks gq2 k1 a M2 H2)] L w := by
 obtain ⟨dn, l1, x, l2, rfl, rfl, rfl⟩ := hst
 obtain ⟨vro, rfl, hpm⟩ := hI
 change SH w M X [R0, Rs.row cdPw vro dn, _] at S
 refine ws_sub _ hL ?_
 refine ws_region rfl ?_
 refine wl_op (k := 0) (k' := 1) rfl rfl rfl (wo_alloc (l := [_, _]) rfl rfl rfl zr90 rfl S ?_)
 intro gb1 w1 S1; clear S
 refine wl_op (k := 1) (k' := 2) rfl rfl rfl (wo_storeB (i := 0) (us := [_, _]) (l' := [_, _]) (H' := [_, _, _, _]) rfl rfl S1 rfl rfl rfl rfl sz90 rfl rfl rfl rfl ?_)
 intro w2 S2; clear S1
 refine wl_end rfl ?_
 refine nm_lp ?_
 intro ax_ hax_
 refine ⟨M, _, Hp.le_refl _, S2.pick [1, 2, 3, 0] [_, _, _, _] (by decide) ⟨rfl, rfl, rfl, rfl, trivial⟩, vro, dn, x, gb1, hax_.sub ⟨rfl, rfl, trivial⟩, rfl, rfl, ?_⟩
 refine List.Perm.trans ?_ hpm
 show ((dn ++ [x]) ++ (l1 ++ l2)).Perm (dn ++ (l1 ++ x :: l2))
 rw [List.append_assoc]
 exact (List.perm_append_left_iff _).2 (show (x :: (l1 ++ l2)).Perm (l1 ++ x :: l2) from List.perm_middle.symm)
noncomputable def ASeqPB_n1 : Code := rgB ASeqP_rf
noncomputable def ASeqPB_n2 : Code := cL ASeqPB_n1
set_option maxRecDepth 10000 in
theorem ASeqP_body {w : World} {M : Hp} {X : Fr} {ks : List Pw} {gq2 : Nat} (hks : ks.length ≤ 2199023255553) {C : Ctx} {R0 : Rs} {H : List Rs} {a : Act} {k : List Pw × List Pw} (S : SH w M X (R0 :: H)) (hI1 : ASeqPI1 ks gq2 k a M H) :
  (rgB ASeqP_rf).wpIn C.F 0 Tryz.prog (post Tryz.prog C [.lp (fun _ w2 => ∃ M2 H2, M.le M2 ∧ SH w2 M2 X (R0 :: H2) ∧ ASeqPI ks gq2 k M2 H2)]) a w := by
 obtain ⟨vro, dn, x, gbv, ha, rfl, hd, hpm⟩ := hI1
 obtain ⟨k1, lf⟩ := k
 dsimp only at hd hpm
 subst hd
 have hlen := hpm.length_eq
 simp only [List.length_append, List.length_cons, List.length_nil] at hlen
 change SH w M X [R0, Rs.row cdPw vro dn, _, _] at S
 refine ws_in ha (c := rgB ASeqP_rf) rfl ?_
 refine ws_blockN ASeqPB_n2 1 rfl rfl rfl ?_
 refine ws_region rfl ?_
 refine wl_op (k := 0) (k' := 1) rfl rfl rfl (wo_run rfl rfl (run_load1 rfl rfl Tryz.underlying87 rfl (S.boxc (i := 2) rfl rfl)) ?_)
 refine wl_op (k := 1) (k' := 2) rfl rfl rfl (wo_run rfl rfl (run_loadN (us := [_, _]) rfl rfl Tryz.underlying90 rfl sz90 (S.boxcs (i := 3) rfl ⟨rfl, rfl, trivial⟩)) ?_)
 refine wl_op (k := 2) (k' := 3) rfl rfl rfl (wo_buildSlice1 (C := cdPw) (l := [_, _]) rfl rfl rfl rfl sl87 rfl rfl rfl rfl S ?_)
 intro gb1 w1 S1; clear S
 refine wl_op (k := 3) (k' := 4) rfl rfl rfl (wo_append1 (C := cdPw) (i := 2) (q := 0) (⟨x.x, x.z⟩ : Pw) rfl rfl rfl rfl rfl rfl rfl rfl sl87 S1 rfl rfl rfl (by show (_ + 1) * 16 ≤ _; first | omega | (simp only [lens]; omega)) ?_)
 intro vro1 w2 S2; clear S1
 have S3 := S2.pick [1, 2, 3, 4] [_, _, _, _] (by decide) ⟨rfl, rfl, rfl, rfl, trivial⟩; clear S2
 refine wl_op (k := 4) (k' := 5) rfl rfl rfl (wo_storeB (i := 2) (us := [_]) (l' := [_]) (H' := [_, _, _, _]) rfl rfl S3 rfl rfl rfl (S3.cells1 (i := 1) rfl) sz87 rfl (ones_cons (S3.one (i := 1) rfl) rfl) rfl rfl ?_)
 intro w3 S4; clear S3
 refine wl_end rfl ?_
 refine nm_blk ?_
 refine nm_lp ?_
 intro ax_ hax_
 exact ⟨_, _, Hp.le_refl _, S4.pick [0, 1, 2] [_, _, _] (by decide) ⟨rfl, rfl, rfl, trivial⟩, _, rfl, hpm⟩
noncomputable def ASeqP_n0 : Code := Tryz.f140.body.getD .skip
noncomputable def ASeqP_n1 : Code := cL ASeqP_n0
noncomputable def ASeqP_n2 : Code := cR ASeqP_n0
noncomputable def ASeqP_n3 : Code := cL ASeqP_n2
noncomputable def ASeqP_n4 : Code := cR ASeqP_n2
noncomputable def ASeqP_n5 : Code := cL ASeqP_n3
noncomputable def ASeqP_n6 : Code := cR ASeqP_n3
noncomputable def ASeqP_n7 : Code := cL ASeqP_n6
set_option maxRecDepth 10000 in
theorem AppendSeqP_o {w : World} {M : Hp} {X : Fr} {es : List (Pw × Int)} {gm b : Nat} (hm : MpOk (fun x => Value.agg (cdPw.f x).toArray) (Value.int .i64) gm es M) (hbx : BxM M b 85 [.map (some gm)]) (hks : (es.map Prod.fst).length ≤ 2199023255553) (S : SH w M X []) : Co Tryz.prog 140 [.slice none 0 0, .func (.func 92) #[] [.pointer (some ⟨b, 0, none⟩)].toArray] w M X fun u N => ∃ ks, ks.Perm (es.map Prod.fst) ∧ N = [Rs.row cdPw u ks] := by
 unfold Co
 refine calls_marks (b := ASeqP_n0) Tryz.func140 rfl Tryz.ntmps140 rfl (fun C hCr hC => ?_)
 refine ws_sub [(0, _), (1, _)] ⟨rfl, rfl, trivial⟩ ?_
 refine ws_seqN ASeqP_n1 ASeqP_n2 rfl rfl rfl ?_
 refine ws_region rfl ?_
 refine wl_op (k := 0) (k' := 1) rfl rfl rfl (wo_box (l := [_]) rfl rfl rfl rfl rfl S ?_)
 intro gb1 w1 S1; clear S
 refine wl_op (k := 1) (k' := 2) rfl rfl rfl (wo_run rfl rfl (run_assign rfl rfl) ?_)
 refine wl_end rfl ?_
 refine nm_sub [(1, _), (2, _)] ⟨rfl, rfl, trivial⟩ ?_
 refine nm_thn ?_
 refine ws_seqN ASeqP_n3 ASeqP_n4 rfl rfl rfl ?_
 refine ws_seqN ASeqP_n5 ASeqP_n6 rfl rfl rfl ?_
 refine ws_region rfl ?_
 refine wl_op (k := 0) (k' := 1) rfl rfl rfl (wo_run rfl rfl (run_move rfl rfl) ?_)
 refine wl_end rfl ?_
 refine nm_sub [(2, _), (6, _)] ⟨rfl, rfl, trivial⟩ ?_
 refine nm_thn ?_
 refine ws_blockN ASeqP_n7 0 rfl rfl rfl ?_
 have S9 := (S1.nilrow cdPw)
 refine ws_rangeFuncX (p := 7) (f := 92) (lb := [_]) (asg := rgA ASeqP_rf) (bd := rgB ASeqP_rf) hCr rfl rfl rfl cf92 S9 (ASeqPI (es.map Prod.fst) gb1) (ASeqPI1 (es.map Prod.fst) gb1) ?_ (KeysP1_iter hm hbx) ?_ ?_ ?_
 ·exact ⟨.slice none 0 0, rfl, List.Perm.refl _⟩
 ·intro k k1 v M' H' w' C' R0 hk hle S' hI
  exact ASeqP_assign ⟨rfl, rfl, trivial⟩ hk S' hI
 ·intro k M' H' w' C' R0 a hle S' hI1
  exact ASeqP_body hks S' hI1
 ·intro k a M' H' w' D l rc hfin ha hle S' hI
  obtain ⟨dn, lf⟩ := k
  obtain rfl : lf = [] := hfin
  obtain ⟨vro, rfl, hpm⟩ := hI
  change SH w' M' X [Rs.lr l D rc, Rs.row cdPw vro dn, _] at S'
  refine tail_la (c := ASeqP_n4) (i := 4) (d1 := 12) (d2 := 4) (v := vro) hC rfl rfl rfl rfl rfl rfl rfl ha rfl Tryz.underlying87 rfl rfl rfl rfl S' (S'.boxc (i := 2) rfl rfl) (fun w2 S2 => ?_)
  refine ⟨_, rfl, [Rs.row cdPw vro dn], (S2.down hle).pick [0] [_] (by decide) ⟨rfl, trivial⟩, dn, ?_, rfl⟩
  simpa using hpm
end InF
noncomputable def CollectP_n0 : Code := Tryz.f90.body.getD .skip
noncomputable def CollectP_n1 : Code := cL CollectP_n0
noncomputable def CollectP_n2 : Code := cR CollectP_n0
noncomputable def CollectP_n3 : Code := cL CollectP_n2
noncomputable def CollectP_n4 : Code := cR CollectP_n2
set_option maxRecDepth 10000 in
theorem CollectP_o {w : World} {M : Hp} {X : Fr} {es : List (Pw × Int)} {gm b : Nat} (hm : MpOk (fun x => Value.agg (cdPw.f x).toArray) (Value.int .i64) gm es M) (hbx : BxM M b 85 [.map (some gm)]) (hks : (es.map Prod.fst).length ≤ 2199023255553) (S : SH w M X []) : Co Tryz.prog 90 [.func (.func 92) #[] [.pointer (some ⟨b, 0, none⟩)].toArray] w M X (fun u N => ∃ ks, ks.Perm (es.map Prod.fst) ∧ N = [Rs.row cdPw u ks]) := by
 unfold Co
 refine calls_in (b := CollectP_n0) Tryz.func90 rfl Tryz.ntmps90 rfl (fun C hC => ?_)
 refine ws_sub [(0, _)] ⟨rfl, trivial⟩ ?_
 refine ws_seqN CollectP_n1 CollectP_n2 rfl rfl rfl ?_
 refine ws_region rfl ?_
 refine wl_op (k := 0) (k' := 1) rfl rfl rfl (wo_run rfl rfl (run_assign rfl rfl) ?_)
 refine wl_end rfl ?_
 refine nm_sub [(0, _)] ⟨rfl, trivial⟩ ?_
 refine nm_thn ?_
 refine ws_seqN CollectP_n3 CollectP_n4 rfl rfl rfl ?_
 refine ws_region rfl ?_
 refine wl_op (k := 0) (k' := 1) rfl rfl rfl (wo_run rfl rfl (run_move rfl rfl) ?_)
 refine wl_op (k := 1) (k' := 2) rfl rfl rfl (wo_co rfl rfl rfl rfl rfl rfl rfl cf140 S (InF.AppendSeqP_o hm hbx hks S.lend) ?_)
 intro vw1 w1 Nw1 S1 hRw1; clear S
 obtain ⟨ksw1, hksw1, rfl⟩ := hRw1
 change SH _ _ _ [_] at S1
 refine wl_op (k := 2) (k' := 3) rfl rfl rfl (wo_run rfl rfl (run_assign rfl rfl) ?_)
 refine wl_end rfl ?_
 refine nm_sub [(2, _)] ⟨rfl, trivial⟩ ?_
 refine nm_thn ?_
 refine ws_ret hC [_] rfl rfl ⟨rfl, trivial⟩ ?_
 exact ⟨_, rfl, _, S1.pick [0] [_] (by decide) ⟨rfl, trivial⟩, _, hksw1, rfl⟩
end Go.Proofs.YthppkofceancjaaGreat
namespace Go.Proofs.YthppkofceancjaaGreat
open Go.ChangeShapes Go.WideShapes Go.ChangeAt Go.RowKit
open Go.Sort
set_option maxHeartbeats 1000000 in
theorem or_w (b : Nat) (T : TypeId) (p q : Int) (W : World) (h : W.heap[b]? = some (.cells #[.int .i64 p, .int .i64 q] T (0, 0))) : Calls Tryz.prog 47 #[.slice (some ⟨b, 0, none⟩) 2 2] W fun e w' => e = .returned (.int .i64 (if p = 0 then q else p)) ∧ w' = W := by
 have c0 : W.cell? ⟨b, 0, none⟩ = some (.int .i64 p) := by simp [World.cell?, h]
 have c1 : W.cell? ⟨b, 1, none⟩ = some (.int .i64 q) := by simp [World.cell?, h]
 clear h
 go_enter Tryz.func47, Tryz.ntmps47
 go_wp2_with fail
 refine wp_loop_rounds 3 ?_
 rw [rounds_succ]
 by_cases hp : p = 0
 ·subst hp
  go_wp2_with fail
  rw [rounds_succ]
  by_cases hq : q = 0
  ·subst hq
   go_wp2_with fail
   rw [rounds_succ]
   go_wp2_with fail
   go_ret
   exact ⟨rfl, rfl⟩
  ·go_wp2_with fail
   go_ret
   exact ⟨rfl, rfl⟩
 ·go_wp2_with fail
  go_ret
  exact ⟨rfl, rfl⟩
theorem heap_3 (W : World) (o1 o2 o3 : Obj) : (((W.alloc o1).alloc o2).alloc o3).heap[W.heap.size + 1 + 1]? = some o3 := by
 rw [alloc_eq_grow, alloc_eq_grow, alloc_eq_grow]
 unfold grow
 show (((W.heap ++ #[o1]) ++ #[o2]) ++ #[o3])[_]? = _
 rw [Array.getElem?_append_right (by simp)]
 simp
abbrev PwB := { k : Pw // PB 400 k }
instance : Inhabited PwB := ⟨⟨⟨0, 0⟩, by unfold PB; simp⟩⟩
def cfP (x y : PwB) : Int := if x.1.x - y.1.x = 0 then x.1.z - y.1.z else x.1.x - y.1.x
theorem wrP {a b : Int} (h : -400 ≤ a ∧ a ≤ 400) (k : -400 ≤ b ∧ b ≤ 400) : IntKind.i64.wrap (a - b) = a - b := by rw [IntKind.wrap_i64]; omega
set_option maxHeartbeats 2000000 in
theorem cmp_w (x y : PwB) (W : World) : Calls Tryz.prog 46 #[.agg (cdPw.f x.1).toArray, .agg (cdPw.f y.1).toArray] W fun e w' => e = .returned (.int .i64 (cfP x y)) ∧ ∃ q os', w' = grow (W.drewN q) os' := by
 obtain ⟨⟨a, b⟩, ha⟩ := x
 obtain ⟨⟨c, d⟩, hc⟩ := y
 unfold PB at ha hc
 simp only at ha hc
 have w1 := wrP (a := a) (b := c) (by omega) (by omega)
 have w2 := wrP (a := b) (b := d) (by omega) (by omega)
 have hcon := fun (B : Nat) (T : TypeId) W' h => or_w B T (a - c) (b - d) W' h
 have e9 : cfP ⟨⟨a, b⟩, ha⟩ ⟨⟨c, d⟩, hc⟩ = if a - c = 0 then b - d else a - c := rfl
 rw [e9]
 generalize (if a - c = 0 then b - d else a - c) = r at hcon ⊢
 show Calls Tryz.prog 46 #[.agg #[.int .i64 a, .int .i64 b], .agg #[.int .i64 c, .int .i64 d]] W _
 go_enter Tryz.func46, Tryz.ntmps46
 go_wp2_with (go_at_call 47; refine (hcon _ _ _ (heap_3 _ _ _ _)).mono ?_; rintro e w' ⟨rfl, rfl⟩)
 go_ret
 exact ⟨rfl, 0, _, by rw [alloc_eq_grow, alloc_eq_grow, alloc_eq_grow, grow_grow, grow_grow]; rfl⟩
end Go.Proofs.YthppkofceancjaaGreat
