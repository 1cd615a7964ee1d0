/- Walks printed by eng.py. -/
import Derived.Test.YtlbpgnimpcflaaaT1
import Derived.Test.YtlbpgnimpcflaaaSum0
namespace Go.Proofs.Ytlbpgnimpcflaaa
set_option linter.unusedSimpArgs false
set_option linter.unusedVariables false
open Go.ChangeShapes Go.WideShapes Go.ChangeAt Go.RowKit
def DgE (r : Dg × Int) (u : Value) (M : Hp) : Prop := ∃ A c, u = .tuple [.agg [.slice A r.1.crs.length c, .int .i64 r.1.loops].toArray, .int .i64 r.2].toArray ∧ RdA cdCr M A c r.1.crs
theorem arcAt_bd {d : Dg} (h : arcsB d = true) {i k : Nat} (hi : i < d.crs.length) (hk : k < 4) : 1 ≤ arcAt d i k ∧ arcAt d i k ≤ 2 * (d.crs.length : Int) := by
  have := arcs_rng h (j := 4 * i + k) (by omega)
  unfold arcJ at this
  rwa [show (4 * i + k) / 4 = i by omega, show (4 * i + k) % 4 = k by omega] at this

noncomputable def SumOf_n0 : Code := Try.f18.body.getD .skip
noncomputable def SumOf_n1 : Code := cL SumOf_n0
noncomputable def SumOf_n2 : Code := cR SumOf_n0
noncomputable def SumOf_n3 : Code := cL SumOf_n2
noncomputable def SumOf_n4 : Code := cR SumOf_n2
noncomputable def SumOf_n5 : Code := cL SumOf_n4
noncomputable def SumOf_n6 : Code := cR SumOf_n4
noncomputable def SumOf_n7 : Code := cL SumOf_n5
noncomputable def SumOf_n8 : Code := cR SumOf_n5
noncomputable def SumOf_n9 : Code := cL SumOf_n8
noncomputable def SumOf_n10 : Code := cR SumOf_n8
noncomputable def SumOf_n11 : Code := cL SumOf_n9
noncomputable def SumOf_n12 : Code := cR SumOf_n9
noncomputable def SumOf_n13 : Code := cL SumOf_n6
noncomputable def SumOf_n14 : Code := cR SumOf_n6
noncomputable def SumOf_n15 : Code := cL SumOf_n13
noncomputable def SumOf_n16 : Code := cR SumOf_n13
noncomputable def SumOf_n17 : Code := cL SumOf_n16
noncomputable def SumOf_n18 : Code := cR SumOf_n16
noncomputable def SumOf_n19 : Code := cL SumOf_n17
noncomputable def SumOf_n20 : Code := cR SumOf_n17
noncomputable def SumOf_n21 : Code := cL SumOf_n14
noncomputable def SumOf_n22 : Code := cR SumOf_n14
noncomputable def SumOf_n23 : Code := cL SumOf_n22
noncomputable def SumOf_n24 : Code := cR SumOf_n22
noncomputable def SumOf_n25 : Code := cL SumOf_n23
noncomputable def SumOf_n26 : Code := cR SumOf_n23
noncomputable def SumOf_n27 : Code := cL SumOf_n26
noncomputable def SumOf_n28 : Code := cL SumOf_n27
noncomputable def SumOf_n29 : Code := cL SumOf_n28
noncomputable def SumOf_n30 : Code := cR SumOf_n28
noncomputable def SumOf_n31 : Code := cL SumOf_n29
noncomputable def SumOf_n32 : Code := cR SumOf_n29
noncomputable def SumOf_n33 : Code := cL SumOf_n32
noncomputable def SumOf_n34 : Code := cR SumOf_n32
noncomputable def SumOf_n35 : Code := cL SumOf_n30
noncomputable def SumOf_n36 : Code := cR SumOf_n30
noncomputable def SumOf_n37 : Code := cL SumOf_n35
noncomputable def SumOf_n38 : Code := cL SumOf_n37
noncomputable def SumOf_n39 : Code := cR SumOf_n37
noncomputable def SumOf_n40 : Code := cL SumOf_n39
noncomputable def SumOf_n41 : Code := cR SumOf_n39
noncomputable def SumOf_n42 : Code := cL SumOf_n40
noncomputable def SumOf_n43 : Code := cR SumOf_n40
noncomputable def SumOf_n44 : Code := cL SumOf_n43
noncomputable def SumOf_n45 : Code := cR SumOf_n43
noncomputable def SumOf_n46 : Code := cL SumOf_n41
noncomputable def SumOf_n47 : Code := cR SumOf_n41
noncomputable def SumOf_n48 : Code := cL SumOf_n47
noncomputable def SumOf_n49 : Code := cR SumOf_n47
noncomputable def SumOf_n50 : Code := cL SumOf_n48
noncomputable def SumOf_n51 : Code := cR SumOf_n48
noncomputable def SumOf_n52 : Code := cL SumOf_n51
noncomputable def SumOf_n53 : Code := cL SumOf_n52
noncomputable def SumOf_n54 : Code := cL SumOf_n53
noncomputable def SumOf_n55 : Code := cR SumOf_n53
noncomputable def SumOf_n56 : Code := cL SumOf_n54
noncomputable def SumOf_n57 : Code := cR SumOf_n54
noncomputable def SumOf_n58 : Code := cL SumOf_n57
noncomputable def SumOf_n59 : Code := cR SumOf_n57
noncomputable def SumOf_n60 : Code := cL SumOf_n55
noncomputable def SumOf_n61 : Code := cR SumOf_n55
noncomputable def SumOf_n62 : Code := cL SumOf_n60
noncomputable def SumOf_n63 : Code := cL SumOf_n62
noncomputable def SumOf_n64 : Code := cR SumOf_n62
noncomputable def SumOf_n65 : Code := cL SumOf_n64
noncomputable def SumOf_n66 : Code := cR SumOf_n64
noncomputable def SumOf_n67 : Code := cL SumOf_n65
noncomputable def SumOf_n68 : Code := cR SumOf_n65
noncomputable def SumOf_n69 : Code := cL SumOf_n68
noncomputable def SumOf_n70 : Code := cR SumOf_n68
noncomputable def SumOf_n71 : Code := cL SumOf_n69
noncomputable def SumOf_n72 : Code := cR SumOf_n69
noncomputable def SumOf_n73 : Code := cL SumOf_n72
noncomputable def SumOf_n74 : Code := cR SumOf_n72
noncomputable def SumOf_n75 : Code := cL SumOf_n74
noncomputable def SumOf_n76 : Code := cR SumOf_n74
noncomputable def SumOf_n77 : Code := cL SumOf_n76
noncomputable def SumOf_n78 : Code := cR SumOf_n76
noncomputable def SumOf_n79 : Code := cL SumOf_n24
noncomputable def SumOf_n80 : Code := cR SumOf_n24
set_option maxRecDepth 10000 in
theorem SumOf_t {w : World} {M : Hp} {X : Fr} (a : Dg) {acrsA : Option Addr} {acrsc : Nat} (x : Int) (b : Dg) {bcrsA : Option Addr} {bcrsc : Nat} (y : Int) (hacrs : RdA cdCr (M.un X.h) acrsA acrsc a.crs) (hbcrs : RdA cdCr (M.un X.h) bcrsA bcrsc b.crs) (ha : arcsB a = true) (hb : arcsB b = true) (hn : a.crs.length ≤ 16) (hm : b.crs.length ≤ 16) (hla : 0 ≤ a.loops ∧ a.loops ≤ 16) (hlb : 0 ≤ b.loops ∧ b.loops ≤ 16) (hx : -9223372036854775808 ≤ x ∧ x ≤ 9223372036854775807) (S : SH w M X []) : Ct Try.prog 18 [.agg [.slice acrsA a.crs.length acrsc, .int .i64 a.loops].toArray, .int .i64 x, .agg [.slice bcrsA b.crs.length bcrsc, .int .i64 b.loops].toArray, .int .i64 y] w M X (DgE (sumR a b x y)) := by
  unfold Ct
  refine calls_in (b := SumOf_n0) Try.func18 rfl Try.ntmps18 rfl (fun C hC => ?_)
  refine ws_sub [(0, _), (1, _), (2, _), (3, _)] ⟨rfl, rfl, rfl, rfl, trivial⟩ ?_
  refine ws_seqN SumOf_n1 SumOf_n2 rfl rfl rfl ?_
  refine ws_region rfl ?_
  refine wl_op (k := 0) (k' := 1) rfl rfl rfl (wo_box (l := [_, _]) rfl rfl rfl rfl rfl S ?_)
  intro gb1 w1 S1; clear S
  refine wl_op (k := 1) (k' := 2) rfl rfl rfl (wo_box (l := [_, _]) rfl rfl rfl rfl rfl S1 ?_)
  intro gb2 w2 S2; clear S1
  refine wl_op (k := 2) (k' := 3) rfl rfl rfl (wo_alloc (l := [_, _]) rfl rfl rfl zr27 rfl S2 ?_)
  intro gb3 w3 S3; clear S2
  refine wl_op (k := 3) (k' := 4) rfl rfl rfl (wo_run rfl rfl (run_assign rfl rfl) ?_)
  refine wl_end rfl ?_
  refine nm_sub [(1, _), (3, _), (4, _), (6, _), (8, _)] ⟨rfl, rfl, rfl, rfl, rfl, trivial⟩ ?_
  refine nm_thn ?_
  refine ws_seqN SumOf_n3 SumOf_n4 rfl rfl rfl ?_
  refine ws_draw rfl (by kernel_rfl) S3 8 rfl ?_
  clear S3
  refine wa_takeP (i := 0) (d := 20) 7 rfl (by kernel_rfl) (by kernel_rfl) (by kernel_rfl) rfl rfl rfl (fun w4 => run_fieldAddr rfl rfl Try.underlying27 rfl (ce25) (nf25)) ?_
  refine wa_take (i := 1) (d := 21) 6 rfl (by kernel_rfl) (by kernel_rfl) (by kernel_rfl) rfl rfl rfl (fun M2 N2 w5 hle2 S5 => .inl (run_load1 rfl rfl Try.underlying25 rfl (S5.suf.boxc (i := 2) rfl rfl))) ?_
  refine wa_take (i := 2) (d := 22) 5 rfl (by kernel_rfl) (by kernel_rfl) (by kernel_rfl) rfl rfl rfl (fun M3 N3 w6 hle3 S6 => .inl (run_len rfl rfl rfl rfl rfl rfl Try.underlying25)) ?_
  refine wa_takeP (i := 3) (d := 23) 4 rfl (by kernel_rfl) (by kernel_rfl) (by kernel_rfl) rfl rfl rfl (fun w7 => run_fieldAddr rfl rfl Try.underlying27 rfl (ce25) (nf25)) ?_
  refine wa_take (i := 4) (d := 24) 3 rfl (by kernel_rfl) (by kernel_rfl) (by kernel_rfl) rfl rfl rfl (fun M5 N5 w8 hle5 S8 => .inl (run_load1 rfl rfl Try.underlying25 rfl (S8.suf.boxc (i := 1) rfl rfl))) ?_
  refine wa_take (i := 5) (d := 25) 2 rfl (by kernel_rfl) (by kernel_rfl) (by kernel_rfl) rfl rfl rfl (fun M6 N6 w9 hle6 S9 => .inl (run_len rfl rfl rfl rfl rfl rfl Try.underlying25)) ?_
  refine wa_takeP (i := 6) (d := 10) 1 rfl (by kernel_rfl) (by kernel_rfl) (by kernel_rfl) rfl rfl rfl (fun w10 => run_assign rfl rfl) ?_
  refine wa_takeP (i := 7) (d := 11) 0 rfl (by kernel_rfl) (by kernel_rfl) (by kernel_rfl) rfl rfl rfl (fun w11 => run_assign rfl rfl) ?_
  refine wa_end (by kernel_rfl) (fun w12 S12 => ?_)
  refine nm_sub [(1, _), (3, _), (4, _), (6, _), (8, _), (10, _), (11, _)] ⟨rfl, rfl, rfl, rfl, rfl, rfl, rfl, trivial⟩ ?_
  refine nm_thn ?_
  refine ws_seqN SumOf_n5 SumOf_n6 rfl rfl rfl ?_
  refine ws_seqN SumOf_n7 SumOf_n8 rfl rfl rfl ?_
  refine ws_region rfl ?_
  refine wl_op (k := 0) (k' := 1) rfl rfl rfl (wo_run rfl rfl (run_move rfl rfl) ?_)
  refine wl_op (k := 1) (k' := 2) rfl rfl rfl (wo_run rfl rfl (run_lss rfl rfl rfl) ?_)
  refine wl_op (k := 2) (k' := 3) rfl rfl rfl (wo_run rfl rfl (run_move rfl rfl) ?_)
  refine wl_split (t := 28) rfl (fun hg28 => ?_) (fun hg28 => ?_)
  · have hg28 := of_decide_eq_true hg28
    refine wl_no (k := 3) (k' := 4) (d := 29) rfl rfl ⟨_, _, _, rfl, rfl, rfl, rfl⟩ rfl rfl ?_
    refine wl_no (k := 4) (k' := 5) (d := 30) rfl rfl ⟨_, _, _, rfl, rfl, rfl, rfl⟩ rfl rfl ?_
    refine wl_no (k := 5) (k' := 6) (d := 31) rfl rfl ⟨_, _, _, rfl, rfl, rfl, rfl⟩ rfl rfl ?_
    refine wl_no (k := 6) (k' := 7) (d := 32) rfl rfl ⟨_, _, _, rfl, rfl, rfl, rfl⟩ rfl rfl ?_
    refine wl_op (k := 7) (k' := 8) rfl rfl rfl (wo_run rfl rfl (run_pickT rfl rfl rfl) ?_)
    refine wl_op (k := 8) (k' := 9) rfl rfl rfl (wo_run rfl rfl (run_move rfl rfl) ?_)
    refine wl_no (k := 9) (k' := 10) (d := 35) rfl rfl ⟨_, _, _, rfl, rfl, rfl, rfl⟩ rfl rfl ?_
    refine wl_no (k := 10) (k' := 11) (d := 36) rfl rfl ⟨_, _, _, rfl, rfl, rfl, rfl⟩ rfl rfl ?_
    refine wl_op (k := 11) (k' := 12) rfl rfl rfl (wo_run rfl rfl (run_pickT rfl rfl rfl) ?_)
    refine wl_op (k := 12) (k' := 13) rfl rfl rfl (wo_run rfl rfl (run_move rfl rfl) ?_)
    refine wl_no (k := 13) (k' := 14) (d := 39) rfl rfl ⟨_, _, _, rfl, rfl, rfl, rfl⟩ rfl rfl ?_
    refine wl_no (k := 14) (k' := 15) (d := 40) rfl rfl ⟨_, _, _, rfl, rfl, rfl, rfl⟩ rfl rfl ?_
    refine wl_no (k := 15) (k' := 16) (d := 41) rfl rfl ⟨_, _, _, rfl, rfl, rfl, rfl⟩ rfl rfl ?_
    refine wl_no (k := 16) (k' := 17) (d := 42) rfl rfl ⟨_, _, _, rfl, rfl, rfl, rfl⟩ rfl rfl ?_
    refine wl_op (k := 17) (k' := 18) rfl rfl rfl (wo_run rfl rfl (run_pickT rfl rfl rfl) ?_)
    refine wl_end rfl ?_
    refine nm_sub [(1, _), (3, _), (4, _), (6, _), (8, _), (10, _), (11, _), (43, _)] ⟨rfl, rfl, rfl, rfl, rfl, rfl, rfl, rfl, trivial⟩ ?_
    refine nm_thn ?_
    refine ws_condTN SumOf_n9 rfl rfl rfl ?_
    refine ws_seqN SumOf_n11 SumOf_n12 rfl rfl rfl ?_
    refine ws_region rfl ?_
    refine wl_op (k := 0) (k' := 1) rfl rfl rfl (wo_run rfl rfl (run_build (l := [_, _]) rfl rfl st27 rfl rfl) ?_)
    refine wl_op (k := 1) (k' := 2) rfl rfl rfl (wo_storeB (i := 0) (us := [_, _]) (l' := [_, _]) (H' := [_, _, _]) rfl rfl S12 rfl rfl rfl rfl sz27 rfl rfl rfl rfl ?_)
    intro w13 S13; clear S12
    refine wl_op (k := 2) (k' := 3) rfl rfl rfl (wo_run rfl rfl (run_assign rfl rfl) ?_)
    refine wl_end rfl ?_
    refine nm_sub [(8, _), (9, _)] ⟨rfl, rfl, trivial⟩ ?_
    refine nm_thn ?_
    refine ws_ret hC [_, _] rfl rfl ⟨⟨_, rfl, loadVarN (us := [_, _]) Try.underlying27 rfl sz27 (S13.boxcs (i := 0) rfl ⟨rfl, rfl, trivial⟩)⟩, rfl, trivial⟩ ?_
    refine ⟨_, rfl, _, Hp.le_refl _, (S13.pick [] [] (by decide) trivial), ?_⟩
    unfold sumR
    rw [if_pos (by omega)]
    exact ⟨none, 0, rfl, RdA.nil_⟩
  · have hg28 := of_decide_eq_false hg28
    refine wl_opG (k := 3) (k' := 4) rfl rfl ⟨_, _, _, rfl, rfl, rfl, rfl⟩ rfl (wo_run rfl rfl (run_move rfl rfl) ?_)
    refine wl_opG (k := 4) (k' := 5) rfl rfl ⟨_, _, _, rfl, rfl, rfl, rfl⟩ rfl (wo_run rfl rfl (run_move rfl rfl) ?_)
    refine wl_opG (k := 5) (k' := 6) rfl rfl ⟨_, _, _, rfl, rfl, rfl, rfl⟩ rfl (wo_run rfl rfl (run_mul rfl rfl rfl (by first | omega | (simp only [List.length_set, List.length_append, List.length_replicate, List.length_singleton, List.length_cons, List.length_nil]; omega))) ?_)
    refine wl_opG (k := 6) (k' := 7) rfl rfl ⟨_, _, _, rfl, rfl, rfl, rfl⟩ rfl (wo_run rfl rfl (run_gtr rfl rfl rfl) ?_)
    refine wl_op (k := 7) (k' := 8) rfl rfl rfl (wo_run rfl rfl (run_pickF rfl rfl rfl) ?_)
    refine wl_op (k := 8) (k' := 9) rfl rfl rfl (wo_run rfl rfl (run_move rfl rfl) ?_)
    refine wl_split (t := 34) rfl (fun hg34 => ?_) (fun hg34 => ?_)
    · have hg34 := of_decide_eq_true hg34
      refine wl_no (k := 9) (k' := 10) (d := 35) rfl rfl ⟨_, _, _, rfl, rfl, rfl, rfl⟩ rfl rfl ?_
      refine wl_no (k := 10) (k' := 11) (d := 36) rfl rfl ⟨_, _, _, rfl, rfl, rfl, rfl⟩ rfl rfl ?_
      refine wl_op (k := 11) (k' := 12) rfl rfl rfl (wo_run rfl rfl (run_pickT rfl rfl rfl) ?_)
      refine wl_op (k := 12) (k' := 13) rfl rfl rfl (wo_run rfl rfl (run_move rfl rfl) ?_)
      refine wl_no (k := 13) (k' := 14) (d := 39) rfl rfl ⟨_, _, _, rfl, rfl, rfl, rfl⟩ rfl rfl ?_
      refine wl_no (k := 14) (k' := 15) (d := 40) rfl rfl ⟨_, _, _, rfl, rfl, rfl, rfl⟩ rfl rfl ?_
      refine wl_no (k := 15) (k' := 16) (d := 41) rfl rfl ⟨_, _, _, rfl, rfl, rfl, rfl⟩ rfl rfl ?_
      refine wl_no (k := 16) (k' := 17) (d := 42) rfl rfl ⟨_, _, _, rfl, rfl, rfl, rfl⟩ rfl rfl ?_
      refine wl_op (k := 17) (k' := 18) rfl rfl rfl (wo_run rfl rfl (run_pickT rfl rfl rfl) ?_)
      refine wl_end rfl ?_
      refine nm_sub [(1, _), (3, _), (4, _), (6, _), (8, _), (10, _), (11, _), (43, _)] ⟨rfl, rfl, rfl, rfl, rfl, rfl, rfl, rfl, trivial⟩ ?_
      refine nm_thn ?_
      refine ws_condTN SumOf_n9 rfl rfl rfl ?_
      refine ws_seqN SumOf_n11 SumOf_n12 rfl rfl rfl ?_
      refine ws_region rfl ?_
      refine wl_op (k := 0) (k' := 1) rfl rfl rfl (wo_run rfl rfl (run_build (l := [_, _]) rfl rfl st27 rfl rfl) ?_)
      refine wl_op (k := 1) (k' := 2) rfl rfl rfl (wo_storeB (i := 0) (us := [_, _]) (l' := [_, _]) (H' := [_, _, _]) rfl rfl S12 rfl rfl rfl rfl sz27 rfl rfl rfl rfl ?_)
      intro w14 S14; clear S12
      refine wl_op (k := 2) (k' := 3) rfl rfl rfl (wo_run rfl rfl (run_assign rfl rfl) ?_)
      refine wl_end rfl ?_
      refine nm_sub [(8, _), (9, _)] ⟨rfl, rfl, trivial⟩ ?_
      refine nm_thn ?_
      refine ws_ret hC [_, _] rfl rfl ⟨⟨_, rfl, loadVarN (us := [_, _]) Try.underlying27 rfl sz27 (S14.boxcs (i := 0) rfl ⟨rfl, rfl, trivial⟩)⟩, rfl, trivial⟩ ?_
      refine ⟨_, rfl, _, Hp.le_refl _, (S14.pick [] [] (by decide) trivial), ?_⟩
      unfold sumR
      rw [if_pos (by omega)]
      exact ⟨none, 0, rfl, RdA.nil_⟩
    · have hg34 := of_decide_eq_false hg34
      refine wl_opG (k := 9) (k' := 10) rfl rfl ⟨_, _, _, rfl, rfl, rfl, rfl⟩ rfl (wo_run rfl rfl (run_move rfl rfl) ?_)
      refine wl_opG (k := 10) (k' := 11) rfl rfl ⟨_, _, _, rfl, rfl, rfl, rfl⟩ rfl (wo_run rfl rfl (run_lss rfl rfl rfl) ?_)
      refine wl_op (k := 11) (k' := 12) rfl rfl rfl (wo_run rfl rfl (run_pickF rfl rfl rfl) ?_)
      refine wl_op (k := 12) (k' := 13) rfl rfl rfl (wo_run rfl rfl (run_move rfl rfl) ?_)
      refine wl_split (t := 38) rfl (fun hg38 => ?_) (fun hg38 => ?_)
      · have hg38 := of_decide_eq_true hg38
        refine wl_no (k := 13) (k' := 14) (d := 39) rfl rfl ⟨_, _, _, rfl, rfl, rfl, rfl⟩ rfl rfl ?_
        refine wl_no (k := 14) (k' := 15) (d := 40) rfl rfl ⟨_, _, _, rfl, rfl, rfl, rfl⟩ rfl rfl ?_
        refine wl_no (k := 15) (k' := 16) (d := 41) rfl rfl ⟨_, _, _, rfl, rfl, rfl, rfl⟩ rfl rfl ?_
        refine wl_no (k := 16) (k' := 17) (d := 42) rfl rfl ⟨_, _, _, rfl, rfl, rfl, rfl⟩ rfl rfl ?_
        refine wl_op (k := 17) (k' := 18) rfl rfl rfl (wo_run rfl rfl (run_pickT rfl rfl rfl) ?_)
        refine wl_end rfl ?_
        refine nm_sub [(1, _), (3, _), (4, _), (6, _), (8, _), (10, _), (11, _), (43, _)] ⟨rfl, rfl, rfl, rfl, rfl, rfl, rfl, rfl, trivial⟩ ?_
        refine nm_thn ?_
        refine ws_condTN SumOf_n9 rfl rfl rfl ?_
        refine ws_seqN SumOf_n11 SumOf_n12 rfl rfl rfl ?_
        refine ws_region rfl ?_
        refine wl_op (k := 0) (k' := 1) rfl rfl rfl (wo_run rfl rfl (run_build (l := [_, _]) rfl rfl st27 rfl rfl) ?_)
        refine wl_op (k := 1) (k' := 2) rfl rfl rfl (wo_storeB (i := 0) (us := [_, _]) (l' := [_, _]) (H' := [_, _, _]) rfl rfl S12 rfl rfl rfl rfl sz27 rfl rfl rfl rfl ?_)
        intro w15 S15; clear S12
        refine wl_op (k := 2) (k' := 3) rfl rfl rfl (wo_run rfl rfl (run_assign rfl rfl) ?_)
        refine wl_end rfl ?_
        refine nm_sub [(8, _), (9, _)] ⟨rfl, rfl, trivial⟩ ?_
        refine nm_thn ?_
        refine ws_ret hC [_, _] rfl rfl ⟨⟨_, rfl, loadVarN (us := [_, _]) Try.underlying27 rfl sz27 (S15.boxcs (i := 0) rfl ⟨rfl, rfl, trivial⟩)⟩, rfl, trivial⟩ ?_
        refine ⟨_, rfl, _, Hp.le_refl _, (S15.pick [] [] (by decide) trivial), ?_⟩
        unfold sumR
        rw [if_pos (by omega)]
        exact ⟨none, 0, rfl, RdA.nil_⟩
      · have hg38 := of_decide_eq_false hg38
        refine wl_opG (k := 13) (k' := 14) rfl rfl ⟨_, _, _, rfl, rfl, rfl, rfl⟩ rfl (wo_run rfl rfl (run_move rfl rfl) ?_)
        refine wl_opG (k := 14) (k' := 15) rfl rfl ⟨_, _, _, rfl, rfl, rfl, rfl⟩ rfl (wo_run rfl rfl (run_move rfl rfl) ?_)
        refine wl_opG (k := 15) (k' := 16) rfl rfl ⟨_, _, _, rfl, rfl, rfl, rfl⟩ rfl (wo_run rfl rfl (run_mul rfl rfl rfl (by first | omega | (simp only [List.length_set, List.length_append, List.length_replicate, List.length_singleton, List.length_cons, List.length_nil]; omega))) ?_)
        refine wl_opG (k := 16) (k' := 17) rfl rfl ⟨_, _, _, rfl, rfl, rfl, rfl⟩ rfl (wo_run rfl rfl (run_gtr rfl rfl rfl) ?_)
        refine wl_op (k := 17) (k' := 18) rfl rfl rfl (wo_run rfl rfl (run_pickF rfl rfl rfl) ?_)
        refine wl_end rfl ?_
        refine nm_sub [(1, _), (3, _), (4, _), (6, _), (8, _), (10, _), (11, _), (43, _)] ⟨rfl, rfl, rfl, rfl, rfl, rfl, rfl, rfl, trivial⟩ ?_
        refine nm_thn ?_
        refine ws_condN SumOf_n9 SumOf_n10 rfl rfl rfl rfl (fun hb43 => ?_) (fun hb43 => ?_)
        · have hb43 := of_decide_eq_true hb43
          refine ws_seqN SumOf_n11 SumOf_n12 rfl rfl rfl ?_
          refine ws_region rfl ?_
          refine wl_op (k := 0) (k' := 1) rfl rfl rfl (wo_run rfl rfl (run_build (l := [_, _]) rfl rfl st27 rfl rfl) ?_)
          refine wl_op (k := 1) (k' := 2) rfl rfl rfl (wo_storeB (i := 0) (us := [_, _]) (l' := [_, _]) (H' := [_, _, _]) rfl rfl S12 rfl rfl rfl rfl sz27 rfl rfl rfl rfl ?_)
          intro w16 S16; clear S12
          refine wl_op (k := 2) (k' := 3) rfl rfl rfl (wo_run rfl rfl (run_assign rfl rfl) ?_)
          refine wl_end rfl ?_
          refine nm_sub [(8, _), (9, _)] ⟨rfl, rfl, trivial⟩ ?_
          refine nm_thn ?_
          refine ws_ret hC [_, _] rfl rfl ⟨⟨_, rfl, loadVarN (us := [_, _]) Try.underlying27 rfl sz27 (S16.boxcs (i := 0) rfl ⟨rfl, rfl, trivial⟩)⟩, rfl, trivial⟩ ?_
          refine ⟨_, rfl, _, Hp.le_refl _, (S16.pick [] [] (by decide) trivial), ?_⟩
          unfold sumR
          rw [if_pos (by omega)]
          exact ⟨none, 0, rfl, RdA.nil_⟩
        · have hb43 := of_decide_eq_false hb43
          refine ws_skip rfl ?_
          refine nm_sub [(1, _), (3, _), (4, _), (6, _), (8, _), (10, _), (11, _)] ⟨rfl, rfl, rfl, rfl, rfl, rfl, rfl, trivial⟩ ?_
          refine nm_thn ?_
          refine ws_seqN SumOf_n13 SumOf_n14 rfl rfl rfl ?_
          refine ws_seqN SumOf_n15 SumOf_n16 rfl rfl rfl ?_
          refine ws_region rfl ?_
          obtain ⟨xn, rfl⟩ : ∃ n : Nat, x = (n : Int) := ⟨x.toNat, by omega⟩
          obtain ⟨yn, rfl⟩ : ∃ n : Nat, y = (n : Int) := ⟨y.toNat, by omega⟩
          refine wl_op (k := 0) (k' := 1) rfl rfl rfl (wo_run rfl rfl (run_move rfl rfl) ?_)
          refine wl_op (k := 1) (k' := 2) rfl rfl rfl (wo_run rfl rfl (run_move rfl rfl) ?_)
          refine wl_op (k := 2) (k' := 3) rfl rfl rfl (wo_run rfl rfl (run_add rfl rfl rfl (by first | omega | (simp only [List.length_set, List.length_append, List.length_replicate, List.length_singleton, List.length_cons, List.length_nil]; omega))) ?_)
          refine wl_op (k := 3) (k' := 4) rfl rfl rfl (wo_run rfl rfl (run_gtr rfl rfl rfl) ?_)
          refine wl_op (k := 4) (k' := 5) rfl rfl rfl (wo_run rfl rfl (run_move rfl rfl) ?_)
          refine wl_split (t := 49) rfl (fun hg49 => ?_) (fun hg49 => ?_)
          · have hg49 := of_decide_eq_true hg49
            refine wl_no (k := 5) (k' := 6) (d := 50) rfl rfl ⟨_, _, _, rfl, rfl, rfl, rfl⟩ rfl rfl ?_
            refine wl_no (k := 6) (k' := 7) (d := 51) rfl rfl ⟨_, _, _, rfl, rfl, rfl, rfl⟩ rfl rfl ?_
            refine wl_no (k := 7) (k' := 8) (d := 52) rfl rfl ⟨_, _, _, rfl, rfl, rfl, rfl⟩ rfl rfl ?_
            refine wl_no (k := 8) (k' := 9) (d := 53) rfl rfl ⟨_, _, _, rfl, rfl, rfl, rfl⟩ rfl rfl ?_
            refine wl_no (k := 9) (k' := 10) (d := 54) rfl rfl ⟨_, _, _, rfl, rfl, rfl, rfl⟩ rfl rfl ?_
            refine wl_no (k := 10) (k' := 11) (d := 55) rfl rfl ⟨_, _, _, rfl, rfl, rfl, rfl⟩ rfl rfl ?_
            refine wl_op (k := 11) (k' := 12) rfl rfl rfl (wo_run rfl rfl (run_pickT rfl rfl rfl) ?_)
            refine wl_end rfl ?_
            refine nm_sub [(1, _), (3, _), (4, _), (6, _), (8, _), (10, _), (11, _), (56, _)] ⟨rfl, rfl, rfl, rfl, rfl, rfl, rfl, rfl, trivial⟩ ?_
            refine nm_thn ?_
            refine ws_condTN SumOf_n17 rfl rfl rfl ?_
            refine ws_seqN SumOf_n19 SumOf_n20 rfl rfl rfl ?_
            refine ws_region rfl ?_
            refine wl_op (k := 0) (k' := 1) rfl rfl rfl (wo_run rfl rfl (run_build (l := [_, _]) rfl rfl st27 rfl rfl) ?_)
            refine wl_op (k := 1) (k' := 2) rfl rfl rfl (wo_storeB (i := 0) (us := [_, _]) (l' := [_, _]) (H' := [_, _, _]) rfl rfl S12 rfl rfl rfl rfl sz27 rfl rfl rfl rfl ?_)
            intro w17 S17; clear S12
            refine wl_op (k := 2) (k' := 3) rfl rfl rfl (wo_run rfl rfl (run_assign rfl rfl) ?_)
            refine wl_end rfl ?_
            refine nm_sub [(8, _), (9, _)] ⟨rfl, rfl, trivial⟩ ?_
            refine nm_thn ?_
            refine ws_ret hC [_, _] rfl rfl ⟨⟨_, rfl, loadVarN (us := [_, _]) Try.underlying27 rfl sz27 (S17.boxcs (i := 0) rfl ⟨rfl, rfl, trivial⟩)⟩, rfl, trivial⟩ ?_
            refine ⟨_, rfl, _, Hp.le_refl _, (S17.pick [] [] (by decide) trivial), ?_⟩
            unfold sumR
            rw [if_neg (by omega), if_pos (by omega)]
            exact ⟨none, 0, rfl, RdA.nil_⟩
          · have hg49 := of_decide_eq_false hg49
            refine wl_opG (k := 5) (k' := 6) rfl rfl ⟨_, _, _, rfl, rfl, rfl, rfl⟩ rfl (wo_run rfl rfl (run_fieldAddr rfl rfl Try.underlying27 rfl (ce3) (nf3)) ?_)
            refine wl_opG (k := 6) (k' := 7) rfl rfl ⟨_, _, _, rfl, rfl, rfl, rfl⟩ rfl (wo_run rfl rfl (run_load1 rfl rfl Try.underlying3 rfl (S12.boxc (i := 2) rfl rfl)) ?_)
            refine wl_opG (k := 7) (k' := 8) rfl rfl ⟨_, _, _, rfl, rfl, rfl, rfl⟩ rfl (wo_run rfl rfl (run_fieldAddr rfl rfl Try.underlying27 rfl (ce3) (nf3)) ?_)
            refine wl_opG (k := 8) (k' := 9) rfl rfl ⟨_, _, _, rfl, rfl, rfl, rfl⟩ rfl (wo_run rfl rfl (run_load1 rfl rfl Try.underlying3 rfl (S12.boxc (i := 1) rfl rfl)) ?_)
            refine wl_opG (k := 9) (k' := 10) rfl rfl ⟨_, _, _, rfl, rfl, rfl, rfl⟩ rfl (wo_run rfl rfl (run_add rfl rfl rfl (by first | omega | (simp only [List.length_set, List.length_append, List.length_replicate, List.length_singleton, List.length_cons, List.length_nil]; omega))) ?_)
            refine wl_opG (k := 10) (k' := 11) rfl rfl ⟨_, _, _, rfl, rfl, rfl, rfl⟩ rfl (wo_run rfl rfl (run_gtr rfl rfl rfl) ?_)
            refine wl_op (k := 11) (k' := 12) rfl rfl rfl (wo_run rfl rfl (run_pickF rfl rfl rfl) ?_)
            refine wl_end rfl ?_
            refine nm_sub [(1, _), (3, _), (4, _), (6, _), (8, _), (10, _), (11, _), (56, _)] ⟨rfl, rfl, rfl, rfl, rfl, rfl, rfl, rfl, trivial⟩ ?_
            refine nm_thn ?_
            refine ws_condN SumOf_n17 SumOf_n18 rfl rfl rfl rfl (fun hb56 => ?_) (fun hb56 => ?_)
            · have hb56 := of_decide_eq_true hb56
              refine ws_seqN SumOf_n19 SumOf_n20 rfl rfl rfl ?_
              refine ws_region rfl ?_
              refine wl_op (k := 0) (k' := 1) rfl rfl rfl (wo_run rfl rfl (run_build (l := [_, _]) rfl rfl st27 rfl rfl) ?_)
              refine wl_op (k := 1) (k' := 2) rfl rfl rfl (wo_storeB (i := 0) (us := [_, _]) (l' := [_, _]) (H' := [_, _, _]) rfl rfl S12 rfl rfl rfl rfl sz27 rfl rfl rfl rfl ?_)
              intro w18 S18; clear S12
              refine wl_op (k := 2) (k' := 3) rfl rfl rfl (wo_run rfl rfl (run_assign rfl rfl) ?_)
              refine wl_end rfl ?_
              refine nm_sub [(8, _), (9, _)] ⟨rfl, rfl, trivial⟩ ?_
              refine nm_thn ?_
              refine ws_ret hC [_, _] rfl rfl ⟨⟨_, rfl, loadVarN (us := [_, _]) Try.underlying27 rfl sz27 (S18.boxcs (i := 0) rfl ⟨rfl, rfl, trivial⟩)⟩, rfl, trivial⟩ ?_
              refine ⟨_, rfl, _, Hp.le_refl _, (S18.pick [] [] (by decide) trivial), ?_⟩
              unfold sumR
              rw [if_neg (by omega), if_pos (by omega)]
              exact ⟨none, 0, rfl, RdA.nil_⟩
            · have hb56 := of_decide_eq_false hb56
              refine ws_skip rfl ?_
              refine nm_sub [(1, _), (3, _), (4, _), (6, _), (8, _), (10, _), (11, _)] ⟨rfl, rfl, rfl, rfl, rfl, rfl, rfl, trivial⟩ ?_
              refine nm_thn ?_
              refine ws_seqN SumOf_n21 SumOf_n22 rfl rfl rfl ?_
              refine ws_region rfl ?_
              refine wl_op (k := 0) (k' := 1) rfl rfl rfl (wo_run rfl rfl (run_fieldAddr rfl rfl Try.underlying27 rfl (ce3) (nf3)) ?_)
              refine wl_op (k := 1) (k' := 2) rfl rfl rfl (wo_run rfl rfl (run_load1 rfl rfl Try.underlying3 rfl (S12.boxc (i := 2) rfl rfl)) ?_)
              refine wl_op (k := 2) (k' := 3) rfl rfl rfl (wo_run rfl rfl (run_fieldAddr rfl rfl Try.underlying27 rfl (ce3) (nf3)) ?_)
              refine wl_op (k := 3) (k' := 4) rfl rfl rfl (wo_run rfl rfl (run_load1 rfl rfl Try.underlying3 rfl (S12.boxc (i := 1) rfl rfl)) ?_)
              refine wl_op (k := 4) (k' := 5) rfl rfl rfl (wo_run rfl rfl (run_add rfl rfl rfl (by first | omega | (simp only [List.length_set, List.length_append, List.length_replicate, List.length_singleton, List.length_cons, List.length_nil]; omega))) ?_)
              refine wl_op (k := 5) (k' := 6) rfl rfl rfl (wo_run rfl rfl (run_build (l := [_, _]) rfl rfl st27 rfl rfl) ?_)
              refine wl_op (k := 6) (k' := 7) rfl rfl rfl (wo_alloc (l := [_, _]) rfl rfl rfl zr27 rfl S12 ?_)
              intro gb4 w19 S19; clear S12
              refine wl_op (k := 7) (k' := 8) rfl rfl rfl (wo_storeB (i := 0) (us := [_, _]) (l' := [_, _]) (H' := [_, _, _, _]) rfl rfl S19 rfl rfl rfl rfl sz27 rfl rfl rfl rfl ?_)
              intro w20 S20; clear S19
              refine wl_end rfl ?_
              refine nm_sub [(1, _), (3, _), (4, _), (6, _), (8, _), (10, _), (11, _), (12, _)] ⟨rfl, rfl, rfl, rfl, rfl, rfl, rfl, rfl, trivial⟩ ?_
              refine nm_thn ?_
              refine ws_seqN SumOf_n23 SumOf_n24 rfl rfl rfl ?_
              refine ws_seqN SumOf_n25 SumOf_n26 rfl rfl rfl ?_
              refine ws_region rfl ?_
              refine wl_op (k := 0) (k' := 1) rfl rfl rfl (wo_run rfl rfl (run_assign rfl rfl) ?_)
              refine wl_end rfl ?_
              refine nm_thn ?_
              refine ws_blockN SumOf_n27 0 rfl rfl rfl ?_
              have S21 := S20.nilrow cdCr; clear S20
              refine ws_loopE (fun mx_ ax_ wx_ => ∃ (i : Nat) (acc : List Cr) (vro : Value) (M9 : Hp), M.le M9 ∧ mx_ = a.crs.length + b.crs.length - i ∧ Env 151 [(1, .int .i64 (xn : Int)), (3, .int .i64 (yn : Int)), (4, .pointer (some ⟨gb1, 0, none⟩)), (6, .pointer (some ⟨gb2, 0, none⟩)), (8, .pointer (some ⟨gb3, 0, none⟩)), (10, .int .i64 (a.crs.length : Int)), (11, .int .i64 (b.crs.length : Int)), (12, .pointer (some ⟨gb4, 0, none⟩)), (13, .int .i64 (i : Int))] ax_ ∧ SH wx_ M9 X [Rs.row cdCr vro acc, Rs.box gb4 27 [vro, .int .i64 (a.loops + b.loops)], Rs.box gb3 27 [.slice none 0 0, .int .i64 0], Rs.box gb2 27 [.slice bcrsA b.crs.length bcrsc, .int .i64 b.loops], Rs.box gb1 27 [.slice acrsA a.crs.length acrsc, .int .i64 a.loops]] ∧ i ≤ a.crs.length + b.crs.length ∧ acc = (List.range i).map (refC a b xn yn)) rfl ?_ ?_
              · intro ax_ hax_
                refine ⟨_, ⟨0, _, _, _, Hp.le_refl _, rfl, hax_.sub ⟨rfl, rfl, rfl, rfl, rfl, rfl, rfl, rfl, rfl, trivial⟩, S21.pick [0, 1, 2, 3, 4] [_, _, _, _, _] (by decide) ⟨rfl, rfl, rfl, rfl, rfl, trivial⟩, ?hq1f0, ?hq1f1⟩⟩
                case hq1f0 => first | assumption | omega
                case hq1f1 => rfl
              · rintro m1 a1 w21 ⟨i, acc, vro, M9, hle9, rfl, he1, S22, hi, hacc⟩
                clear S21
                refine ws_in he1 (c := SumOf_n28) rfl ?_
                clear he1 a1
                replace hacrs := hacrs.mono (Hp.un_mono hle9 S22.mx)
                replace hbcrs := hbcrs.mono (Hp.un_mono hle9 S22.mx)
                have hal : acc.length = i := by rw [hacc]; simp
                refine ws_seqN SumOf_n29 SumOf_n30 rfl rfl rfl ?_
                refine ws_seqN SumOf_n31 SumOf_n32 rfl rfl rfl ?_
                refine ws_region rfl ?_
                refine wl_op (k := 0) (k' := 1) rfl rfl rfl (wo_run rfl rfl (run_move rfl rfl) ?_)
                refine wl_op (k := 1) (k' := 2) rfl rfl rfl (wo_run rfl rfl (run_move rfl rfl) ?_)
                refine wl_op (k := 2) (k' := 3) rfl rfl rfl (wo_run rfl rfl (run_move rfl rfl) ?_)
                refine wl_op (k := 3) (k' := 4) rfl rfl rfl (wo_run rfl rfl (run_add rfl rfl rfl (by first | omega | (simp only [List.length_set, List.length_append, List.length_replicate, List.length_singleton, List.length_cons, List.length_nil]; omega))) ?_)
                refine wl_op (k := 4) (k' := 5) rfl rfl rfl (wo_run rfl rfl (run_lss rfl rfl rfl) ?_)
                refine wl_end rfl ?_
                refine nm_sub [(1, _), (3, _), (4, _), (6, _), (8, _), (10, _), (11, _), (12, _), (13, _), (68, _)] ⟨rfl, rfl, rfl, rfl, rfl, rfl, rfl, rfl, rfl, rfl, trivial⟩ ?_
                refine nm_thn ?_
                refine ws_condN SumOf_n33 SumOf_n34 rfl rfl rfl rfl (fun hb68 => ?_) (fun hb68 => ?_)
                · have hb68 := of_decide_eq_true hb68
                  refine ws_skip rfl ?_
                  refine nm_sub [(1, _), (3, _), (4, _), (6, _), (8, _), (10, _), (11, _), (12, _), (13, _)] ⟨rfl, rfl, rfl, rfl, rfl, rfl, rfl, rfl, rfl, trivial⟩ ?_
                  refine nm_thn ?_
                  refine ws_seqN SumOf_n35 SumOf_n36 rfl rfl rfl ?_
                  refine ws_blockN SumOf_n37 1 rfl rfl rfl ?_
                  refine ws_seqN SumOf_n38 SumOf_n39 rfl rfl rfl ?_
                  refine ws_region rfl ?_
                  refine wl_op (k := 0) (k' := 1) rfl rfl rfl (wo_run rfl rfl (run_loadN (us := [_, _]) rfl rfl Try.underlying27 rfl sz27 (S22.boxcs (i := 4) rfl ⟨rfl, rfl, trivial⟩)) ?_)
                  refine wl_op (k := 1) (k' := 2) rfl rfl rfl (wo_run rfl rfl (run_move rfl rfl) ?_)
                  refine wl_op (k := 2) (k' := 3) rfl rfl rfl (wo_alloc (l := [_, _]) rfl rfl rfl zr27 rfl S22 ?_)
                  intro gb5 w22 S23; clear S22
                  refine wl_op (k := 3) (k' := 4) rfl rfl rfl (wo_storeB (i := 0) (us := [_, _]) (l' := [_, _]) (H' := [_, _, _, _, _, _]) rfl rfl S23 rfl rfl rfl rfl sz27 rfl rfl rfl rfl ?_)
                  intro w23 S24; clear S23
                  refine wl_op (k := 4) (k' := 5) rfl rfl rfl (wo_run rfl rfl (run_assign rfl rfl) ?_)
                  refine wl_op (k := 5) (k' := 6) rfl rfl rfl (wo_run rfl rfl (run_assign rfl rfl) ?_)
                  refine wl_end rfl ?_
                  refine nm_sub [(1, _), (3, _), (4, _), (6, _), (8, _), (10, _), (11, _), (12, _), (13, _), (14, _), (15, _), (16, _)] ⟨rfl, rfl, rfl, rfl, rfl, rfl, rfl, rfl, rfl, rfl, rfl, rfl, trivial⟩ ?_
                  refine nm_thn ?_
                  refine ws_seqN SumOf_n40 SumOf_n41 rfl rfl rfl ?_
                  refine ws_seqN SumOf_n42 SumOf_n43 rfl rfl rfl ?_
                  refine ws_region rfl ?_
                  refine wl_op (k := 0) (k' := 1) rfl rfl rfl (wo_run rfl rfl (run_move rfl rfl) ?_)
                  refine wl_op (k := 1) (k' := 2) rfl rfl rfl (wo_run rfl rfl (run_move rfl rfl) ?_)
                  refine wl_op (k := 2) (k' := 3) rfl rfl rfl (wo_run rfl rfl (run_geq rfl rfl rfl) ?_)
                  refine wl_end rfl ?_
                  refine nm_sub [(1, _), (3, _), (4, _), (6, _), (8, _), (10, _), (11, _), (12, _), (13, _), (14, _), (15, _), (16, _), (75, _)] ⟨rfl, rfl, rfl, rfl, rfl, rfl, rfl, rfl, rfl, rfl, rfl, rfl, rfl, trivial⟩ ?_
                  refine nm_thn ?_
                  refine ws_condN SumOf_n44 SumOf_n45 rfl rfl rfl rfl (fun hb75 => ?_) (fun hb75 => ?_)
                  · have hb75 := of_decide_eq_true hb75
                    refine ws_region rfl ?_
                    refine wl_op (k := 0) (k' := 1) rfl rfl rfl (wo_run rfl rfl (run_loadN (us := [_, _]) rfl rfl Try.underlying27 rfl sz27 (S24.boxcs (i := 4) rfl ⟨rfl, rfl, trivial⟩)) ?_)
                    refine wl_op (k := 1) (k' := 2) rfl rfl rfl (wo_run rfl rfl (run_move rfl rfl) ?_)
                    refine wl_op (k := 2) (k' := 3) rfl rfl rfl (wo_run rfl rfl (run_move rfl rfl) ?_)
                    refine wl_op (k := 3) (k' := 4) rfl rfl rfl (wo_run rfl rfl (run_sub rfl rfl rfl (by first | omega | (simp only [List.length_set, List.length_append, List.length_replicate, List.length_singleton, List.length_cons, List.length_nil]; omega))) ?_)
                    refine wl_op (k := 4) (k' := 5) rfl rfl rfl (wo_run rfl rfl (run_move rfl rfl) ?_)
                    refine wl_op (k := 5) (k' := 6) rfl rfl rfl (wo_run rfl rfl (run_mul rfl rfl rfl (by first | omega | (simp only [List.length_set, List.length_append, List.length_replicate, List.length_singleton, List.length_cons, List.length_nil]; omega))) ?_)
                    refine wl_op (k := 6) (k' := 7) rfl rfl rfl (wo_storeB (i := 0) (us := [_, _]) (l' := [_, _]) (H' := [_, _, _, _, _, _]) rfl rfl S24 rfl rfl rfl rfl sz27 rfl rfl rfl rfl ?_)
                    intro w24 S25; clear S24
                    refine wl_op (k := 7) (k' := 8) rfl rfl rfl (wo_run rfl rfl (run_assign rfl rfl) ?_)
                    refine wl_op (k := 8) (k' := 9) rfl rfl rfl (wo_run rfl rfl (run_assign rfl rfl) ?_)
                    refine wl_end rfl ?_
                    refine nm_sub [(1, _), (3, _), (4, _), (6, _), (8, _), (10, _), (11, _), (12, _), (13, _), (14, _), (15, _), (16, _)] ⟨rfl, rfl, rfl, rfl, rfl, rfl, rfl, rfl, rfl, rfl, rfl, rfl, trivial⟩ ?_
                    refine nm_thn ?_
                    refine ws_seqN SumOf_n46 SumOf_n47 rfl rfl rfl ?_
                    refine ws_region rfl ?_
                    refine wl_eq 15 (.int .i64 ((i - a.crs.length : Nat) : Int)) rfl (int_eq (by omega)) ?_
                    refine wl_op (k := 0) (k' := 1) rfl rfl rfl (wo_run rfl rfl (run_assign rfl rfl) ?_)
                    refine wl_end rfl ?_
                    refine nm_sub [(1, _), (3, _), (4, _), (6, _), (8, _), (10, _), (11, _), (12, _), (13, _), (14, _), (15, _), (16, _), (17, _)] ⟨rfl, rfl, rfl, rfl, rfl, rfl, rfl, rfl, rfl, rfl, rfl, rfl, rfl, trivial⟩ ?_
                    refine nm_thn ?_
                    refine ws_seqN SumOf_n48 SumOf_n49 rfl rfl rfl ?_
                    refine ws_seqN SumOf_n50 SumOf_n51 rfl rfl rfl ?_
                    refine ws_region rfl ?_
                    refine wl_op (k := 0) (k' := 1) rfl rfl rfl (wo_run rfl rfl (run_assign rfl rfl) ?_)
                    refine wl_end rfl ?_
                    refine nm_thn ?_
                    refine ws_blockN SumOf_n52 2 rfl rfl rfl ?_
                    have S26 := S25.nilrow cdInt; clear S25
                    refine ws_loopE (fun mx_ ax_ wx_ => ∃ (q : Nat) (ls : List Int) (vrl : Value) (M10 : Hp), M9.le M10 ∧ mx_ = 4 - q ∧ Env 151 [(1, .int .i64 (xn : Int)), (3, .int .i64 (yn : Int)), (4, .pointer (some ⟨gb1, 0, none⟩)), (6, .pointer (some ⟨gb2, 0, none⟩)), (8, .pointer (some ⟨gb3, 0, none⟩)), (10, .int .i64 (a.crs.length : Int)), (11, .int .i64 (b.crs.length : Int)), (12, .pointer (some ⟨gb4, 0, none⟩)), (13, .int .i64 (i : Int)), (14, .pointer (some ⟨gb5, 0, none⟩)), (15, .int .i64 ((i - a.crs.length : Nat) : Int)), (16, .int .i64 (2 * (a.crs.length : Int))), (17, vrl), (18, .int .i64 (q : Int))] ax_ ∧ SH wx_ M10 X [Rs.row cdInt vrl ls, Rs.box gb5 27 [.slice bcrsA b.crs.length bcrsc, .int .i64 b.loops], Rs.row cdCr vro acc, Rs.box gb4 27 [vro, .int .i64 (a.loops + b.loops)], Rs.box gb3 27 [.slice none 0 0, .int .i64 0], Rs.box gb2 27 [.slice bcrsA b.crs.length bcrsc, .int .i64 b.loops], Rs.box gb1 27 [.slice acrsA a.crs.length acrsc, .int .i64 a.loops]] ∧ q ≤ 4 ∧ ls = (List.range q).map (refS b (i - a.crs.length) (2 * (a.crs.length : Int)) ((yn : Int) + 2 * (a.crs.length : Int)) (xn : Int))) rfl ?_ ?_
                    · intro ax_ hax_
                      refine ⟨_, ⟨0, _, _, _, Hp.le_refl _, rfl, hax_.sub ⟨rfl, rfl, rfl, rfl, rfl, rfl, rfl, rfl, rfl, rfl, rfl, rfl, rfl, rfl, trivial⟩, S26.pick [0, 1, 2, 3, 4, 5, 6] [_, _, _, _, _, _, _] (by decide) ⟨rfl, rfl, rfl, rfl, rfl, rfl, rfl, trivial⟩, ?hq2f0, ?hq2f1⟩⟩
                      case hq2f0 => first | assumption | omega
                      case hq2f1 => rfl
                    · rintro m2 a2 w25 ⟨q, ls, vrl, M10, hle10, rfl, he2, S27, hq, hls⟩
                      clear S26
                      refine ws_in he2 (c := SumOf_n53) rfl ?_
                      clear he2 a2
                      replace hacrs := hacrs.mono (Hp.un_mono hle10 S27.mx)
                      replace hbcrs := hbcrs.mono (Hp.un_mono hle10 S27.mx)
                      have hll : ls.length = q := by rw [hls]; simp
                      have hbd := arcAt_bd hb (i := i - a.crs.length) (k := q)
                      refine ws_seqN SumOf_n54 SumOf_n55 rfl rfl rfl ?_
                      refine ws_seqN SumOf_n56 SumOf_n57 rfl rfl rfl ?_
                      refine ws_region rfl ?_
                      refine wl_op (k := 0) (k' := 1) rfl rfl rfl (wo_run rfl rfl (run_move rfl rfl) ?_)
                      refine wl_op (k := 1) (k' := 2) rfl rfl rfl (wo_run rfl rfl (run_lss rfl rfl rfl) ?_)
                      refine wl_end rfl ?_
                      refine nm_sub [(1, _), (3, _), (4, _), (6, _), (8, _), (10, _), (11, _), (12, _), (13, _), (14, _), (15, _), (16, _), (17, _), (18, _), (83, _)] ⟨rfl, rfl, rfl, rfl, rfl, rfl, rfl, rfl, rfl, rfl, rfl, rfl, rfl, rfl, rfl, trivial⟩ ?_
                      refine nm_thn ?_
                      refine ws_condN SumOf_n58 SumOf_n59 rfl rfl rfl rfl (fun hb83 => ?_) (fun hb83 => ?_)
                      · have hb83 := of_decide_eq_true hb83
                        refine ws_skip rfl ?_
                        refine nm_sub [(1, _), (3, _), (4, _), (6, _), (8, _), (10, _), (11, _), (12, _), (13, _), (14, _), (15, _), (16, _), (17, _), (18, _)] ⟨rfl, rfl, rfl, rfl, rfl, rfl, rfl, rfl, rfl, rfl, rfl, rfl, rfl, rfl, trivial⟩ ?_
                        refine nm_thn ?_
                        refine ws_seqN SumOf_n60 SumOf_n61 rfl rfl rfl ?_
                        refine ws_blockN SumOf_n62 3 rfl rfl rfl ?_
                        refine ws_seqN SumOf_n63 SumOf_n64 rfl rfl rfl ?_
                        refine ws_region rfl ?_
                        refine wl_op (k := 0) (k' := 1) rfl rfl rfl (wo_run rfl rfl (run_loadN (us := [_, _]) rfl rfl Try.underlying27 rfl sz27 (S27.boxcs (i := 1) rfl ⟨rfl, rfl, trivial⟩)) ?_)
                        refine wl_op (k := 1) (k' := 2) rfl rfl rfl (wo_run rfl rfl (run_move rfl rfl) ?_)
                        refine wl_op (k := 2) (k' := 3) rfl rfl rfl (wo_run rfl rfl (run_move rfl rfl) ?_)
                        refine wl_op (k := 3) (k' := 4) rfl rfl rfl (wo_run rfl rfl (run_build (l := [_, _]) rfl rfl st88 rfl rfl) ?_)
                        refine wl_op (k := 4) (k' := 5) rfl rfl rfl (wo_cq rfl rfl rfl rfl rfl rfl rfl cf57 S27 (ArcAt_q b (i - a.crs.length) q (hbcrs.mono S27.un_XH) (by omega) (by omega) S27.lend) ?_)
                        rintro _ w26 S28 rfl; clear S27
                        refine wl_op (k := 5) (k' := 6) rfl rfl rfl (wo_run rfl rfl (run_move rfl rfl) ?_)
                        refine wl_op (k := 6) (k' := 7) rfl rfl rfl (wo_run rfl rfl (run_add rfl rfl rfl (by first | omega | (simp only [List.length_set, List.length_append, List.length_replicate, List.length_singleton, List.length_cons, List.length_nil]; omega))) ?_)
                        refine wl_op (k := 7) (k' := 8) rfl rfl rfl (wo_run rfl rfl (run_assign rfl rfl) ?_)
                        refine wl_end rfl ?_
                        refine nm_sub [(1, _), (3, _), (4, _), (6, _), (8, _), (10, _), (11, _), (12, _), (13, _), (14, _), (15, _), (16, _), (17, _), (18, _), (19, _)] ⟨rfl, rfl, rfl, rfl, rfl, rfl, rfl, rfl, rfl, rfl, rfl, rfl, rfl, rfl, rfl, trivial⟩ ?_
                        refine nm_thn ?_
                        refine ws_seqN SumOf_n65 SumOf_n66 rfl rfl rfl ?_
                        refine ws_seqN SumOf_n67 SumOf_n68 rfl rfl rfl ?_
                        refine ws_region rfl ?_
                        refine wl_op (k := 0) (k' := 1) rfl rfl rfl (wo_run rfl rfl (run_loadN (us := [_, _]) rfl rfl Try.underlying27 rfl sz27 (S28.boxcs (i := 1) rfl ⟨rfl, rfl, trivial⟩)) ?_)
                        refine wl_op (k := 1) (k' := 2) rfl rfl rfl (wo_run rfl rfl (run_move rfl rfl) ?_)
                        refine wl_op (k := 2) (k' := 3) rfl rfl rfl (wo_run rfl rfl (run_move rfl rfl) ?_)
                        refine wl_op (k := 3) (k' := 4) rfl rfl rfl (wo_run rfl rfl (run_build (l := [_, _]) rfl rfl st88 rfl rfl) ?_)
                        refine wl_op (k := 4) (k' := 5) rfl rfl rfl (wo_cq rfl rfl rfl rfl rfl rfl rfl cf58 S28 (Entry_q b (i - a.crs.length) q (hbcrs.mono S28.un_XH) (by omega) (by omega) S28.lend) ?_)
                        rintro _ w27 S29 rfl; clear S28
                        refine wl_end rfl ?_
                        refine nm_sub [(1, _), (3, _), (4, _), (6, _), (8, _), (10, _), (11, _), (12, _), (13, _), (14, _), (15, _), (16, _), (17, _), (18, _), (19, _), (97, _)] ⟨rfl, rfl, rfl, rfl, rfl, rfl, rfl, rfl, rfl, rfl, rfl, rfl, rfl, rfl, rfl, rfl, trivial⟩ ?_
                        refine nm_thn ?_
                        refine ws_condN SumOf_n69 SumOf_n70 rfl rfl rfl rfl (fun hb97 => ?_) (fun hb97 => ?_)
                        · refine ws_seqN SumOf_n71 SumOf_n72 rfl rfl rfl ?_
                          refine ws_region rfl ?_
                          refine wl_op (k := 0) (k' := 1) rfl rfl rfl (wo_run rfl rfl (run_move rfl rfl) ?_)
                          refine wl_op (k := 1) (k' := 2) rfl rfl rfl (wo_run rfl rfl (run_move rfl rfl) ?_)
                          refine wl_op (k := 2) (k' := 3) rfl rfl rfl (wo_run rfl rfl (run_lss rfl rfl rfl) ?_)
                          refine wl_op (k := 3) (k' := 4) rfl rfl rfl (wo_run rfl rfl (run_move rfl rfl) ?_)
                          refine wl_split (t := 101) rfl (fun hg101 => ?_) (fun hg101 => ?_)
                          · have hg101 := of_decide_eq_true hg101
                            exfalso; omega
                          · have hg101 := of_decide_eq_false hg101
                            refine wl_no (k := 4) (k' := 5) (d := 102) rfl rfl ⟨_, _, _, rfl, rfl, rfl, rfl⟩ rfl rfl ?_
                            refine wl_no (k := 5) (k' := 6) (d := 103) rfl rfl ⟨_, _, _, rfl, rfl, rfl, rfl⟩ rfl rfl ?_
                            refine wl_no (k := 6) (k' := 7) (d := 104) rfl rfl ⟨_, _, _, rfl, rfl, rfl, rfl⟩ rfl rfl ?_
                            refine wl_op (k := 7) (k' := 8) rfl rfl rfl (wo_run rfl rfl (run_pickF rfl rfl rfl) ?_)
                            refine wl_end rfl ?_
                            refine nm_sub [(1, _), (3, _), (4, _), (6, _), (8, _), (10, _), (11, _), (12, _), (13, _), (14, _), (15, _), (16, _), (17, _), (18, _), (19, _), (105, _)] ⟨rfl, rfl, rfl, rfl, rfl, rfl, rfl, rfl, rfl, rfl, rfl, rfl, rfl, rfl, rfl, rfl, trivial⟩ ?_
                            refine nm_thn ?_
                            refine ws_condFN SumOf_n74 rfl rfl rfl ?_
                            refine ws_seqN SumOf_n75 SumOf_n76 rfl rfl rfl ?_
                            refine ws_region rfl ?_
                            refine wl_op (k := 0) (k' := 1) rfl rfl rfl (wo_run rfl rfl (run_move rfl rfl) ?_)
                            refine wl_op (k := 1) (k' := 2) rfl rfl rfl (wo_run rfl rfl (run_move rfl rfl) ?_)
                            refine wl_op (k := 2) (k' := 3) rfl rfl rfl (wo_run rfl rfl (run_geq rfl rfl rfl) ?_)
                            refine wl_op (k := 3) (k' := 4) rfl rfl rfl (wo_run rfl rfl (run_move rfl rfl) ?_)
                            refine wl_split (t := 113) rfl (fun hg113 => ?_) (fun hg113 => ?_)
                            · have hg113 := of_decide_eq_true hg113
                              refine wl_opG (k := 4) (k' := 5) rfl rfl ⟨_, _, _, rfl, rfl, rfl, rfl⟩ rfl (wo_run rfl rfl (run_move rfl rfl) ?_)
                              refine wl_opG (k := 5) (k' := 6) rfl rfl ⟨_, _, _, rfl, rfl, rfl, rfl⟩ rfl (wo_run rfl rfl (run_move rfl rfl) ?_)
                              refine wl_opG (k := 6) (k' := 7) rfl rfl ⟨_, _, _, rfl, rfl, rfl, rfl⟩ rfl (wo_run rfl rfl (run_move rfl rfl) ?_)
                              refine wl_opG (k := 7) (k' := 8) rfl rfl ⟨_, _, _, rfl, rfl, rfl, rfl⟩ rfl (wo_run rfl rfl (run_mul rfl rfl rfl (by first | omega | (simp only [List.length_set, List.length_append, List.length_replicate, List.length_singleton, List.length_cons, List.length_nil]; omega))) ?_)
                              refine wl_opG (k := 8) (k' := 9) rfl rfl ⟨_, _, _, rfl, rfl, rfl, rfl⟩ rfl (wo_run rfl rfl (run_add rfl rfl rfl (by first | omega | (simp only [List.length_set, List.length_append, List.length_replicate, List.length_singleton, List.length_cons, List.length_nil]; omega))) ?_)
                              refine wl_opG (k := 9) (k' := 10) rfl rfl ⟨_, _, _, rfl, rfl, rfl, rfl⟩ rfl (wo_run rfl rfl (run_eql rfl rfl rfl) ?_)
                              refine wl_op (k := 10) (k' := 11) rfl rfl rfl (wo_run rfl rfl (run_pickT rfl rfl rfl) ?_)
                              refine wl_end rfl ?_
                              refine nm_sub [(1, _), (3, _), (4, _), (6, _), (8, _), (10, _), (11, _), (12, _), (13, _), (14, _), (15, _), (16, _), (17, _), (18, _), (19, _), (120, _)] ⟨rfl, rfl, rfl, rfl, rfl, rfl, rfl, rfl, rfl, rfl, rfl, rfl, rfl, rfl, rfl, rfl, trivial⟩ ?_
                              refine nm_thn ?_
                              refine ws_condN SumOf_n77 SumOf_n78 rfl rfl rfl rfl (fun hb120 => ?_) (fun hb120 => ?_)
                              · have hb120 := of_decide_eq_true hb120
                                refine ws_region rfl ?_
                                refine wl_op (k := 0) (k' := 1) rfl rfl rfl (wo_run rfl rfl (run_move rfl rfl) ?_)
                                refine wl_op (k := 1) (k' := 2) rfl rfl rfl (wo_run rfl rfl (run_assign rfl rfl) ?_)
                                refine wl_end rfl ?_
                                refine nm_sub [(1, _), (3, _), (4, _), (6, _), (8, _), (10, _), (11, _), (12, _), (13, _), (14, _), (15, _), (16, _), (17, _), (18, _), (19, _)] ⟨rfl, rfl, rfl, rfl, rfl, rfl, rfl, rfl, rfl, rfl, rfl, rfl, rfl, rfl, rfl, trivial⟩ ?_
                                refine nm_thn ?_
                                refine ws_region rfl ?_
                                refine wl_op (k := 0) (k' := 1) rfl rfl rfl (wo_run rfl rfl (run_move rfl rfl) ?_)
                                refine wl_op (k := 1) (k' := 2) rfl rfl rfl (wo_run rfl rfl (run_move rfl rfl) ?_)
                                refine wl_op (k := 2) (k' := 3) rfl rfl rfl (wo_buildSlice1 (C := cdInt) (l := [_]) rfl rfl rfl rfl sl44 rfl rfl rfl rfl S29 ?_)
                                intro gb6 w28 S30; clear S29
                                refine wl_op (k := 3) (k' := 4) rfl rfl rfl (wo_append1 (C := cdInt) (i := 1) (q := 0) (xn : Int) rfl rfl rfl rfl rfl rfl rfl rfl sl44 S30 rfl rfl rfl (by show (_ + 1) * 8 ≤ _; first | omega | (simp only [List.length_set, List.length_append, List.length_replicate, List.length_singleton, List.length_cons, List.length_nil]; omega)) ?_)
                                intro vrl1 w29 S31; clear S30
                                have S32 := S31.pick [1, 2, 3, 4, 5, 6, 7] [_, _, _, _, _, _, _] (by decide) ⟨rfl, rfl, rfl, rfl, rfl, rfl, rfl, trivial⟩; clear S31
                                refine wl_eq 15 (.int .i64 ((i - a.crs.length : Nat) : Int)) rfl (int_eq (by omega)) ?_
                                refine wl_op (k := 4) (k' := 5) rfl rfl rfl (wo_run rfl rfl (run_assign rfl rfl) ?_)
                                refine wl_end rfl ?_
                                refine nm_blk ?_
                                refine nm_sub [(1, _), (3, _), (4, _), (6, _), (8, _), (10, _), (11, _), (12, _), (13, _), (14, _), (15, _), (16, _), (17, _), (18, _)] ⟨rfl, rfl, rfl, rfl, rfl, rfl, rfl, rfl, rfl, rfl, rfl, rfl, rfl, rfl, trivial⟩ ?_
                                refine nm_thn ?_
                                refine ws_region rfl ?_
                                refine wl_op (k := 0) (k' := 1) rfl rfl rfl (wo_run rfl rfl (run_move rfl rfl) ?_)
                                refine wl_op (k := 1) (k' := 2) rfl rfl rfl (wo_run rfl rfl (run_add rfl rfl rfl (by first | omega | (simp only [List.length_set, List.length_append, List.length_replicate, List.length_singleton, List.length_cons, List.length_nil]; omega))) ?_)
                                refine wl_op (k := 2) (k' := 3) rfl rfl rfl (wo_run rfl rfl (run_assign rfl rfl) ?_)
                                refine wl_end rfl ?_
                                refine nm_lp ?_
                                intro ax_ hax_
                                refine ⟨_, ?hq3m, ⟨q + 1, _, _, _, (hle10), rfl, hax_.sub ⟨rfl, rfl, rfl, rfl, rfl, rfl, rfl, rfl, rfl, rfl, rfl, rfl, rfl, rfl, trivial⟩, S32.pick [0, 1, 2, 3, 4, 5, 6] [_, _, _, _, _, _, _] (by decide) ⟨rfl, rfl, rfl, rfl, rfl, rfl, rfl, trivial⟩, ?hq3f0, ?hq3f1⟩⟩
                                case hq3f0 => omega
                                case hq3f1 => rw [List.range_succ, List.map_append, ← hls]; refine congrArg (ls ++ ·) ?_; simp only [List.map_cons, List.map_nil]; refine congrArg (fun z => [z]) ?_; unfold refS; simp only [*, Bool.false_eq_true, false_and, true_and, and_self, if_true, if_false]
                                case hq3m => omega
                              · have hb120 := of_decide_eq_false hb120
                                refine ws_skip rfl ?_
                                refine nm_sub [(1, _), (3, _), (4, _), (6, _), (8, _), (10, _), (11, _), (12, _), (13, _), (14, _), (15, _), (16, _), (17, _), (18, _), (19, _)] ⟨rfl, rfl, rfl, rfl, rfl, rfl, rfl, rfl, rfl, rfl, rfl, rfl, rfl, rfl, rfl, trivial⟩ ?_
                                refine nm_thn ?_
                                refine ws_region rfl ?_
                                refine wl_op (k := 0) (k' := 1) rfl rfl rfl (wo_run rfl rfl (run_move rfl rfl) ?_)
                                refine wl_op (k := 1) (k' := 2) rfl rfl rfl (wo_run rfl rfl (run_move rfl rfl) ?_)
                                refine wl_op (k := 2) (k' := 3) rfl rfl rfl (wo_buildSlice1 (C := cdInt) (l := [_]) rfl rfl rfl rfl sl44 rfl rfl rfl rfl S29 ?_)
                                intro gb7 w30 S33; clear S29
                                refine wl_op (k := 3) (k' := 4) rfl rfl rfl (wo_append1 (C := cdInt) (i := 1) (q := 0) ((arcAt b (i - a.crs.length) q) + (2 * (a.crs.length : Int))) rfl rfl rfl rfl rfl rfl rfl rfl sl44 S33 rfl rfl rfl (by show (_ + 1) * 8 ≤ _; first | omega | (simp only [List.length_set, List.length_append, List.length_replicate, List.length_singleton, List.length_cons, List.length_nil]; omega)) ?_)
                                intro vrl2 w31 S34; clear S33
                                have S35 := S34.pick [1, 2, 3, 4, 5, 6, 7] [_, _, _, _, _, _, _] (by decide) ⟨rfl, rfl, rfl, rfl, rfl, rfl, rfl, trivial⟩; clear S34
                                refine wl_eq 15 (.int .i64 ((i - a.crs.length : Nat) : Int)) rfl (int_eq (by omega)) ?_
                                refine wl_op (k := 4) (k' := 5) rfl rfl rfl (wo_run rfl rfl (run_assign rfl rfl) ?_)
                                refine wl_end rfl ?_
                                refine nm_blk ?_
                                refine nm_sub [(1, _), (3, _), (4, _), (6, _), (8, _), (10, _), (11, _), (12, _), (13, _), (14, _), (15, _), (16, _), (17, _), (18, _)] ⟨rfl, rfl, rfl, rfl, rfl, rfl, rfl, rfl, rfl, rfl, rfl, rfl, rfl, rfl, trivial⟩ ?_
                                refine nm_thn ?_
                                refine ws_region rfl ?_
                                refine wl_op (k := 0) (k' := 1) rfl rfl rfl (wo_run rfl rfl (run_move rfl rfl) ?_)
                                refine wl_op (k := 1) (k' := 2) rfl rfl rfl (wo_run rfl rfl (run_add rfl rfl rfl (by first | omega | (simp only [List.length_set, List.length_append, List.length_replicate, List.length_singleton, List.length_cons, List.length_nil]; omega))) ?_)
                                refine wl_op (k := 2) (k' := 3) rfl rfl rfl (wo_run rfl rfl (run_assign rfl rfl) ?_)
                                refine wl_end rfl ?_
                                refine nm_lp ?_
                                intro ax_ hax_
                                refine ⟨_, ?hq4m, ⟨q + 1, _, _, _, (hle10), rfl, hax_.sub ⟨rfl, rfl, rfl, rfl, rfl, rfl, rfl, rfl, rfl, rfl, rfl, rfl, rfl, rfl, trivial⟩, S35.pick [0, 1, 2, 3, 4, 5, 6] [_, _, _, _, _, _, _] (by decide) ⟨rfl, rfl, rfl, rfl, rfl, rfl, rfl, trivial⟩, ?hq4f0, ?hq4f1⟩⟩
                                case hq4f0 => omega
                                case hq4f1 => rw [List.range_succ, List.map_append, ← hls]; refine congrArg (ls ++ ·) ?_; simp only [List.map_cons, List.map_nil]; refine congrArg (fun z => [z]) ?_; unfold refS; simp only [*, Bool.false_eq_true, false_and, true_and, and_self, if_true, if_false]
                                case hq4m => omega
                            · have hg113 := of_decide_eq_false hg113
                              exfalso; omega
                        · refine ws_skip rfl ?_
                          refine nm_sub [(1, _), (3, _), (4, _), (6, _), (8, _), (10, _), (11, _), (12, _), (13, _), (14, _), (15, _), (16, _), (17, _), (18, _), (19, _)] ⟨rfl, rfl, rfl, rfl, rfl, rfl, rfl, rfl, rfl, rfl, rfl, rfl, rfl, rfl, rfl, trivial⟩ ?_
                          refine nm_thn ?_
                          refine ws_region rfl ?_
                          refine wl_op (k := 0) (k' := 1) rfl rfl rfl (wo_run rfl rfl (run_move rfl rfl) ?_)
                          refine wl_op (k := 1) (k' := 2) rfl rfl rfl (wo_run rfl rfl (run_move rfl rfl) ?_)
                          refine wl_op (k := 2) (k' := 3) rfl rfl rfl (wo_buildSlice1 (C := cdInt) (l := [_]) rfl rfl rfl rfl sl44 rfl rfl rfl rfl S29 ?_)
                          intro gb8 w32 S36; clear S29
                          refine wl_op (k := 3) (k' := 4) rfl rfl rfl (wo_append1 (C := cdInt) (i := 1) (q := 0) ((arcAt b (i - a.crs.length) q) + (2 * (a.crs.length : Int))) rfl rfl rfl rfl rfl rfl rfl rfl sl44 S36 rfl rfl rfl (by show (_ + 1) * 8 ≤ _; first | omega | (simp only [List.length_set, List.length_append, List.length_replicate, List.length_singleton, List.length_cons, List.length_nil]; omega)) ?_)
                          intro vrl3 w33 S37; clear S36
                          have S38 := S37.pick [1, 2, 3, 4, 5, 6, 7] [_, _, _, _, _, _, _] (by decide) ⟨rfl, rfl, rfl, rfl, rfl, rfl, rfl, trivial⟩; clear S37
                          refine wl_eq 15 (.int .i64 ((i - a.crs.length : Nat) : Int)) rfl (int_eq (by omega)) ?_
                          refine wl_op (k := 4) (k' := 5) rfl rfl rfl (wo_run rfl rfl (run_assign rfl rfl) ?_)
                          refine wl_end rfl ?_
                          refine nm_blk ?_
                          refine nm_sub [(1, _), (3, _), (4, _), (6, _), (8, _), (10, _), (11, _), (12, _), (13, _), (14, _), (15, _), (16, _), (17, _), (18, _)] ⟨rfl, rfl, rfl, rfl, rfl, rfl, rfl, rfl, rfl, rfl, rfl, rfl, rfl, rfl, trivial⟩ ?_
                          refine nm_thn ?_
                          refine ws_region rfl ?_
                          refine wl_op (k := 0) (k' := 1) rfl rfl rfl (wo_run rfl rfl (run_move rfl rfl) ?_)
                          refine wl_op (k := 1) (k' := 2) rfl rfl rfl (wo_run rfl rfl (run_add rfl rfl rfl (by first | omega | (simp only [List.length_set, List.length_append, List.length_replicate, List.length_singleton, List.length_cons, List.length_nil]; omega))) ?_)
                          refine wl_op (k := 2) (k' := 3) rfl rfl rfl (wo_run rfl rfl (run_assign rfl rfl) ?_)
                          refine wl_end rfl ?_
                          refine nm_lp ?_
                          intro ax_ hax_
                          refine ⟨_, ?hq5m, ⟨q + 1, _, _, _, (hle10), rfl, hax_.sub ⟨rfl, rfl, rfl, rfl, rfl, rfl, rfl, rfl, rfl, rfl, rfl, rfl, rfl, rfl, trivial⟩, S38.pick [0, 1, 2, 3, 4, 5, 6] [_, _, _, _, _, _, _] (by decide) ⟨rfl, rfl, rfl, rfl, rfl, rfl, rfl, trivial⟩, ?hq5f0, ?hq5f1⟩⟩
                          case hq5f0 => omega
                          case hq5f1 => rw [List.range_succ, List.map_append, ← hls]; refine congrArg (ls ++ ·) ?_; simp only [List.map_cons, List.map_nil]; refine congrArg (fun z => [z]) ?_; unfold refS; simp only [*, Bool.false_eq_true, false_and, true_and, and_self, if_true, if_false]
                          case hq5m => omega
                      · have hb83 := of_decide_eq_false hb83
                        refine ws_exit rfl rfl ?_
                        refine nm_sub [(1, _), (3, _), (4, _), (6, _), (8, _), (10, _), (11, _), (12, _), (13, _), (14, _), (15, _), (17, _)] ⟨rfl, rfl, rfl, rfl, rfl, rfl, rfl, rfl, rfl, rfl, rfl, rfl, trivial⟩ ?_
                        refine nm_thn ?_
                        refine ws_draw rfl (by kernel_rfl) S27 25 rfl ?_
                        clear S27
                        refine wa_takeP (i := 0) (d := 126) 24 rfl (by kernel_rfl) (by kernel_rfl) (by kernel_rfl) rfl rfl rfl (fun w34 => run_fieldAddr rfl rfl Try.underlying27 rfl (ce25) (nf25)) ?_
                        refine wa_take (i := 1) (d := 127) 23 rfl (by kernel_rfl) (by kernel_rfl) (by kernel_rfl) rfl rfl rfl (fun M12 N10 w35 hle12 S40 => .inl (run_load1 rfl rfl Try.underlying25 rfl (S40.suf.boxc (i := 3) rfl rfl))) ?_
                        refine wa_takeP (i := 2) (d := 128) 22 rfl (by kernel_rfl) (by kernel_rfl) (by kernel_rfl) rfl rfl rfl (fun w36 => run_move rfl rfl) ?_
                        refine wa_take (i := 3) (d := 129) 21 rfl (by kernel_rfl) (by kernel_rfl) (by kernel_rfl) rfl rfl rfl (fun M14 N12 w37 hle14 S42 => .inl (run_indexR (C := cdInt) (i := 0) 0 rfl rfl rfl sl44 S42.suf rfl (by first | rfl | omega) (by first | omega | (simp only [List.length_set, List.length_append, List.length_replicate, List.length_singleton, List.length_cons, List.length_nil]; omega)))) ?_
                        refine wa_take (i := 4) (d := 130) 20 rfl (by kernel_rfl) (by kernel_rfl) (by kernel_rfl) rfl rfl rfl (fun M15 N13 w38 hle15 S43 => .inl (run_load1 rfl rfl Try.underlying3 rfl (S43.suf.rowc (i := 0) (e := 0) (j := 0) rfl (by first | omega | (simp only [List.length_set, List.length_append, List.length_replicate, List.length_singleton, List.length_cons, List.length_nil]; omega)) rfl rfl))) ?_
                        refine wa_takeP (i := 5) (d := 131) 19 rfl (by kernel_rfl) (by kernel_rfl) (by kernel_rfl) rfl rfl rfl (fun w39 => run_move rfl rfl) ?_
                        refine wa_take (i := 6) (d := 132) 18 rfl (by kernel_rfl) (by kernel_rfl) (by kernel_rfl) rfl rfl rfl (fun M17 N15 w40 hle17 S45 => .inl (run_indexR (C := cdInt) (i := 0) 1 rfl rfl rfl sl44 S45.suf rfl (by first | rfl | omega) (by first | omega | (simp only [List.length_set, List.length_append, List.length_replicate, List.length_singleton, List.length_cons, List.length_nil]; omega)))) ?_
                        refine wa_take (i := 7) (d := 133) 17 rfl (by kernel_rfl) (by kernel_rfl) (by kernel_rfl) rfl rfl rfl (fun M18 N16 w41 hle18 S46 => .inl (run_load1 rfl rfl Try.underlying3 rfl (S46.suf.rowc (i := 0) (e := 1) (j := 0) rfl (by first | omega | (simp only [List.length_set, List.length_append, List.length_replicate, List.length_singleton, List.length_cons, List.length_nil]; omega)) rfl rfl))) ?_
                        refine wa_takeP (i := 8) (d := 134) 16 rfl (by kernel_rfl) (by kernel_rfl) (by kernel_rfl) rfl rfl rfl (fun w42 => run_move rfl rfl) ?_
                        refine wa_take (i := 9) (d := 135) 15 rfl (by kernel_rfl) (by kernel_rfl) (by kernel_rfl) rfl rfl rfl (fun M20 N18 w43 hle20 S48 => .inl (run_indexR (C := cdInt) (i := 0) 2 rfl rfl rfl sl44 S48.suf rfl (by first | rfl | omega) (by first | omega | (simp only [List.length_set, List.length_append, List.length_replicate, List.length_singleton, List.length_cons, List.length_nil]; omega)))) ?_
                        refine wa_take (i := 10) (d := 136) 14 rfl (by kernel_rfl) (by kernel_rfl) (by kernel_rfl) rfl rfl rfl (fun M21 N19 w44 hle21 S49 => .inl (run_load1 rfl rfl Try.underlying3 rfl (S49.suf.rowc (i := 0) (e := 2) (j := 0) rfl (by first | omega | (simp only [List.length_set, List.length_append, List.length_replicate, List.length_singleton, List.length_cons, List.length_nil]; omega)) rfl rfl))) ?_
                        refine wa_takeP (i := 11) (d := 137) 13 rfl (by kernel_rfl) (by kernel_rfl) (by kernel_rfl) rfl rfl rfl (fun w45 => run_move rfl rfl) ?_
                        refine wa_take (i := 12) (d := 138) 12 rfl (by kernel_rfl) (by kernel_rfl) (by kernel_rfl) rfl rfl rfl (fun M23 N21 w46 hle23 S51 => .inl (run_indexR (C := cdInt) (i := 0) 3 rfl rfl rfl sl44 S51.suf rfl (by first | rfl | omega) (by first | omega | (simp only [List.length_set, List.length_append, List.length_replicate, List.length_singleton, List.length_cons, List.length_nil]; omega)))) ?_
                        refine wa_take (i := 13) (d := 139) 11 rfl (by kernel_rfl) (by kernel_rfl) (by kernel_rfl) rfl rfl rfl (fun M24 N22 w47 hle24 S52 => .inl (run_load1 rfl rfl Try.underlying3 rfl (S52.suf.rowc (i := 0) (e := 3) (j := 0) rfl (by first | omega | (simp only [List.length_set, List.length_append, List.length_replicate, List.length_singleton, List.length_cons, List.length_nil]; omega)) rfl rfl))) ?_
                        refine wa_takeP (i := 14) (d := 140) 10 rfl (by kernel_rfl) (by kernel_rfl) (by kernel_rfl) rfl rfl rfl (fun w48 => run_fieldAddr rfl rfl Try.underlying27 rfl (ce25) (nf25)) ?_
                        refine wa_take (i := 15) (d := 141) 9 rfl (by kernel_rfl) (by kernel_rfl) (by kernel_rfl) rfl rfl rfl (fun M26 N24 w49 hle26 S54 => .inl (run_load1 rfl rfl Try.underlying25 rfl (S54.suf.boxc (i := 1) rfl rfl))) ?_
                        refine wa_takeP (i := 16) (d := 142) 8 rfl (by kernel_rfl) (by kernel_rfl) (by kernel_rfl) rfl rfl rfl (fun w50 => run_move rfl rfl) ?_
                        refine wa_take (i := 17) (d := 143) 7 rfl (by kernel_rfl) (by kernel_rfl) (by kernel_rfl) rfl rfl rfl (fun M28 N26 w51 hle28 S56 => .inl (run_indexM (C := cdCr) (i - a.crs.length) rfl rfl rfl sl25 (by first | rfl | omega) (hbcrs.mono (Hp.un_mono hle28 S56.mx)) (by first | omega | (simp only [List.length_set, List.length_append, List.length_replicate, List.length_singleton, List.length_cons, List.length_nil]; omega)))) ?_
                        refine wa_takeP (i := 18) (d := 144) 6 rfl (by kernel_rfl) (by kernel_rfl) (by kernel_rfl) rfl rfl rfl (fun w52 => run_fieldAddr rfl rfl Try.underlying73 rfl (ce4) (nf4)) ?_
                        refine wa_take (i := 19) (d := 145) 5 rfl (by kernel_rfl) (by kernel_rfl) (by kernel_rfl) rfl rfl rfl (fun M30 N28 w53 hle30 S58 => .inl (run_load1 rfl rfl Try.underlying4 rfl ((hbcrs.mono (Hp.un_mono hle30 S58.mx)).cell S58.um (i := i - a.crs.length) (by first | omega | (simp only [List.length_set, List.length_append, List.length_replicate, List.length_singleton, List.length_cons, List.length_nil]; omega)) 4 rfl rfl))) ?_
                        refine wa_take (i := 20) (d := 146) 4 rfl (by kernel_rfl) (by kernel_rfl) (by kernel_rfl) rfl rfl rfl (fun M31 N29 w54 hle31 S59 => .inl (run_build (l := [_, _, _, _, _]) rfl rfl st73 rfl rfl)) ?_
                        refine wa_only (i := 21) 3 rfl (by kernel_rfl) rfl rfl (fun w56 S61 => ?_)
                        refine (wo_buildSlice1 (C := cdCr) (l := [_, _, _, _, _]) rfl rfl rfl rfl sl25 rfl rfl rfl rfl S61 ?_)
                        intro gb9 w57 S62; clear S61
                        refine LeftW.grow [_] (Hp.le_refl _) S62 ?_; clear S62
                        change WA _ _ _ _ _ _ _ _ _ _ _ _ [_, _, _, _, _, _, _, _]
                        refine wa_only (i := 22) 2 rfl (by kernel_rfl) rfl rfl (fun w59 S64 => ?_)
                        refine (wo_append1 (C := cdCr) (i := 3) (q := 0) (⟨ga ls 0, ga ls 1, ga ls 2, ga ls 3, (ga b.crs (i - a.crs.length)).plus⟩ : Cr) rfl rfl rfl rfl rfl rfl rfl rfl sl25 S64 rfl rfl rfl (by show (_ + 1) * 40 ≤ _; first | omega | (simp only [List.length_set, List.length_append, List.length_replicate, List.length_singleton, List.length_cons, List.length_nil]; omega)) ?_)
                        intro vro1 w60 S65; clear S64
                        have S66 := S65.pick [1, 2, 3, 4, 5, 6, 7] [_, _, _, _, _, _, _] (by decide) ⟨rfl, rfl, rfl, rfl, rfl, rfl, rfl, trivial⟩; clear S65
                        refine LeftW.turn (by kernel_rfl) S66 ?_; clear S66
                        change WA _ _ _ _ _ _ _ _ _ _ _ _ [_, _, _, _, _, _, _]
                        refine wa_takeP (i := 23) (d := 149) 1 rfl (by kernel_rfl) (by kernel_rfl) (by kernel_rfl) rfl rfl rfl (fun w61 => run_fieldAddr rfl rfl Try.underlying27 rfl (ce25) (nf25)) ?_
                        refine wa_only (i := 24) 0 rfl (by kernel_rfl) rfl rfl (fun w63 S69 => ?_)
                        refine (wo_storeB (i := 3) (us := [_]) (l' := [_, _]) (H' := [_, _, _, _, _, _, _]) rfl rfl S69 rfl rfl rfl (S69.cells1 (i := 2) rfl) sz25 rfl (ones_cons (S69.one (i := 2) rfl) rfl) rfl rfl ?_)
                        intro w64 S70; clear S69
                        refine LeftW.turn (by kernel_rfl) S70 ?_; clear S70
                        change WA _ _ _ _ _ _ _ _ _ _ _ _ [_, _, _, _, _, _, _]
                        refine wa_end (by kernel_rfl) (fun w65 S71 => ?_)
                        refine nm_blk ?_
                        refine nm_sub [(1, _), (3, _), (4, _), (6, _), (8, _), (10, _), (11, _), (12, _), (13, _)] ⟨rfl, rfl, rfl, rfl, rfl, rfl, rfl, rfl, rfl, trivial⟩ ?_
                        refine nm_thn ?_
                        refine ws_region rfl ?_
                        refine wl_op (k := 0) (k' := 1) rfl rfl rfl (wo_run rfl rfl (run_move rfl rfl) ?_)
                        refine wl_op (k := 1) (k' := 2) rfl rfl rfl (wo_run rfl rfl (run_add rfl rfl rfl (by first | omega | (simp only [List.length_set, List.length_append, List.length_replicate, List.length_singleton, List.length_cons, List.length_nil]; omega))) ?_)
                        refine wl_op (k := 2) (k' := 3) rfl rfl rfl (wo_run rfl rfl (run_assign rfl rfl) ?_)
                        refine wl_end rfl ?_
                        refine nm_lp ?_
                        have hq4 : ls = (List.range 4).map (refS b (i - a.crs.length) (2 * (a.crs.length : Int)) ((yn : Int) + 2 * (a.crs.length : Int)) (xn : Int)) := by rw [hls, show q = 4 by omega]
                        have hg : ∀ j, j < 4 → ga ls j = refS b (i - a.crs.length) (2 * (a.crs.length : Int)) ((yn : Int) + 2 * (a.crs.length : Int)) (xn : Int) j := fun j hj => by rw [hq4, ga_eq (by simpa using hj)]; simp
                        intro ax_ hax_
                        refine ⟨_, ?hq6m, ⟨i + 1, _, _, _, (hle9.trans hle10), rfl, hax_.sub ⟨rfl, rfl, rfl, rfl, rfl, rfl, rfl, rfl, rfl, trivial⟩, S71.pick [2, 3, 4, 5, 6] [_, _, _, _, _] (by decide) ⟨rfl, rfl, rfl, rfl, rfl, trivial⟩, ?hq6f0, ?hq6f1⟩⟩
                        case hq6f0 => first | assumption | omega
                        case hq6f1 => rw [List.range_succ, List.map_append, ← hacc]; refine congrArg (acc ++ ·) ?_; simp only [List.map_cons, List.map_nil]; refine congrArg (fun z => [z]) ?_; rw [hg 0 (by omega), hg 1 (by omega), hg 2 (by omega), hg 3 (by omega)]; unfold refC; first | (rw [if_pos (by omega)]; rfl) | (rw [if_neg (by omega)]; rfl)
                        case hq6m => omega
                  · have hb75 := of_decide_eq_false hb75
                    refine ws_skip rfl ?_
                    refine nm_sub [(1, _), (3, _), (4, _), (6, _), (8, _), (10, _), (11, _), (12, _), (13, _), (14, _), (15, _), (16, _)] ⟨rfl, rfl, rfl, rfl, rfl, rfl, rfl, rfl, rfl, rfl, rfl, rfl, trivial⟩ ?_
                    refine nm_thn ?_
                    refine ws_seqN SumOf_n46 SumOf_n47 rfl rfl rfl ?_
                    refine ws_region rfl ?_
                    refine wl_op (k := 0) (k' := 1) rfl rfl rfl (wo_run rfl rfl (run_assign rfl rfl) ?_)
                    refine wl_end rfl ?_
                    refine nm_thn ?_
                    refine ws_seqN SumOf_n48 SumOf_n49 rfl rfl rfl ?_
                    refine ws_seqN SumOf_n50 SumOf_n51 rfl rfl rfl ?_
                    refine ws_region rfl ?_
                    refine wl_op (k := 0) (k' := 1) rfl rfl rfl (wo_run rfl rfl (run_assign rfl rfl) ?_)
                    refine wl_end rfl ?_
                    refine nm_thn ?_
                    refine ws_blockN SumOf_n52 2 rfl rfl rfl ?_
                    have S72 := S24.nilrow cdInt; clear S24
                    refine ws_loopE (fun mx_ ax_ wx_ => ∃ (q : Nat) (ls : List Int) (vrl : Value) (M36 : Hp), M9.le M36 ∧ mx_ = 4 - q ∧ Env 151 [(1, .int .i64 (xn : Int)), (3, .int .i64 (yn : Int)), (4, .pointer (some ⟨gb1, 0, none⟩)), (6, .pointer (some ⟨gb2, 0, none⟩)), (8, .pointer (some ⟨gb3, 0, none⟩)), (10, .int .i64 (a.crs.length : Int)), (11, .int .i64 (b.crs.length : Int)), (12, .pointer (some ⟨gb4, 0, none⟩)), (13, .int .i64 (i : Int)), (14, .pointer (some ⟨gb5, 0, none⟩)), (15, .int .i64 (i : Int)), (16, .int .i64 0), (17, vrl), (18, .int .i64 (q : Int))] ax_ ∧ SH wx_ M36 X [Rs.row cdInt vrl ls, Rs.box gb5 27 [.slice acrsA a.crs.length acrsc, .int .i64 a.loops], Rs.row cdCr vro acc, Rs.box gb4 27 [vro, .int .i64 (a.loops + b.loops)], Rs.box gb3 27 [.slice none 0 0, .int .i64 0], Rs.box gb2 27 [.slice bcrsA b.crs.length bcrsc, .int .i64 b.loops], Rs.box gb1 27 [.slice acrsA a.crs.length acrsc, .int .i64 a.loops]] ∧ q ≤ 4 ∧ ls = (List.range q).map (refS a i 0 (xn : Int) ((yn : Int) + 2 * (a.crs.length : Int)))) rfl ?_ ?_
                    · intro ax_ hax_
                      refine ⟨_, ⟨0, _, _, _, Hp.le_refl _, rfl, hax_.sub ⟨rfl, rfl, rfl, rfl, rfl, rfl, rfl, rfl, rfl, rfl, rfl, rfl, rfl, rfl, trivial⟩, S72.pick [0, 1, 2, 3, 4, 5, 6] [_, _, _, _, _, _, _] (by decide) ⟨rfl, rfl, rfl, rfl, rfl, rfl, rfl, trivial⟩, ?hq7f0, ?hq7f1⟩⟩
                      case hq7f0 => first | assumption | omega
                      case hq7f1 => rfl
                    · rintro m3 a3 w66 ⟨q, ls, vrl, M36, hle36, rfl, he3, S73, hq, hls⟩
                      clear S72
                      refine ws_in he3 (c := SumOf_n53) rfl ?_
                      clear he3 a3
                      replace hacrs := hacrs.mono (Hp.un_mono hle36 S73.mx)
                      replace hbcrs := hbcrs.mono (Hp.un_mono hle36 S73.mx)
                      have hll : ls.length = q := by rw [hls]; simp
                      have hbd := arcAt_bd ha (i := i) (k := q)
                      refine ws_seqN SumOf_n54 SumOf_n55 rfl rfl rfl ?_
                      refine ws_seqN SumOf_n56 SumOf_n57 rfl rfl rfl ?_
                      refine ws_region rfl ?_
                      refine wl_op (k := 0) (k' := 1) rfl rfl rfl (wo_run rfl rfl (run_move rfl rfl) ?_)
                      refine wl_op (k := 1) (k' := 2) rfl rfl rfl (wo_run rfl rfl (run_lss rfl rfl rfl) ?_)
                      refine wl_end rfl ?_
                      refine nm_sub [(1, _), (3, _), (4, _), (6, _), (8, _), (10, _), (11, _), (12, _), (13, _), (14, _), (15, _), (16, _), (17, _), (18, _), (83, _)] ⟨rfl, rfl, rfl, rfl, rfl, rfl, rfl, rfl, rfl, rfl, rfl, rfl, rfl, rfl, rfl, trivial⟩ ?_
                      refine nm_thn ?_
                      refine ws_condN SumOf_n58 SumOf_n59 rfl rfl rfl rfl (fun hb83 => ?_) (fun hb83 => ?_)
                      · have hb83 := of_decide_eq_true hb83
                        refine ws_skip rfl ?_
                        refine nm_sub [(1, _), (3, _), (4, _), (6, _), (8, _), (10, _), (11, _), (12, _), (13, _), (14, _), (15, _), (16, _), (17, _), (18, _)] ⟨rfl, rfl, rfl, rfl, rfl, rfl, rfl, rfl, rfl, rfl, rfl, rfl, rfl, rfl, trivial⟩ ?_
                        refine nm_thn ?_
                        refine ws_seqN SumOf_n60 SumOf_n61 rfl rfl rfl ?_
                        refine ws_blockN SumOf_n62 3 rfl rfl rfl ?_
                        refine ws_seqN SumOf_n63 SumOf_n64 rfl rfl rfl ?_
                        refine ws_region rfl ?_
                        refine wl_op (k := 0) (k' := 1) rfl rfl rfl (wo_run rfl rfl (run_loadN (us := [_, _]) rfl rfl Try.underlying27 rfl sz27 (S73.boxcs (i := 1) rfl ⟨rfl, rfl, trivial⟩)) ?_)
                        refine wl_op (k := 1) (k' := 2) rfl rfl rfl (wo_run rfl rfl (run_move rfl rfl) ?_)
                        refine wl_op (k := 2) (k' := 3) rfl rfl rfl (wo_run rfl rfl (run_move rfl rfl) ?_)
                        refine wl_op (k := 3) (k' := 4) rfl rfl rfl (wo_run rfl rfl (run_build (l := [_, _]) rfl rfl st88 rfl rfl) ?_)
                        refine wl_op (k := 4) (k' := 5) rfl rfl rfl (wo_cq rfl rfl rfl rfl rfl rfl rfl cf57 S73 (ArcAt_q a i q (hacrs.mono S73.un_XH) (by omega) (by omega) S73.lend) ?_)
                        rintro _ w67 S74 rfl; clear S73
                        refine wl_op (k := 5) (k' := 6) rfl rfl rfl (wo_run rfl rfl (run_move rfl rfl) ?_)
                        refine wl_op (k := 6) (k' := 7) rfl rfl rfl (wo_run rfl rfl (run_add rfl rfl rfl (by first | omega | (simp only [List.length_set, List.length_append, List.length_replicate, List.length_singleton, List.length_cons, List.length_nil]; omega))) ?_)
                        refine wl_op (k := 7) (k' := 8) rfl rfl rfl (wo_run rfl rfl (run_assign rfl rfl) ?_)
                        refine wl_end rfl ?_
                        refine nm_sub [(1, _), (3, _), (4, _), (6, _), (8, _), (10, _), (11, _), (12, _), (13, _), (14, _), (15, _), (16, _), (17, _), (18, _), (19, _)] ⟨rfl, rfl, rfl, rfl, rfl, rfl, rfl, rfl, rfl, rfl, rfl, rfl, rfl, rfl, rfl, trivial⟩ ?_
                        refine nm_thn ?_
                        refine ws_seqN SumOf_n65 SumOf_n66 rfl rfl rfl ?_
                        refine ws_seqN SumOf_n67 SumOf_n68 rfl rfl rfl ?_
                        refine ws_region rfl ?_
                        refine wl_op (k := 0) (k' := 1) rfl rfl rfl (wo_run rfl rfl (run_loadN (us := [_, _]) rfl rfl Try.underlying27 rfl sz27 (S74.boxcs (i := 1) rfl ⟨rfl, rfl, trivial⟩)) ?_)
                        refine wl_op (k := 1) (k' := 2) rfl rfl rfl (wo_run rfl rfl (run_move rfl rfl) ?_)
                        refine wl_op (k := 2) (k' := 3) rfl rfl rfl (wo_run rfl rfl (run_move rfl rfl) ?_)
                        refine wl_op (k := 3) (k' := 4) rfl rfl rfl (wo_run rfl rfl (run_build (l := [_, _]) rfl rfl st88 rfl rfl) ?_)
                        refine wl_op (k := 4) (k' := 5) rfl rfl rfl (wo_cq rfl rfl rfl rfl rfl rfl rfl cf58 S74 (Entry_q a i q (hacrs.mono S74.un_XH) (by omega) (by omega) S74.lend) ?_)
                        rintro _ w68 S75 rfl; clear S74
                        refine wl_end rfl ?_
                        refine nm_sub [(1, _), (3, _), (4, _), (6, _), (8, _), (10, _), (11, _), (12, _), (13, _), (14, _), (15, _), (16, _), (17, _), (18, _), (19, _), (97, _)] ⟨rfl, rfl, rfl, rfl, rfl, rfl, rfl, rfl, rfl, rfl, rfl, rfl, rfl, rfl, rfl, rfl, trivial⟩ ?_
                        refine nm_thn ?_
                        refine ws_condN SumOf_n69 SumOf_n70 rfl rfl rfl rfl (fun hb97 => ?_) (fun hb97 => ?_)
                        · refine ws_seqN SumOf_n71 SumOf_n72 rfl rfl rfl ?_
                          refine ws_region rfl ?_
                          refine wl_op (k := 0) (k' := 1) rfl rfl rfl (wo_run rfl rfl (run_move rfl rfl) ?_)
                          refine wl_op (k := 1) (k' := 2) rfl rfl rfl (wo_run rfl rfl (run_move rfl rfl) ?_)
                          refine wl_op (k := 2) (k' := 3) rfl rfl rfl (wo_run rfl rfl (run_lss rfl rfl rfl) ?_)
                          refine wl_op (k := 3) (k' := 4) rfl rfl rfl (wo_run rfl rfl (run_move rfl rfl) ?_)
                          refine wl_split (t := 101) rfl (fun hg101 => ?_) (fun hg101 => ?_)
                          · have hg101 := of_decide_eq_true hg101
                            refine wl_opG (k := 4) (k' := 5) rfl rfl ⟨_, _, _, rfl, rfl, rfl, rfl⟩ rfl (wo_run rfl rfl (run_move rfl rfl) ?_)
                            refine wl_opG (k := 5) (k' := 6) rfl rfl ⟨_, _, _, rfl, rfl, rfl, rfl⟩ rfl (wo_run rfl rfl (run_move rfl rfl) ?_)
                            refine wl_opG (k := 6) (k' := 7) rfl rfl ⟨_, _, _, rfl, rfl, rfl, rfl⟩ rfl (wo_run rfl rfl (run_eql rfl rfl rfl) ?_)
                            refine wl_op (k := 7) (k' := 8) rfl rfl rfl (wo_run rfl rfl (run_pickT rfl rfl rfl) ?_)
                            refine wl_end rfl ?_
                            refine nm_sub [(1, _), (3, _), (4, _), (6, _), (8, _), (10, _), (11, _), (12, _), (13, _), (14, _), (15, _), (16, _), (17, _), (18, _), (19, _), (105, _)] ⟨rfl, rfl, rfl, rfl, rfl, rfl, rfl, rfl, rfl, rfl, rfl, rfl, rfl, rfl, rfl, rfl, trivial⟩ ?_
                            refine nm_thn ?_
                            refine ws_condN SumOf_n73 SumOf_n74 rfl rfl rfl rfl (fun hb105 => ?_) (fun hb105 => ?_)
                            · have hb105 := of_decide_eq_true hb105
                              refine ws_region rfl ?_
                              refine wl_op (k := 0) (k' := 1) rfl rfl rfl (wo_run rfl rfl (run_move rfl rfl) ?_)
                              refine wl_op (k := 1) (k' := 2) rfl rfl rfl (wo_run rfl rfl (run_move rfl rfl) ?_)
                              refine wl_op (k := 2) (k' := 3) rfl rfl rfl (wo_run rfl rfl (run_mul rfl rfl rfl (by first | omega | (simp only [List.length_set, List.length_append, List.length_replicate, List.length_singleton, List.length_cons, List.length_nil]; omega))) ?_)
                              refine wl_op (k := 3) (k' := 4) rfl rfl rfl (wo_run rfl rfl (run_add rfl rfl rfl (by first | omega | (simp only [List.length_set, List.length_append, List.length_replicate, List.length_singleton, List.length_cons, List.length_nil]; omega))) ?_)
                              refine wl_op (k := 4) (k' := 5) rfl rfl rfl (wo_run rfl rfl (run_assign rfl rfl) ?_)
                              refine wl_end rfl ?_
                              refine nm_sub [(1, _), (3, _), (4, _), (6, _), (8, _), (10, _), (11, _), (12, _), (13, _), (14, _), (15, _), (16, _), (17, _), (18, _), (19, _)] ⟨rfl, rfl, rfl, rfl, rfl, rfl, rfl, rfl, rfl, rfl, rfl, rfl, rfl, rfl, rfl, trivial⟩ ?_
                              refine nm_thn ?_
                              refine ws_region rfl ?_
                              refine wl_op (k := 0) (k' := 1) rfl rfl rfl (wo_run rfl rfl (run_move rfl rfl) ?_)
                              refine wl_op (k := 1) (k' := 2) rfl rfl rfl (wo_run rfl rfl (run_move rfl rfl) ?_)
                              refine wl_op (k := 2) (k' := 3) rfl rfl rfl (wo_buildSlice1 (C := cdInt) (l := [_]) rfl rfl rfl rfl sl44 rfl rfl rfl rfl S75 ?_)
                              intro gb10 w69 S76; clear S75
                              refine wl_op (k := 3) (k' := 4) rfl rfl rfl (wo_append1 (C := cdInt) (i := 1) (q := 0) ((yn : Int) + (2 * (a.crs.length : Int))) rfl rfl rfl rfl rfl rfl rfl rfl sl44 S76 rfl rfl rfl (by show (_ + 1) * 8 ≤ _; first | omega | (simp only [List.length_set, List.length_append, List.length_replicate, List.length_singleton, List.length_cons, List.length_nil]; omega)) ?_)
                              intro vrl4 w70 S77; clear S76
                              have S78 := S77.pick [1, 2, 3, 4, 5, 6, 7] [_, _, _, _, _, _, _] (by decide) ⟨rfl, rfl, rfl, rfl, rfl, rfl, rfl, trivial⟩; clear S77
                              refine wl_op (k := 4) (k' := 5) rfl rfl rfl (wo_run rfl rfl (run_assign rfl rfl) ?_)
                              refine wl_end rfl ?_
                              refine nm_blk ?_
                              refine nm_sub [(1, _), (3, _), (4, _), (6, _), (8, _), (10, _), (11, _), (12, _), (13, _), (14, _), (15, _), (16, _), (17, _), (18, _)] ⟨rfl, rfl, rfl, rfl, rfl, rfl, rfl, rfl, rfl, rfl, rfl, rfl, rfl, rfl, trivial⟩ ?_
                              refine nm_thn ?_
                              refine ws_region rfl ?_
                              refine wl_op (k := 0) (k' := 1) rfl rfl rfl (wo_run rfl rfl (run_move rfl rfl) ?_)
                              refine wl_op (k := 1) (k' := 2) rfl rfl rfl (wo_run rfl rfl (run_add rfl rfl rfl (by first | omega | (simp only [List.length_set, List.length_append, List.length_replicate, List.length_singleton, List.length_cons, List.length_nil]; omega))) ?_)
                              refine wl_op (k := 2) (k' := 3) rfl rfl rfl (wo_run rfl rfl (run_assign rfl rfl) ?_)
                              refine wl_end rfl ?_
                              refine nm_lp ?_
                              intro ax_ hax_
                              refine ⟨_, ?hq8m, ⟨q + 1, _, _, _, (hle36), rfl, hax_.sub ⟨rfl, rfl, rfl, rfl, rfl, rfl, rfl, rfl, rfl, rfl, rfl, rfl, rfl, rfl, trivial⟩, S78.pick [0, 1, 2, 3, 4, 5, 6] [_, _, _, _, _, _, _] (by decide) ⟨rfl, rfl, rfl, rfl, rfl, rfl, rfl, trivial⟩, ?hq8f0, ?hq8f1⟩⟩
                              case hq8f0 => omega
                              case hq8f1 => rw [List.range_succ, List.map_append, ← hls]; refine congrArg (ls ++ ·) ?_; simp only [List.map_cons, List.map_nil]; refine congrArg (fun z => [z]) ?_; unfold refS; simp only [*, Bool.false_eq_true, false_and, true_and, and_self, if_true, if_false]
                              case hq8m => omega
                            · have hb105 := of_decide_eq_false hb105
                              refine ws_seqN SumOf_n75 SumOf_n76 rfl rfl rfl ?_
                              refine ws_region rfl ?_
                              refine wl_op (k := 0) (k' := 1) rfl rfl rfl (wo_run rfl rfl (run_move rfl rfl) ?_)
                              refine wl_op (k := 1) (k' := 2) rfl rfl rfl (wo_run rfl rfl (run_move rfl rfl) ?_)
                              refine wl_op (k := 2) (k' := 3) rfl rfl rfl (wo_run rfl rfl (run_geq rfl rfl rfl) ?_)
                              refine wl_op (k := 3) (k' := 4) rfl rfl rfl (wo_run rfl rfl (run_move rfl rfl) ?_)
                              refine wl_split (t := 113) rfl (fun hg113 => ?_) (fun hg113 => ?_)
                              · have hg113 := of_decide_eq_true hg113
                                exfalso; omega
                              · have hg113 := of_decide_eq_false hg113
                                refine wl_no (k := 4) (k' := 5) (d := 114) rfl rfl ⟨_, _, _, rfl, rfl, rfl, rfl⟩ rfl rfl ?_
                                refine wl_no (k := 5) (k' := 6) (d := 115) rfl rfl ⟨_, _, _, rfl, rfl, rfl, rfl⟩ rfl rfl ?_
                                refine wl_no (k := 6) (k' := 7) (d := 116) rfl rfl ⟨_, _, _, rfl, rfl, rfl, rfl⟩ rfl rfl ?_
                                refine wl_no (k := 7) (k' := 8) (d := 117) rfl rfl ⟨_, _, _, rfl, rfl, rfl, rfl⟩ rfl rfl ?_
                                refine wl_no (k := 8) (k' := 9) (d := 118) rfl rfl ⟨_, _, _, rfl, rfl, rfl, rfl⟩ rfl rfl ?_
                                refine wl_no (k := 9) (k' := 10) (d := 119) rfl rfl ⟨_, _, _, rfl, rfl, rfl, rfl⟩ rfl rfl ?_
                                refine wl_op (k := 10) (k' := 11) rfl rfl rfl (wo_run rfl rfl (run_pickF rfl rfl rfl) ?_)
                                refine wl_end rfl ?_
                                refine nm_sub [(1, _), (3, _), (4, _), (6, _), (8, _), (10, _), (11, _), (12, _), (13, _), (14, _), (15, _), (16, _), (17, _), (18, _), (19, _), (120, _)] ⟨rfl, rfl, rfl, rfl, rfl, rfl, rfl, rfl, rfl, rfl, rfl, rfl, rfl, rfl, rfl, rfl, trivial⟩ ?_
                                refine nm_thn ?_
                                refine ws_condFN SumOf_n78 rfl rfl rfl ?_
                                refine ws_skip rfl ?_
                                refine nm_sub [(1, _), (3, _), (4, _), (6, _), (8, _), (10, _), (11, _), (12, _), (13, _), (14, _), (15, _), (16, _), (17, _), (18, _), (19, _)] ⟨rfl, rfl, rfl, rfl, rfl, rfl, rfl, rfl, rfl, rfl, rfl, rfl, rfl, rfl, rfl, trivial⟩ ?_
                                refine nm_thn ?_
                                refine ws_region rfl ?_
                                refine wl_op (k := 0) (k' := 1) rfl rfl rfl (wo_run rfl rfl (run_move rfl rfl) ?_)
                                refine wl_op (k := 1) (k' := 2) rfl rfl rfl (wo_run rfl rfl (run_move rfl rfl) ?_)
                                refine wl_op (k := 2) (k' := 3) rfl rfl rfl (wo_buildSlice1 (C := cdInt) (l := [_]) rfl rfl rfl rfl sl44 rfl rfl rfl rfl S75 ?_)
                                intro gb11 w71 S79; clear S75
                                refine wl_op (k := 3) (k' := 4) rfl rfl rfl (wo_append1 (C := cdInt) (i := 1) (q := 0) ((arcAt a i q) + 0) rfl rfl rfl rfl rfl rfl rfl rfl sl44 S79 rfl rfl rfl (by show (_ + 1) * 8 ≤ _; first | omega | (simp only [List.length_set, List.length_append, List.length_replicate, List.length_singleton, List.length_cons, List.length_nil]; omega)) ?_)
                                intro vrl5 w72 S80; clear S79
                                have S81 := S80.pick [1, 2, 3, 4, 5, 6, 7] [_, _, _, _, _, _, _] (by decide) ⟨rfl, rfl, rfl, rfl, rfl, rfl, rfl, trivial⟩; clear S80
                                refine wl_op (k := 4) (k' := 5) rfl rfl rfl (wo_run rfl rfl (run_assign rfl rfl) ?_)
                                refine wl_end rfl ?_
                                refine nm_blk ?_
                                refine nm_sub [(1, _), (3, _), (4, _), (6, _), (8, _), (10, _), (11, _), (12, _), (13, _), (14, _), (15, _), (16, _), (17, _), (18, _)] ⟨rfl, rfl, rfl, rfl, rfl, rfl, rfl, rfl, rfl, rfl, rfl, rfl, rfl, rfl, trivial⟩ ?_
                                refine nm_thn ?_
                                refine ws_region rfl ?_
                                refine wl_op (k := 0) (k' := 1) rfl rfl rfl (wo_run rfl rfl (run_move rfl rfl) ?_)
                                refine wl_op (k := 1) (k' := 2) rfl rfl rfl (wo_run rfl rfl (run_add rfl rfl rfl (by first | omega | (simp only [List.length_set, List.length_append, List.length_replicate, List.length_singleton, List.length_cons, List.length_nil]; omega))) ?_)
                                refine wl_op (k := 2) (k' := 3) rfl rfl rfl (wo_run rfl rfl (run_assign rfl rfl) ?_)
                                refine wl_end rfl ?_
                                refine nm_lp ?_
                                intro ax_ hax_
                                refine ⟨_, ?hq9m, ⟨q + 1, _, _, _, (hle36), rfl, hax_.sub ⟨rfl, rfl, rfl, rfl, rfl, rfl, rfl, rfl, rfl, rfl, rfl, rfl, rfl, rfl, trivial⟩, S81.pick [0, 1, 2, 3, 4, 5, 6] [_, _, _, _, _, _, _] (by decide) ⟨rfl, rfl, rfl, rfl, rfl, rfl, rfl, trivial⟩, ?hq9f0, ?hq9f1⟩⟩
                                case hq9f0 => omega
                                case hq9f1 => rw [List.range_succ, List.map_append, ← hls]; refine congrArg (ls ++ ·) ?_; simp only [List.map_cons, List.map_nil]; refine congrArg (fun z => [z]) ?_; unfold refS; simp only [*, Bool.false_eq_true, false_and, true_and, and_self, if_true, if_false]
                                case hq9m => omega
                          · have hg101 := of_decide_eq_false hg101
                            exfalso; omega
                        · refine ws_skip rfl ?_
                          refine nm_sub [(1, _), (3, _), (4, _), (6, _), (8, _), (10, _), (11, _), (12, _), (13, _), (14, _), (15, _), (16, _), (17, _), (18, _), (19, _)] ⟨rfl, rfl, rfl, rfl, rfl, rfl, rfl, rfl, rfl, rfl, rfl, rfl, rfl, rfl, rfl, trivial⟩ ?_
                          refine nm_thn ?_
                          refine ws_region rfl ?_
                          refine wl_op (k := 0) (k' := 1) rfl rfl rfl (wo_run rfl rfl (run_move rfl rfl) ?_)
                          refine wl_op (k := 1) (k' := 2) rfl rfl rfl (wo_run rfl rfl (run_move rfl rfl) ?_)
                          refine wl_op (k := 2) (k' := 3) rfl rfl rfl (wo_buildSlice1 (C := cdInt) (l := [_]) rfl rfl rfl rfl sl44 rfl rfl rfl rfl S75 ?_)
                          intro gb12 w73 S82; clear S75
                          refine wl_op (k := 3) (k' := 4) rfl rfl rfl (wo_append1 (C := cdInt) (i := 1) (q := 0) ((arcAt a i q) + 0) rfl rfl rfl rfl rfl rfl rfl rfl sl44 S82 rfl rfl rfl (by show (_ + 1) * 8 ≤ _; first | omega | (simp only [List.length_set, List.length_append, List.length_replicate, List.length_singleton, List.length_cons, List.length_nil]; omega)) ?_)
                          intro vrl6 w74 S83; clear S82
                          have S84 := S83.pick [1, 2, 3, 4, 5, 6, 7] [_, _, _, _, _, _, _] (by decide) ⟨rfl, rfl, rfl, rfl, rfl, rfl, rfl, trivial⟩; clear S83
                          refine wl_op (k := 4) (k' := 5) rfl rfl rfl (wo_run rfl rfl (run_assign rfl rfl) ?_)
                          refine wl_end rfl ?_
                          refine nm_blk ?_
                          refine nm_sub [(1, _), (3, _), (4, _), (6, _), (8, _), (10, _), (11, _), (12, _), (13, _), (14, _), (15, _), (16, _), (17, _), (18, _)] ⟨rfl, rfl, rfl, rfl, rfl, rfl, rfl, rfl, rfl, rfl, rfl, rfl, rfl, rfl, trivial⟩ ?_
                          refine nm_thn ?_
                          refine ws_region rfl ?_
                          refine wl_op (k := 0) (k' := 1) rfl rfl rfl (wo_run rfl rfl (run_move rfl rfl) ?_)
                          refine wl_op (k := 1) (k' := 2) rfl rfl rfl (wo_run rfl rfl (run_add rfl rfl rfl (by first | omega | (simp only [List.length_set, List.length_append, List.length_replicate, List.length_singleton, List.length_cons, List.length_nil]; omega))) ?_)
                          refine wl_op (k := 2) (k' := 3) rfl rfl rfl (wo_run rfl rfl (run_assign rfl rfl) ?_)
                          refine wl_end rfl ?_
                          refine nm_lp ?_
                          intro ax_ hax_
                          refine ⟨_, ?hq10m, ⟨q + 1, _, _, _, (hle36), rfl, hax_.sub ⟨rfl, rfl, rfl, rfl, rfl, rfl, rfl, rfl, rfl, rfl, rfl, rfl, rfl, rfl, trivial⟩, S84.pick [0, 1, 2, 3, 4, 5, 6] [_, _, _, _, _, _, _] (by decide) ⟨rfl, rfl, rfl, rfl, rfl, rfl, rfl, trivial⟩, ?hq10f0, ?hq10f1⟩⟩
                          case hq10f0 => omega
                          case hq10f1 => rw [List.range_succ, List.map_append, ← hls]; refine congrArg (ls ++ ·) ?_; simp only [List.map_cons, List.map_nil]; refine congrArg (fun z => [z]) ?_; unfold refS; simp only [*, Bool.false_eq_true, false_and, true_and, and_self, if_true, if_false]
                          case hq10m => omega
                      · have hb83 := of_decide_eq_false hb83
                        refine ws_exit rfl rfl ?_
                        refine nm_sub [(1, _), (3, _), (4, _), (6, _), (8, _), (10, _), (11, _), (12, _), (13, _), (14, _), (15, _), (17, _)] ⟨rfl, rfl, rfl, rfl, rfl, rfl, rfl, rfl, rfl, rfl, rfl, rfl, trivial⟩ ?_
                        refine nm_thn ?_
                        refine ws_draw rfl (by kernel_rfl) S73 25 rfl ?_
                        clear S73
                        refine wa_takeP (i := 0) (d := 126) 24 rfl (by kernel_rfl) (by kernel_rfl) (by kernel_rfl) rfl rfl rfl (fun w75 => run_fieldAddr rfl rfl Try.underlying27 rfl (ce25) (nf25)) ?_
                        refine wa_take (i := 1) (d := 127) 23 rfl (by kernel_rfl) (by kernel_rfl) (by kernel_rfl) rfl rfl rfl (fun M38 N35 w76 hle38 S86 => .inl (run_load1 rfl rfl Try.underlying25 rfl (S86.suf.boxc (i := 3) rfl rfl))) ?_
                        refine wa_takeP (i := 2) (d := 128) 22 rfl (by kernel_rfl) (by kernel_rfl) (by kernel_rfl) rfl rfl rfl (fun w77 => run_move rfl rfl) ?_
                        refine wa_take (i := 3) (d := 129) 21 rfl (by kernel_rfl) (by kernel_rfl) (by kernel_rfl) rfl rfl rfl (fun M40 N37 w78 hle40 S88 => .inl (run_indexR (C := cdInt) (i := 0) 0 rfl rfl rfl sl44 S88.suf rfl (by first | rfl | omega) (by first | omega | (simp only [List.length_set, List.length_append, List.length_replicate, List.length_singleton, List.length_cons, List.length_nil]; omega)))) ?_
                        refine wa_take (i := 4) (d := 130) 20 rfl (by kernel_rfl) (by kernel_rfl) (by kernel_rfl) rfl rfl rfl (fun M41 N38 w79 hle41 S89 => .inl (run_load1 rfl rfl Try.underlying3 rfl (S89.suf.rowc (i := 0) (e := 0) (j := 0) rfl (by first | omega | (simp only [List.length_set, List.length_append, List.length_replicate, List.length_singleton, List.length_cons, List.length_nil]; omega)) rfl rfl))) ?_
                        refine wa_takeP (i := 5) (d := 131) 19 rfl (by kernel_rfl) (by kernel_rfl) (by kernel_rfl) rfl rfl rfl (fun w80 => run_move rfl rfl) ?_
                        refine wa_take (i := 6) (d := 132) 18 rfl (by kernel_rfl) (by kernel_rfl) (by kernel_rfl) rfl rfl rfl (fun M43 N40 w81 hle43 S91 => .inl (run_indexR (C := cdInt) (i := 0) 1 rfl rfl rfl sl44 S91.suf rfl (by first | rfl | omega) (by first | omega | (simp only [List.length_set, List.length_append, List.length_replicate, List.length_singleton, List.length_cons, List.length_nil]; omega)))) ?_
                        refine wa_take (i := 7) (d := 133) 17 rfl (by kernel_rfl) (by kernel_rfl) (by kernel_rfl) rfl rfl rfl (fun M44 N41 w82 hle44 S92 => .inl (run_load1 rfl rfl Try.underlying3 rfl (S92.suf.rowc (i := 0) (e := 1) (j := 0) rfl (by first | omega | (simp only [List.length_set, List.length_append, List.length_replicate, List.length_singleton, List.length_cons, List.length_nil]; omega)) rfl rfl))) ?_
                        refine wa_takeP (i := 8) (d := 134) 16 rfl (by kernel_rfl) (by kernel_rfl) (by kernel_rfl) rfl rfl rfl (fun w83 => run_move rfl rfl) ?_
                        refine wa_take (i := 9) (d := 135) 15 rfl (by kernel_rfl) (by kernel_rfl) (by kernel_rfl) rfl rfl rfl (fun M46 N43 w84 hle46 S94 => .inl (run_indexR (C := cdInt) (i := 0) 2 rfl rfl rfl sl44 S94.suf rfl (by first | rfl | omega) (by first | omega | (simp only [List.length_set, List.length_append, List.length_replicate, List.length_singleton, List.length_cons, List.length_nil]; omega)))) ?_
                        refine wa_take (i := 10) (d := 136) 14 rfl (by kernel_rfl) (by kernel_rfl) (by kernel_rfl) rfl rfl rfl (fun M47 N44 w85 hle47 S95 => .inl (run_load1 rfl rfl Try.underlying3 rfl (S95.suf.rowc (i := 0) (e := 2) (j := 0) rfl (by first | omega | (simp only [List.length_set, List.length_append, List.length_replicate, List.length_singleton, List.length_cons, List.length_nil]; omega)) rfl rfl))) ?_
                        refine wa_takeP (i := 11) (d := 137) 13 rfl (by kernel_rfl) (by kernel_rfl) (by kernel_rfl) rfl rfl rfl (fun w86 => run_move rfl rfl) ?_
                        refine wa_take (i := 12) (d := 138) 12 rfl (by kernel_rfl) (by kernel_rfl) (by kernel_rfl) rfl rfl rfl (fun M49 N46 w87 hle49 S97 => .inl (run_indexR (C := cdInt) (i := 0) 3 rfl rfl rfl sl44 S97.suf rfl (by first | rfl | omega) (by first | omega | (simp only [List.length_set, List.length_append, List.length_replicate, List.length_singleton, List.length_cons, List.length_nil]; omega)))) ?_
                        refine wa_take (i := 13) (d := 139) 11 rfl (by kernel_rfl) (by kernel_rfl) (by kernel_rfl) rfl rfl rfl (fun M50 N47 w88 hle50 S98 => .inl (run_load1 rfl rfl Try.underlying3 rfl (S98.suf.rowc (i := 0) (e := 3) (j := 0) rfl (by first | omega | (simp only [List.length_set, List.length_append, List.length_replicate, List.length_singleton, List.length_cons, List.length_nil]; omega)) rfl rfl))) ?_
                        refine wa_takeP (i := 14) (d := 140) 10 rfl (by kernel_rfl) (by kernel_rfl) (by kernel_rfl) rfl rfl rfl (fun w89 => run_fieldAddr rfl rfl Try.underlying27 rfl (ce25) (nf25)) ?_
                        refine wa_take (i := 15) (d := 141) 9 rfl (by kernel_rfl) (by kernel_rfl) (by kernel_rfl) rfl rfl rfl (fun M52 N49 w90 hle52 S100 => .inl (run_load1 rfl rfl Try.underlying25 rfl (S100.suf.boxc (i := 1) rfl rfl))) ?_
                        refine wa_takeP (i := 16) (d := 142) 8 rfl (by kernel_rfl) (by kernel_rfl) (by kernel_rfl) rfl rfl rfl (fun w91 => run_move rfl rfl) ?_
                        refine wa_take (i := 17) (d := 143) 7 rfl (by kernel_rfl) (by kernel_rfl) (by kernel_rfl) rfl rfl rfl (fun M54 N51 w92 hle54 S102 => .inl (run_indexM (C := cdCr) i rfl rfl rfl sl25 (by first | rfl | omega) (hacrs.mono (Hp.un_mono hle54 S102.mx)) (by first | omega | (simp only [List.length_set, List.length_append, List.length_replicate, List.length_singleton, List.length_cons, List.length_nil]; omega)))) ?_
                        refine wa_takeP (i := 18) (d := 144) 6 rfl (by kernel_rfl) (by kernel_rfl) (by kernel_rfl) rfl rfl rfl (fun w93 => run_fieldAddr rfl rfl Try.underlying73 rfl (ce4) (nf4)) ?_
                        refine wa_take (i := 19) (d := 145) 5 rfl (by kernel_rfl) (by kernel_rfl) (by kernel_rfl) rfl rfl rfl (fun M56 N53 w94 hle56 S104 => .inl (run_load1 rfl rfl Try.underlying4 rfl ((hacrs.mono (Hp.un_mono hle56 S104.mx)).cell S104.um (i := i) (by first | omega | (simp only [List.length_set, List.length_append, List.length_replicate, List.length_singleton, List.length_cons, List.length_nil]; omega)) 4 rfl rfl))) ?_
                        refine wa_take (i := 20) (d := 146) 4 rfl (by kernel_rfl) (by kernel_rfl) (by kernel_rfl) rfl rfl rfl (fun M57 N54 w95 hle57 S105 => .inl (run_build (l := [_, _, _, _, _]) rfl rfl st73 rfl rfl)) ?_
                        refine wa_only (i := 21) 3 rfl (by kernel_rfl) rfl rfl (fun w97 S107 => ?_)
                        refine (wo_buildSlice1 (C := cdCr) (l := [_, _, _, _, _]) rfl rfl rfl rfl sl25 rfl rfl rfl rfl S107 ?_)
                        intro gb13 w98 S108; clear S107
                        refine LeftW.grow [_] (Hp.le_refl _) S108 ?_; clear S108
                        change WA _ _ _ _ _ _ _ _ _ _ _ _ [_, _, _, _, _, _, _, _]
                        refine wa_only (i := 22) 2 rfl (by kernel_rfl) rfl rfl (fun w100 S110 => ?_)
                        refine (wo_append1 (C := cdCr) (i := 3) (q := 0) (⟨ga ls 0, ga ls 1, ga ls 2, ga ls 3, (ga a.crs i).plus⟩ : Cr) rfl rfl rfl rfl rfl rfl rfl rfl sl25 S110 rfl rfl rfl (by show (_ + 1) * 40 ≤ _; first | omega | (simp only [List.length_set, List.length_append, List.length_replicate, List.length_singleton, List.length_cons, List.length_nil]; omega)) ?_)
                        intro vro2 w101 S111; clear S110
                        have S112 := S111.pick [1, 2, 3, 4, 5, 6, 7] [_, _, _, _, _, _, _] (by decide) ⟨rfl, rfl, rfl, rfl, rfl, rfl, rfl, trivial⟩; clear S111
                        refine LeftW.turn (by kernel_rfl) S112 ?_; clear S112
                        change WA _ _ _ _ _ _ _ _ _ _ _ _ [_, _, _, _, _, _, _]
                        refine wa_takeP (i := 23) (d := 149) 1 rfl (by kernel_rfl) (by kernel_rfl) (by kernel_rfl) rfl rfl rfl (fun w102 => run_fieldAddr rfl rfl Try.underlying27 rfl (ce25) (nf25)) ?_
                        refine wa_only (i := 24) 0 rfl (by kernel_rfl) rfl rfl (fun w104 S115 => ?_)
                        refine (wo_storeB (i := 3) (us := [_]) (l' := [_, _]) (H' := [_, _, _, _, _, _, _]) rfl rfl S115 rfl rfl rfl (S115.cells1 (i := 2) rfl) sz25 rfl (ones_cons (S115.one (i := 2) rfl) rfl) rfl rfl ?_)
                        intro w105 S116; clear S115
                        refine LeftW.turn (by kernel_rfl) S116 ?_; clear S116
                        change WA _ _ _ _ _ _ _ _ _ _ _ _ [_, _, _, _, _, _, _]
                        refine wa_end (by kernel_rfl) (fun w106 S117 => ?_)
                        refine nm_blk ?_
                        refine nm_sub [(1, _), (3, _), (4, _), (6, _), (8, _), (10, _), (11, _), (12, _), (13, _)] ⟨rfl, rfl, rfl, rfl, rfl, rfl, rfl, rfl, rfl, trivial⟩ ?_
                        refine nm_thn ?_
                        refine ws_region rfl ?_
                        refine wl_op (k := 0) (k' := 1) rfl rfl rfl (wo_run rfl rfl (run_move rfl rfl) ?_)
                        refine wl_op (k := 1) (k' := 2) rfl rfl rfl (wo_run rfl rfl (run_add rfl rfl rfl (by first | omega | (simp only [List.length_set, List.length_append, List.length_replicate, List.length_singleton, List.length_cons, List.length_nil]; omega))) ?_)
                        refine wl_op (k := 2) (k' := 3) rfl rfl rfl (wo_run rfl rfl (run_assign rfl rfl) ?_)
                        refine wl_end rfl ?_
                        refine nm_lp ?_
                        have hq4 : ls = (List.range 4).map (refS a i 0 (xn : Int) ((yn : Int) + 2 * (a.crs.length : Int))) := by rw [hls, show q = 4 by omega]
                        have hg : ∀ j, j < 4 → ga ls j = refS a i 0 (xn : Int) ((yn : Int) + 2 * (a.crs.length : Int)) j := fun j hj => by rw [hq4, ga_eq (by simpa using hj)]; simp
                        intro ax_ hax_
                        refine ⟨_, ?hq11m, ⟨i + 1, _, _, _, (hle9.trans hle36), rfl, hax_.sub ⟨rfl, rfl, rfl, rfl, rfl, rfl, rfl, rfl, rfl, trivial⟩, S117.pick [2, 3, 4, 5, 6] [_, _, _, _, _] (by decide) ⟨rfl, rfl, rfl, rfl, rfl, trivial⟩, ?hq11f0, ?hq11f1⟩⟩
                        case hq11f0 => first | assumption | omega
                        case hq11f1 => rw [List.range_succ, List.map_append, ← hacc]; refine congrArg (acc ++ ·) ?_; simp only [List.map_cons, List.map_nil]; refine congrArg (fun z => [z]) ?_; rw [hg 0 (by omega), hg 1 (by omega), hg 2 (by omega), hg 3 (by omega)]; unfold refC; first | (rw [if_pos (by omega)]; rfl) | (rw [if_neg (by omega)]; rfl)
                        case hq11m => omega
                · have hb68 := of_decide_eq_false hb68
                  refine ws_exit rfl rfl ?_
                  refine nm_sub [(8, _), (12, _)] ⟨rfl, rfl, trivial⟩ ?_
                  refine nm_thn ?_
                  refine ws_seqN SumOf_n79 SumOf_n80 rfl rfl rfl ?_
                  refine ws_region rfl ?_
                  refine wl_op (k := 0) (k' := 1) rfl rfl rfl (wo_run rfl rfl (run_loadN (us := [_, _]) rfl rfl Try.underlying27 rfl sz27 (S22.boxcs (i := 1) rfl ⟨rfl, rfl, trivial⟩)) ?_)
                  refine wl_op (k := 1) (k' := 2) rfl rfl rfl (wo_storeB (i := 2) (us := [_, _]) (l' := [_, _]) (H' := [_, _, _, _, _]) rfl rfl S22 rfl rfl rfl rfl sz27 rfl (ones_cons (S22.one (i := 0) rfl) (ones_cons rfl rfl)) rfl rfl ?_)
                  intro w107 S118; clear S22
                  refine wl_op (k := 2) (k' := 3) rfl rfl rfl (wo_run rfl rfl (run_assign rfl rfl) ?_)
                  refine wl_end rfl ?_
                  refine nm_sub [(8, _), (9, _)] ⟨rfl, rfl, trivial⟩ ?_
                  refine nm_thn ?_
                  obtain ⟨M62, hle62, S119, ⟨A1, c1, e1, hr1⟩⟩ := S118.pubrow (i := 0) (H' := [_, _, _, _, _]) rfl rfl (by show _ * 40 ≤ _; first | omega | (simp only [List.length_set, List.length_append, List.length_replicate, List.length_singleton, List.length_cons, List.length_nil]; omega))
                  clear S118; subst e1
                  replace hacrs := hacrs.mono (Hp.un_mono hle62 S119.mx)
                  replace hbcrs := hbcrs.mono (Hp.un_mono hle62 S119.mx)
                  refine ws_ret hC [_, _] rfl rfl ⟨⟨_, rfl, loadVarN (us := [_, _]) Try.underlying27 rfl sz27 (S119.boxcs (i := 2) rfl ⟨rfl, rfl, trivial⟩)⟩, rfl, trivial⟩ ?_
                  refine ⟨_, rfl, _, hle9.trans hle62, (S119.pick [] [] (by decide) trivial), ?_⟩
                  obtain rfl : i = a.crs.length + b.crs.length := by omega
                  have e : sumR a b xn yn = (⟨acc, a.loops + b.loops⟩, 0) := by
                    unfold sumR
                    rw [if_neg (by omega), if_neg (by omega), hacc, ← sumL_ref ha hb (by omega) (by omega) (by omega) (by omega)]
                    simp
                  rw [e]
                  exact ⟨_, _, rfl, hr1⟩

end Go.Proofs.Ytlbpgnimpcflaaa
