/- Walks printed by eng.py. -/
import Derived.Test.YthfiblbkkjcliaaB9
import Derived.Test.YthfiblbkkjcliaaE10
import Derived.Test.YthfiblbkkjcliaaCeq
set_option linter.unusedSimpArgs false
set_option linter.unusedVariables false
namespace Go.Proofs.Ythfiblbkkjcliaa
open Go.ChangeShapes Go.WideShapes Go.ChangeAt Go.RowKit
structure Cr where
  a : Int
  b : Int
  c : Int
  d : Int
  plus : Bool
instance : Inhabited Cr := ⟨⟨0, 0, 0, 0, false⟩⟩
def crF (x : Cr) : List Value := [.int .i64 x.a, .int .i64 x.b, .int .i64 x.c, .int .i64 x.d, .bool x.plus]
structure Dg where
  crs : List Cr
  loops : Int
def cdCr : Cd Cr := ⟨crF, 5, 40, 63, ⟨0, 0, 0, 0, false⟩, fun _ => rfl, by
  intro x u hu
  simp [crF] at hu
  rcases hu with rfl | rfl | rfl | rfl | rfl <;> rfl⟩
/-- The arcs of a letter: in and out from the left, in and out from the right. -/
structure A4 where
  a : Int
  b : Int
  c : Int
  d : Int
instance : Inhabited A4 := ⟨⟨0, 0, 0, 0⟩⟩
def a4F (x : A4) : List Value := [.int .i64 x.a, .int .i64 x.b, .int .i64 x.c, .int .i64 x.d]
def cdA4 : Cd A4 := ⟨a4F, 4, 32, 61, ⟨0, 0, 0, 0⟩, fun _ => rfl, by
  intro x u hu
  simp [a4F] at hu
  rcases hu with rfl | rfl | rfl | rfl <;> rfl⟩

theorem sl36 : SlOf Try.prog 36 cdCr := ⟨.agg [.int .i64 0, .int .i64 0, .int .i64 0, .int .i64 0, .bool false].toArray, Try.underlying36, by kernel_rfl, rfl, by decide, by decide⟩
theorem sl57 : SlOf Try.prog 57 cdA4 := ⟨.agg [.int .i64 0, .int .i64 0, .int .i64 0, .int .i64 0].toArray, Try.underlying57, by kernel_rfl, rfl, by decide, by decide⟩
def makeC (b0 b1 a0 a1 : Int) (p : Bool) : Cr := if p = true then ⟨b0, a1, b1, a0, true⟩ else ⟨b0, a0, b1, a1, false⟩

noncomputable def Make_n0 : Code := Try.f32.body.getD .skip
noncomputable def Make_n1 : Code := cL Make_n0
noncomputable def Make_n2 : Code := cR Make_n0
noncomputable def Make_n3 : Code := cL Make_n2
noncomputable def Make_n4 : Code := cR Make_n2
noncomputable def Make_n5 : Code := cL Make_n4
noncomputable def Make_n6 : Code := cR Make_n4
noncomputable def Make_n7 : Code := cL Make_n5
noncomputable def Make_n8 : Code := cR Make_n5
noncomputable def Make_n9 : Code := cL Make_n8
noncomputable def Make_n10 : Code := cR Make_n8
noncomputable def Make_n11 : Code := cL Make_n6
noncomputable def Make_n12 : Code := cR Make_n6
set_option maxRecDepth 10000 in
theorem Make_q {w : World} {M : Hp} {X : Fr} (b0 b1 : Int) (a0 a1 : Int) (p : Bool) (S : SH w M X []) : Cq Try.prog 32 [.agg [.int .i64 b0, .int .i64 b1].toArray, .agg [.int .i64 a0, .int .i64 a1].toArray, .bool p] w M X (fun u => u = .agg (crF (makeC b0 b1 a0 a1 p)).toArray) := by
  unfold Cq
  refine calls_in (b := Make_n0) Try.func32 rfl Try.ntmps32 rfl (fun C hC => ?_)
  refine ws_sub [(0, _), (1, _), (2, _)] ⟨rfl, rfl, rfl, trivial⟩ ?_
  refine ws_seqN Make_n1 Make_n2 rfl rfl rfl ?_
  refine ws_region rfl ?_
  refine wl_op (k := 0) (k' := 1) rfl rfl rfl (wo_box (l := [_, _]) rfl rfl rfl rfl rfl S ?_)
  intro gb1 w1 S1; clear S
  refine wl_op (k := 1) (k' := 2) rfl rfl rfl (wo_box (l := [_, _]) rfl rfl rfl rfl rfl S1 ?_)
  intro gb2 w2 S2; clear S1
  refine wl_op (k := 2) (k' := 3) rfl rfl rfl (wo_alloc (l := [_, _, _, _, _]) rfl rfl rfl zr63 rfl S2 ?_)
  intro gb3 w3 S3; clear S2
  refine wl_end rfl ?_
  refine nm_sub [(2, _), (3, _), (4, _), (6, _)] ⟨rfl, rfl, rfl, rfl, trivial⟩ ?_
  refine nm_thn ?_
  refine ws_seqN Make_n3 Make_n4 rfl rfl rfl ?_
  refine ws_region rfl ?_
  refine wl_op (k := 0) (k' := 1) rfl rfl rfl (wo_run rfl rfl (run_indexP (e := 0) (k := 1) rfl rfl rfl Try.underlying60 sz3 (by first | rfl | omega) (by first | omega | (simp only [List.length_set, List.length_append, List.length_replicate, List.length_singleton, List.length_cons, List.length_nil]; omega))) ?_)
  refine wl_op (k := 1) (k' := 2) rfl rfl rfl (wo_run rfl rfl (run_load1 rfl rfl Try.underlying3 rfl (S3.boxc (i := 2) rfl rfl)) ?_)
  refine wl_op (k := 2) (k' := 3) rfl rfl rfl (wo_run rfl rfl (run_indexP (e := 1) (k := 1) rfl rfl rfl Try.underlying60 sz3 (by first | rfl | omega) (by first | omega | (simp only [List.length_set, List.length_append, List.length_replicate, List.length_singleton, List.length_cons, List.length_nil]; omega))) ?_)
  refine wl_op (k := 3) (k' := 4) rfl rfl rfl (wo_run rfl rfl (run_load1 rfl rfl Try.underlying3 rfl (S3.boxc (i := 2) rfl rfl)) ?_)
  refine wl_op (k := 4) (k' := 5) rfl rfl rfl (wo_run rfl rfl (run_indexP (e := 0) (k := 1) rfl rfl rfl Try.underlying60 sz3 (by first | rfl | omega) (by first | omega | (simp only [List.length_set, List.length_append, List.length_replicate, List.length_singleton, List.length_cons, List.length_nil]; omega))) ?_)
  refine wl_op (k := 5) (k' := 6) rfl rfl rfl (wo_run rfl rfl (run_load1 rfl rfl Try.underlying3 rfl (S3.boxc (i := 1) rfl rfl)) ?_)
  refine wl_op (k := 6) (k' := 7) rfl rfl rfl (wo_run rfl rfl (run_indexP (e := 1) (k := 1) rfl rfl rfl Try.underlying60 sz3 (by first | rfl | omega) (by first | omega | (simp only [List.length_set, List.length_append, List.length_replicate, List.length_singleton, List.length_cons, List.length_nil]; omega))) ?_)
  refine wl_op (k := 7) (k' := 8) rfl rfl rfl (wo_run rfl rfl (run_load1 rfl rfl Try.underlying3 rfl (S3.boxc (i := 1) rfl rfl)) ?_)
  refine wl_op (k := 8) (k' := 9) rfl rfl rfl (wo_run rfl rfl (run_move rfl rfl) ?_)
  refine wl_op (k := 9) (k' := 10) rfl rfl rfl (wo_run rfl rfl (run_build (l := [_, _, _, _, _]) rfl rfl st63 rfl rfl) ?_)
  refine wl_op (k := 10) (k' := 11) rfl rfl rfl (wo_alloc (l := [_, _, _, _, _]) rfl rfl rfl zr63 rfl S3 ?_)
  intro gb4 w4 S4; clear S3
  refine wl_op (k := 11) (k' := 12) rfl rfl rfl (wo_storeB (i := 0) (us := [_, _, _, _, _]) (l' := [_, _, _, _, _]) (H' := [_, _, _, _]) rfl rfl S4 rfl rfl rfl rfl sz63 rfl rfl rfl rfl ?_)
  intro w5 S5; clear S4
  refine wl_end rfl ?_
  refine nm_sub [(2, _), (4, _), (6, _), (7, _)] ⟨rfl, rfl, rfl, rfl, trivial⟩ ?_
  refine nm_thn ?_
  refine ws_seqN Make_n5 Make_n6 rfl rfl rfl ?_
  refine ws_seqN Make_n7 Make_n8 rfl rfl rfl ?_
  refine ws_region rfl ?_
  refine wl_op (k := 0) (k' := 1) rfl rfl rfl (wo_run rfl rfl (run_move rfl rfl) ?_)
  refine wl_end rfl ?_
  refine nm_sub [(4, _), (6, _), (7, _), (18, _)] ⟨rfl, rfl, rfl, rfl, trivial⟩ ?_
  refine nm_thn ?_
  refine ws_condN Make_n9 Make_n10 rfl rfl rfl rfl (fun hb18 => ?_) (fun hb18 => ?_)
  · have S6 := S5.pick [0, 1, 2, 3] [_, _, _, _] (by decide) ⟨rfl, rfl, rfl, rfl, trivial⟩; clear S5
    refine ws_drawN [_] [_, _, _] rfl (by kernel_rfl) S6 8 rfl ?_
    clear S6
    change WA _ _ _ _ _ _ _ _ _ _ _ _ [_, _, _, _]
    refine wa_take (i := 0) (d := 19) 7 rfl (by kernel_rfl) (by kernel_rfl) (by kernel_rfl) rfl rfl rfl (fun M1 N1 w6 hle1 S7 => .inl (run_indexP (e := 1) (k := 1) rfl rfl rfl Try.underlying60 sz3 (by first | rfl | omega) (by first | omega | (simp only [List.length_set, List.length_append, List.length_replicate, List.length_singleton, List.length_cons, List.length_nil]; omega)))) ?_
    refine wa_take (i := 1) (d := 20) 6 rfl (by kernel_rfl) (by kernel_rfl) (by kernel_rfl) rfl rfl rfl (fun M2 N2 w7 hle2 S8 => .inl (run_load1 rfl rfl Try.underlying3 rfl (S8.suf.boxc (i := 1) rfl rfl))) ?_
    refine wa_take (i := 2) (d := 21) 5 rfl (by kernel_rfl) (by kernel_rfl) (by kernel_rfl) rfl rfl rfl (fun M3 N3 w8 hle3 S9 => .inl (run_indexP (e := 0) (k := 1) rfl rfl rfl Try.underlying60 sz3 (by first | rfl | omega) (by first | omega | (simp only [List.length_set, List.length_append, List.length_replicate, List.length_singleton, List.length_cons, List.length_nil]; omega)))) ?_
    refine wa_take (i := 3) (d := 22) 4 rfl (by kernel_rfl) (by kernel_rfl) (by kernel_rfl) rfl rfl rfl (fun M4 N4 w9 hle4 S10 => .inl (run_load1 rfl rfl Try.underlying3 rfl (S10.suf.boxc (i := 1) rfl rfl))) ?_
    refine wa_takeP (i := 4) (d := 23) 3 rfl (by kernel_rfl) (by kernel_rfl) (by kernel_rfl) rfl rfl rfl (fun w10 => run_fieldAddr rfl rfl Try.underlying63 rfl (ce3) (nf3)) ?_
    refine wa_only (i := 5) 2 rfl (by kernel_rfl) rfl rfl (fun w12 S13 => ?_)
    refine (wo_storeB (i := 0) (us := [_]) (l' := [_, _, _, _, _]) (H' := [_, _, _, _]) rfl rfl S13 rfl rfl rfl rfl sz3 rfl rfl rfl rfl ?_)
    intro w13 S14; clear S13
    refine LeftW.grow [_] (Hp.le_refl _) S14 ?_; clear S14
    change WA _ _ _ _ _ _ _ _ _ _ _ _ [_, _, _, _]
    refine wa_takeP (i := 6) (d := 24) 1 rfl (by kernel_rfl) (by kernel_rfl) (by kernel_rfl) rfl rfl rfl (fun w14 => run_fieldAddr rfl rfl Try.underlying63 rfl (ce3) (nf3)) ?_
    refine wa_only (i := 7) 0 rfl (by kernel_rfl) rfl rfl (fun w16 S17 => ?_)
    refine (wo_storeB (i := 0) (us := [_]) (l' := [_, _, _, _, _]) (H' := [_, _, _, _]) rfl rfl S17 rfl rfl rfl rfl sz3 rfl rfl rfl rfl ?_)
    intro w17 S18; clear S17
    refine LeftW.grow [_] (Hp.le_refl _) S18 ?_; clear S18
    change WA _ _ _ _ _ _ _ _ _ _ _ _ [_, _, _, _]
    refine wa_end (by kernel_rfl) (fun w18 S19 => ?_)
    refine nm_sub [(6, _), (7, _)] ⟨rfl, rfl, trivial⟩ ?_
    refine nm_thn ?_
    refine ws_seqN Make_n11 Make_n12 rfl rfl rfl ?_
    refine ws_region rfl ?_
    refine wl_op (k := 0) (k' := 1) rfl rfl rfl (wo_run rfl rfl (run_loadN (us := [_, _, _, _, _]) rfl rfl Try.underlying63 rfl sz63 (S19.boxcs (i := 0) rfl ⟨rfl, rfl, rfl, rfl, rfl, trivial⟩)) ?_)
    refine wl_op (k := 1) (k' := 2) rfl rfl rfl (wo_storeB (i := 1) (us := [_, _, _, _, _]) (l' := [_, _, _, _, _]) (H' := [_, _, _, _]) rfl rfl S19 rfl rfl rfl rfl sz63 rfl rfl rfl rfl ?_)
    intro w19 S20; clear S19
    refine wl_end rfl ?_
    refine nm_sub [(6, _)] ⟨rfl, trivial⟩ ?_
    refine nm_thn ?_
    refine ws_ret hC [_] rfl rfl ⟨⟨_, rfl, loadVarN (us := [_, _, _, _, _]) Try.underlying63 rfl sz63 (S20.boxcs (i := 1) rfl ⟨rfl, rfl, rfl, rfl, rfl, trivial⟩)⟩, trivial⟩ ?_
    exact ⟨_, rfl, (S20.pick [] [] (by decide) trivial), (by subst hb18; rfl)⟩
  · refine ws_skip rfl ?_
    refine nm_sub [(6, _), (7, _)] ⟨rfl, rfl, trivial⟩ ?_
    refine nm_thn ?_
    refine ws_seqN Make_n11 Make_n12 rfl rfl rfl ?_
    refine ws_region rfl ?_
    refine wl_op (k := 0) (k' := 1) rfl rfl rfl (wo_run rfl rfl (run_loadN (us := [_, _, _, _, _]) rfl rfl Try.underlying63 rfl sz63 (S5.boxcs (i := 0) rfl ⟨rfl, rfl, rfl, rfl, rfl, trivial⟩)) ?_)
    refine wl_op (k := 1) (k' := 2) rfl rfl rfl (wo_storeB (i := 1) (us := [_, _, _, _, _]) (l' := [_, _, _, _, _]) (H' := [_, _, _, _]) rfl rfl S5 rfl rfl rfl rfl sz63 rfl rfl rfl rfl ?_)
    intro w20 S21; clear S5
    refine wl_end rfl ?_
    refine nm_sub [(6, _)] ⟨rfl, trivial⟩ ?_
    refine nm_thn ?_
    refine ws_ret hC [_] rfl rfl ⟨⟨_, rfl, loadVarN (us := [_, _, _, _, _]) Try.underlying63 rfl sz63 (S21.boxcs (i := 1) rfl ⟨rfl, rfl, rfl, rfl, rfl, trivial⟩)⟩, trivial⟩ ?_
    exact ⟨_, rfl, (S21.pick [] [] (by decide) trivial), (by subst hb18; rfl)⟩

noncomputable def SameDiagram_n0 : Code := Try.f16.body.getD .skip
noncomputable def SameDiagram_n1 : Code := cL SameDiagram_n0
noncomputable def SameDiagram_n2 : Code := cR SameDiagram_n0
noncomputable def SameDiagram_n3 : Code := cL SameDiagram_n2
noncomputable def SameDiagram_n4 : Code := cR SameDiagram_n2
noncomputable def SameDiagram_n5 : Code := cL SameDiagram_n3
noncomputable def SameDiagram_n6 : Code := cR SameDiagram_n3
noncomputable def SameDiagram_n7 : Code := cL SameDiagram_n6
noncomputable def SameDiagram_n8 : Code := cR SameDiagram_n6
noncomputable def SameDiagram_n9 : Code := cL SameDiagram_n4
noncomputable def SameDiagram_n10 : Code := cR SameDiagram_n4
noncomputable def SameDiagram_n11 : Code := cL SameDiagram_n9
noncomputable def SameDiagram_n12 : Code := cR SameDiagram_n9
noncomputable def SameDiagram_n13 : Code := cL SameDiagram_n12
noncomputable def SameDiagram_n14 : Code := cL SameDiagram_n13
noncomputable def SameDiagram_n15 : Code := cL SameDiagram_n14
noncomputable def SameDiagram_n16 : Code := cR SameDiagram_n14
noncomputable def SameDiagram_n17 : Code := cL SameDiagram_n15
noncomputable def SameDiagram_n18 : Code := cR SameDiagram_n15
noncomputable def SameDiagram_n19 : Code := cL SameDiagram_n18
noncomputable def SameDiagram_n20 : Code := cR SameDiagram_n18
noncomputable def SameDiagram_n21 : Code := cL SameDiagram_n16
noncomputable def SameDiagram_n22 : Code := cR SameDiagram_n16
noncomputable def SameDiagram_n23 : Code := cL SameDiagram_n21
noncomputable def SameDiagram_n24 : Code := cL SameDiagram_n23
noncomputable def SameDiagram_n25 : Code := cR SameDiagram_n23
noncomputable def SameDiagram_n26 : Code := cL SameDiagram_n25
noncomputable def SameDiagram_n27 : Code := cR SameDiagram_n25
noncomputable def SameDiagram_n28 : Code := cL SameDiagram_n10
noncomputable def SameDiagram_n29 : Code := cR SameDiagram_n10
set_option maxRecDepth 10000 in
theorem SameDiagram_q {w : World} {M : Hp} {X : Fr} (a : Dg) {acrsA : Option Addr} {acrsc : Nat} (b : Dg) {bcrsA : Option Addr} {bcrsc : Nat} (hacrs : RdA cdCr (M.un X.h) acrsA acrsc a.crs) (hbcrs : RdA cdCr (M.un X.h) bcrsA bcrsc b.crs) (he : a = b) (S : SH w M X []) : Cq Try.prog 16 [.agg [.slice acrsA a.crs.length acrsc, .int .i64 a.loops].toArray, .agg [.slice bcrsA b.crs.length bcrsc, .int .i64 b.loops].toArray] w M X (fun u => u = .bool true) := by
  unfold Cq
  have rmhacrs : a.crs.length * 40 ≤ 140737488355328 := hacrs.room
  have rmhbcrs : b.crs.length * 40 ≤ 140737488355328 := hbcrs.room
  have hle : a.crs.length = b.crs.length := by rw [he]
  have hlo : a.loops = b.loops := by rw [he]
  refine calls_in (b := SameDiagram_n0) Try.func16 rfl Try.ntmps16 rfl (fun C hC => ?_)
  refine ws_sub [(0, _), (1, _)] ⟨rfl, rfl, trivial⟩ ?_
  refine ws_seqN SameDiagram_n1 SameDiagram_n2 rfl rfl rfl ?_
  refine ws_region rfl ?_
  refine wl_op (k := 0) (k' := 1) rfl rfl rfl (wo_box (l := [_, _]) rfl rfl rfl rfl rfl S ?_)
  intro gb1 w1 S1; clear S
  refine wl_op (k := 1) (k' := 2) rfl rfl rfl (wo_box (l := [_, _]) rfl rfl rfl rfl rfl S1 ?_)
  intro gb2 w2 S2; clear S1
  refine wl_op (k := 2) (k' := 3) rfl rfl rfl (wo_run rfl rfl (run_assign rfl rfl) ?_)
  refine wl_end rfl ?_
  refine nm_sub [(2, _), (3, _)] ⟨rfl, rfl, trivial⟩ ?_
  refine nm_thn ?_
  refine ws_seqN SameDiagram_n3 SameDiagram_n4 rfl rfl rfl ?_
  refine ws_seqN SameDiagram_n5 SameDiagram_n6 rfl rfl rfl ?_
  refine ws_region rfl ?_
  refine wl_op (k := 0) (k' := 1) rfl rfl rfl (wo_run rfl rfl (run_fieldAddr rfl rfl Try.underlying38 rfl (ce3) (nf3)) ?_)
  refine wl_op (k := 1) (k' := 2) rfl rfl rfl (wo_run rfl rfl (run_load1 rfl rfl Try.underlying3 rfl (S2.boxc (i := 1) rfl rfl)) ?_)
  refine wl_op (k := 2) (k' := 3) rfl rfl rfl (wo_run rfl rfl (run_fieldAddr rfl rfl Try.underlying38 rfl (ce3) (nf3)) ?_)
  refine wl_op (k := 3) (k' := 4) rfl rfl rfl (wo_run rfl rfl (run_load1 rfl rfl Try.underlying3 rfl (S2.boxc (i := 0) rfl rfl)) ?_)
  refine wl_op (k := 4) (k' := 5) rfl rfl rfl (wo_run rfl rfl (run_neq rfl rfl rfl) ?_)
  refine wl_op (k := 5) (k' := 6) rfl rfl rfl (wo_run rfl rfl (run_move rfl rfl) ?_)
  refine wl_split (t := 11) rfl (fun hg11 => ?_) (fun hg11 => ?_)
  · have hg11 := of_decide_eq_true hg11
    exfalso; omega
  · have hg11 := of_decide_eq_false hg11
    refine wl_opG (k := 6) (k' := 7) rfl rfl ⟨_, _, _, rfl, rfl, rfl, rfl⟩ rfl (wo_run rfl rfl (run_fieldAddr rfl rfl Try.underlying38 rfl (ce36) (nf36)) ?_)
    refine wl_opG (k := 7) (k' := 8) rfl rfl ⟨_, _, _, rfl, rfl, rfl, rfl⟩ rfl (wo_run rfl rfl (run_load1 rfl rfl Try.underlying36 rfl (S2.boxc (i := 1) rfl rfl)) ?_)
    refine wl_opG (k := 8) (k' := 9) rfl rfl ⟨_, _, _, rfl, rfl, rfl, rfl⟩ rfl (wo_run rfl rfl (run_len rfl rfl rfl rfl rfl rfl Try.underlying36) ?_)
    refine wl_opG (k := 9) (k' := 10) rfl rfl ⟨_, _, _, rfl, rfl, rfl, rfl⟩ rfl (wo_run rfl rfl (run_fieldAddr rfl rfl Try.underlying38 rfl (ce36) (nf36)) ?_)
    refine wl_opG (k := 10) (k' := 11) rfl rfl ⟨_, _, _, rfl, rfl, rfl, rfl⟩ rfl (wo_run rfl rfl (run_load1 rfl rfl Try.underlying36 rfl (S2.boxc (i := 0) rfl rfl)) ?_)
    refine wl_opG (k := 11) (k' := 12) rfl rfl ⟨_, _, _, rfl, rfl, rfl, rfl⟩ rfl (wo_run rfl rfl (run_len rfl rfl rfl rfl rfl rfl Try.underlying36) ?_)
    refine wl_opG (k := 12) (k' := 13) rfl rfl ⟨_, _, _, rfl, rfl, rfl, rfl⟩ rfl (wo_run rfl rfl (run_neq rfl rfl rfl) ?_)
    refine wl_op (k := 13) (k' := 14) rfl rfl rfl (wo_run rfl rfl (run_pickF rfl rfl rfl) ?_)
    refine wl_end rfl ?_
    refine nm_sub [(2, _), (3, _), (19, _)] ⟨rfl, rfl, rfl, trivial⟩ ?_
    refine nm_thn ?_
    refine ws_condN SameDiagram_n7 SameDiagram_n8 rfl rfl rfl rfl (fun hb19 => ?_) (fun hb19 => ?_)
    · have hb19 := of_decide_eq_true hb19
      exfalso; omega
    · have hb19 := of_decide_eq_false hb19
      refine ws_skip rfl ?_
      refine nm_sub [(2, _), (3, _)] ⟨rfl, rfl, trivial⟩ ?_
      refine nm_thn ?_
      refine ws_seqN SameDiagram_n9 SameDiagram_n10 rfl rfl rfl ?_
      refine ws_seqN SameDiagram_n11 SameDiagram_n12 rfl rfl rfl ?_
      refine ws_region rfl ?_
      refine wl_op (k := 0) (k' := 1) rfl rfl rfl (wo_run rfl rfl (run_assign rfl rfl) ?_)
      refine wl_end rfl ?_
      refine nm_thn ?_
      refine ws_blockN SameDiagram_n13 0 rfl rfl rfl ?_
      refine ws_loopE (fun mx_ ax_ wx_ => ∃ (k : Nat), mx_ = a.crs.length - k ∧ Env 38 [(2, .pointer (some ⟨gb1, 0, none⟩)), (3, .pointer (some ⟨gb2, 0, none⟩)), (5, .int .i64 (k : Int))] ax_ ∧ SH wx_ M X [Rs.box gb2 38 [.slice bcrsA b.crs.length bcrsc, .int .i64 b.loops], Rs.box gb1 38 [.slice acrsA a.crs.length acrsc, .int .i64 a.loops]] ∧ k ≤ a.crs.length) rfl ?_ ?_
      · intro ax_ hax_
        refine ⟨_, ⟨0, rfl, hax_.sub ⟨rfl, rfl, rfl, trivial⟩, S2.pick [0, 1] [_, _] (by decide) ⟨rfl, rfl, trivial⟩, ?hq1f0⟩⟩
        case hq1f0 => omega
      · rintro m1 a1 w3 ⟨k, rfl, he1, S3, hk⟩
        clear S2
        refine ws_in he1 (c := SameDiagram_n14) rfl ?_
        clear he1 a1
        refine ws_seqN SameDiagram_n15 SameDiagram_n16 rfl rfl rfl ?_
        refine ws_seqN SameDiagram_n17 SameDiagram_n18 rfl rfl rfl ?_
        refine ws_region rfl ?_
        refine wl_op (k := 0) (k' := 1) rfl rfl rfl (wo_run rfl rfl (run_move rfl rfl) ?_)
        refine wl_op (k := 1) (k' := 2) rfl rfl rfl (wo_run rfl rfl (run_fieldAddr rfl rfl Try.underlying38 rfl (ce36) (nf36)) ?_)
        refine wl_op (k := 2) (k' := 3) rfl rfl rfl (wo_run rfl rfl (run_load1 rfl rfl Try.underlying36 rfl (S3.boxc (i := 1) rfl rfl)) ?_)
        refine wl_op (k := 3) (k' := 4) rfl rfl rfl (wo_run rfl rfl (run_len rfl rfl rfl rfl rfl rfl Try.underlying36) ?_)
        refine wl_op (k := 4) (k' := 5) rfl rfl rfl (wo_run rfl rfl (run_lss rfl rfl rfl) ?_)
        refine wl_end rfl ?_
        refine nm_sub [(2, _), (3, _), (5, _), (24, _)] ⟨rfl, rfl, rfl, rfl, trivial⟩ ?_
        refine nm_thn ?_
        refine ws_condN SameDiagram_n19 SameDiagram_n20 rfl rfl rfl rfl (fun hb24 => ?_) (fun hb24 => ?_)
        · have hb24 := of_decide_eq_true hb24
          refine ws_skip rfl ?_
          refine nm_sub [(2, _), (3, _), (5, _)] ⟨rfl, rfl, rfl, trivial⟩ ?_
          refine nm_thn ?_
          refine ws_seqN SameDiagram_n21 SameDiagram_n22 rfl rfl rfl ?_
          refine ws_blockN SameDiagram_n23 1 rfl rfl rfl ?_
          refine ws_seqN SameDiagram_n24 SameDiagram_n25 rfl rfl rfl ?_
          refine ws_draw rfl (by kernel_rfl) S3 11 rfl ?_
          clear S3
          refine wa_takeP (i := 0) (d := 27) 10 rfl (by kernel_rfl) (by kernel_rfl) (by kernel_rfl) rfl rfl rfl (fun w4 => run_fieldAddr rfl rfl Try.underlying38 rfl (ce36) (nf36)) ?_
          refine wa_take (i := 1) (d := 28) 9 rfl (by kernel_rfl) (by kernel_rfl) (by kernel_rfl) rfl rfl rfl (fun M2 N2 w5 hle3 S5 => .inl (run_load1 rfl rfl Try.underlying36 rfl (S5.suf.boxc (i := 1) rfl rfl))) ?_
          refine wa_takeP (i := 2) (d := 29) 8 rfl (by kernel_rfl) (by kernel_rfl) (by kernel_rfl) rfl rfl rfl (fun w6 => run_move rfl rfl) ?_
          refine wa_take (i := 3) (d := 30) 7 rfl (by kernel_rfl) (by kernel_rfl) (by kernel_rfl) rfl rfl rfl (fun M4 N4 w7 hle5 S7 => .inl (run_indexM (C := cdCr) k rfl rfl rfl sl36 (by first | rfl | omega) (hacrs.mono (Hp.un_mono hle5 S7.mx)) (by first | omega | (simp only [List.length_set, List.length_append, List.length_replicate, List.length_singleton, List.length_cons, List.length_nil]; omega)))) ?_
          refine wa_take (i := 4) (d := 31) 6 rfl (by kernel_rfl) (by kernel_rfl) (by kernel_rfl) rfl rfl rfl (fun M5 N5 w8 hle6 S8 => .inl (run_loadN (us := [_, _, _, _, _]) rfl rfl Try.underlying63 rfl sz63 ((hacrs.mono (Hp.un_mono hle6 S8.mx)).cellsAt S8.um (e := k) (by first | omega | (simp only [List.length_set, List.length_append, List.length_replicate, List.length_singleton, List.length_cons, List.length_nil]; omega)) (j := 0) ⟨rfl, rfl, rfl, rfl, rfl, trivial⟩))) ?_
          refine wa_takeP (i := 5) (d := 32) 5 rfl (by kernel_rfl) (by kernel_rfl) (by kernel_rfl) rfl rfl rfl (fun w9 => run_fieldAddr rfl rfl Try.underlying38 rfl (ce36) (nf36)) ?_
          refine wa_take (i := 6) (d := 33) 4 rfl (by kernel_rfl) (by kernel_rfl) (by kernel_rfl) rfl rfl rfl (fun M7 N7 w10 hle8 S10 => .inl (run_load1 rfl rfl Try.underlying36 rfl (S10.suf.boxc (i := 0) rfl rfl))) ?_
          refine wa_takeP (i := 7) (d := 34) 3 rfl (by kernel_rfl) (by kernel_rfl) (by kernel_rfl) rfl rfl rfl (fun w11 => run_move rfl rfl) ?_
          refine wa_take (i := 8) (d := 35) 2 rfl (by kernel_rfl) (by kernel_rfl) (by kernel_rfl) rfl rfl rfl (fun M9 N9 w12 hle10 S12 => .inl (run_indexM (C := cdCr) k rfl rfl rfl sl36 (by first | rfl | omega) (hbcrs.mono (Hp.un_mono hle10 S12.mx)) (by first | omega | (simp only [List.length_set, List.length_append, List.length_replicate, List.length_singleton, List.length_cons, List.length_nil]; omega)))) ?_
          refine wa_take (i := 9) (d := 36) 1 rfl (by kernel_rfl) (by kernel_rfl) (by kernel_rfl) rfl rfl rfl (fun M10 N10 w13 hle11 S13 => .inl (run_loadN (us := [_, _, _, _, _]) rfl rfl Try.underlying63 rfl sz63 ((hbcrs.mono (Hp.un_mono hle11 S13.mx)).cellsAt S13.um (e := k) (by first | omega | (simp only [List.length_set, List.length_append, List.length_replicate, List.length_singleton, List.length_cons, List.length_nil]; omega)) (j := 0) ⟨rfl, rfl, rfl, rfl, rfl, trivial⟩))) ?_
          refine wa_takeP (i := 10) (d := 37) 0 rfl (by kernel_rfl) (by kernel_rfl) (by kernel_rfl) rfl rfl rfl (fun w14 => run_neSt (Q := ((ga a.crs k).a) = ((ga b.crs k).a) ∧ ((ga a.crs k).b) = ((ga b.crs k).b) ∧ ((ga a.crs k).c) = ((ga b.crs k).c) ∧ ((ga a.crs k).d) = ((ga b.crs k).d) ∧ ((ga a.crs k).plus) = ((ga b.crs k).plus)) rfl rfl rfl se63 ⟨_, _, _, _, rfl, rfl, ⟨_, _, _, _, rfl, rfl, ⟨_, _, _, _, rfl, rfl, ⟨_, _, _, _, rfl, rfl, ⟨_, _, rfl, rfl, rfl⟩, rfl⟩, rfl⟩, rfl⟩, rfl⟩) ?_
          refine wa_end (by kernel_rfl) (fun w15 S15 => ?_)
          refine nm_sub [(2, _), (3, _), (5, _), (37, _)] ⟨rfl, rfl, rfl, rfl, trivial⟩ ?_
          refine nm_thn ?_
          refine ws_condN SameDiagram_n26 SameDiagram_n27 rfl rfl rfl rfl (fun hb37 => ?_) (fun hb37 => ?_)
          · have hb37 := of_decide_eq_true hb37
            exfalso; exact hb37 (by rw [he]; simp)
          · have hb37 := of_decide_eq_false hb37
            refine ws_skip rfl ?_
            refine nm_blk ?_
            refine nm_sub [(2, _), (3, _), (5, _)] ⟨rfl, rfl, rfl, trivial⟩ ?_
            refine nm_thn ?_
            refine ws_region rfl ?_
            refine wl_op (k := 0) (k' := 1) rfl rfl rfl (wo_run rfl rfl (run_move rfl rfl) ?_)
            refine wl_op (k := 1) (k' := 2) rfl rfl rfl (wo_run rfl rfl (run_add rfl rfl rfl (by first | omega | (simp only [List.length_set, List.length_append, List.length_replicate, List.length_singleton, List.length_cons, List.length_nil]; omega))) ?_)
            refine wl_op (k := 2) (k' := 3) rfl rfl rfl (wo_run rfl rfl (run_assign rfl rfl) ?_)
            refine wl_end rfl ?_
            refine nm_lp ?_
            intro ax_ hax_
            refine ⟨_, ?hq2m, ⟨k + 1, rfl, hax_.sub ⟨rfl, rfl, rfl, trivial⟩, S15.pick [0, 1] [_, _] (by decide) ⟨rfl, rfl, trivial⟩, ?hq2f0⟩⟩
            case hq2f0 => omega
            case hq2m => omega
        · have hb24 := of_decide_eq_false hb24
          refine ws_exit rfl rfl ?_
          refine nm_sub [] trivial ?_
          refine nm_thn ?_
          refine ws_seqN SameDiagram_n28 SameDiagram_n29 rfl rfl rfl ?_
          refine ws_region rfl ?_
          refine wl_op (k := 0) (k' := 1) rfl rfl rfl (wo_run rfl rfl (run_assign rfl rfl) ?_)
          refine wl_end rfl ?_
          refine nm_thn ?_
          refine ws_ret hC [_] rfl rfl ⟨rfl, trivial⟩ ?_
          exact ⟨_, rfl, (S3.pick [] [] (by decide) trivial), rfl⟩

end Go.Proofs.Ythfiblbkkjcliaa
