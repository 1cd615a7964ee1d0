/- Walks printed by eng.py. -/
import Derived.Test.YtlbpgnimpcflaaaCst
import Derived.Test.YtlbpgnimpcflaaaCeq
set_option linter.unusedSimpArgs false
set_option linter.unusedVariables false
namespace Go.Proofs.Ytlbpgnimpcflaaa
open Go.ChangeShapes Go.WideShapes Go.ChangeAt Go.RowKit
structure Cr where
  a : Int
  b : Int
  c : Int
  d : Int
  plus : Bool
instance : Inhabited Cr := ⟨⟨0, 0, 0, 0, false⟩⟩
def crF (x : Cr) : List Value := [.int .i64 x.a, .int .i64 x.b, .int .i64 x.c, .int .i64 x.d, .bool x.plus]
structure Dg where
  crs : List Cr
  loops : Int
def cdCr : Cd Cr := ⟨crF, 5, 40, 73, ⟨0, 0, 0, 0, false⟩, fun _ => rfl, by
  intro x u hu
  simp [crF] at hu
  rcases hu with rfl | rfl | rfl | rfl | rfl <;> rfl⟩
def DgE (r : Dg × Int) (u : Value) (M : Hp) : Prop := ∃ A c, u = .tuple [.agg [.slice A r.1.crs.length c, .int .i64 r.1.loops].toArray, .int .i64 r.2].toArray ∧ RdA cdCr M A c r.1.crs
def DgO (d : Dg) (u : Value) (M : Hp) : Prop := ∃ A c, u = .agg [.slice A d.crs.length c, .int .i64 d.loops].toArray ∧ RdA cdCr M A c d.crs

structure Vi where
  c : Int
  o : Bool
instance : Inhabited Vi := ⟨⟨0, false⟩⟩
def viF (x : Vi) : List Value := [.int .i64 x.c, .bool x.o]
def cdVi : Cd Vi := ⟨viF, 2, 16, 70, ⟨0, false⟩, fun _ => rfl, by
  intro x u hu
  simp [viF] at hu
  rcases hu with rfl | rfl <;> rfl⟩
structure I2 where
  a : Int
  b : Int
instance : Inhabited I2 := ⟨⟨0, 0⟩⟩
def i2F (x : I2) : List Value := [.int .i64 x.a, .int .i64 x.b]
def cdI2 : Cd I2 := ⟨i2F, 2, 16, 71, ⟨0, 0⟩, fun _ => rfl, by
  intro x u hu
  simp [i2F] at hu
  rcases hu with rfl | rfl <;> rfl⟩

theorem sl22 : SlOf Try.prog 22 (cdV 24) := ⟨.slice none 0 0, Try.underlying22, by kernel_rfl, rfl, by decide, by decide⟩
theorem sl23 : SlOf Try.prog 23 cdBool := ⟨.bool false, Try.underlying23, by kernel_rfl, rfl, by decide, by decide⟩
theorem sl24 : SlOf Try.prog 24 cdVi := ⟨.agg [.int .i64 0, .bool false].toArray, Try.underlying24, by kernel_rfl, rfl, by decide, by decide⟩
theorem sl25 : SlOf Try.prog 25 cdCr := ⟨.agg [.int .i64 0, .int .i64 0, .int .i64 0, .int .i64 0, .bool false].toArray, Try.underlying25, by kernel_rfl, rfl, by decide, by decide⟩
theorem sl37 : SlOf Try.prog 37 (cdV 44) := ⟨.slice none 0 0, Try.underlying37, by kernel_rfl, rfl, by decide, by decide⟩
theorem sl44 : SlOf Try.prog 44 cdInt := ⟨.int .i64 0, Try.underlying44, by kernel_rfl, rfl, by decide, by decide⟩
theorem sl54 : SlOf Try.prog 54 (cdV 100) := ⟨.slice none 0 0, Try.underlying54, by kernel_rfl, rfl, by decide, by decide⟩
theorem sl68 : SlOf Try.prog 68 cdI2 := ⟨.agg [.int .i64 0, .int .i64 0].toArray, Try.underlying68, by kernel_rfl, rfl, by decide, by decide⟩
def makeC (b0 b1 a0 a1 : Int) (p : Bool) : Cr := if p = true then ⟨b0, a1, b1, a0, true⟩ else ⟨b0, a0, b1, a1, false⟩

noncomputable def Make_n0 : Code := Try.f52.body.getD .skip
noncomputable def Make_n1 : Code := cL Make_n0
noncomputable def Make_n2 : Code := cR Make_n0
noncomputable def Make_n3 : Code := cL Make_n2
noncomputable def Make_n4 : Code := cR Make_n2
noncomputable def Make_n5 : Code := cL Make_n4
noncomputable def Make_n6 : Code := cR Make_n4
noncomputable def Make_n7 : Code := cL Make_n5
noncomputable def Make_n8 : Code := cR Make_n5
noncomputable def Make_n9 : Code := cL Make_n8
noncomputable def Make_n10 : Code := cR Make_n8
noncomputable def Make_n11 : Code := cL Make_n6
noncomputable def Make_n12 : Code := cR Make_n6
set_option maxRecDepth 10000 in
theorem Make_q {w : World} {M : Hp} {X : Fr} (b0 b1 : Int) (a0 a1 : Int) (p : Bool) (S : SH w M X []) : Cq Try.prog 52 [.agg [.int .i64 b0, .int .i64 b1].toArray, .agg [.int .i64 a0, .int .i64 a1].toArray, .bool p] w M X (fun u => u = .agg (crF (makeC b0 b1 a0 a1 p)).toArray) := by
  unfold Cq
  refine calls_in (b := Make_n0) Try.func52 rfl Try.ntmps52 rfl (fun C hC => ?_)
  refine ws_sub [(0, _), (1, _), (2, _)] ⟨rfl, rfl, rfl, trivial⟩ ?_
  refine ws_seqN Make_n1 Make_n2 rfl rfl rfl ?_
  refine ws_region rfl ?_
  refine wl_op (k := 0) (k' := 1) rfl rfl rfl (wo_box (l := [_, _]) rfl rfl rfl rfl rfl S ?_)
  intro gb1 w1 S1; clear S
  refine wl_op (k := 1) (k' := 2) rfl rfl rfl (wo_box (l := [_, _]) rfl rfl rfl rfl rfl S1 ?_)
  intro gb2 w2 S2; clear S1
  refine wl_op (k := 2) (k' := 3) rfl rfl rfl (wo_alloc (l := [_, _, _, _, _]) rfl rfl rfl zr73 rfl S2 ?_)
  intro gb3 w3 S3; clear S2
  refine wl_end rfl ?_
  refine nm_sub [(2, _), (3, _), (4, _), (6, _)] ⟨rfl, rfl, rfl, rfl, trivial⟩ ?_
  refine nm_thn ?_
  refine ws_seqN Make_n3 Make_n4 rfl rfl rfl ?_
  refine ws_region rfl ?_
  refine wl_op (k := 0) (k' := 1) rfl rfl rfl (wo_run rfl rfl (run_indexP (e := 0) (k := 1) rfl rfl rfl Try.underlying71 sz3 (by first | rfl | omega) (by first | omega | (simp only [List.length_set, List.length_append, List.length_replicate, List.length_singleton, List.length_cons, List.length_nil]; omega))) ?_)
  refine wl_op (k := 1) (k' := 2) rfl rfl rfl (wo_run rfl rfl (run_load1 rfl rfl Try.underlying3 rfl (S3.boxc (i := 2) rfl rfl)) ?_)
  refine wl_op (k := 2) (k' := 3) rfl rfl rfl (wo_run rfl rfl (run_indexP (e := 1) (k := 1) rfl rfl rfl Try.underlying71 sz3 (by first | rfl | omega) (by first | omega | (simp only [List.length_set, List.length_append, List.length_replicate, List.length_singleton, List.length_cons, List.length_nil]; omega))) ?_)
  refine wl_op (k := 3) (k' := 4) rfl rfl rfl (wo_run rfl rfl (run_load1 rfl rfl Try.underlying3 rfl (S3.boxc (i := 2) rfl rfl)) ?_)
  refine wl_op (k := 4) (k' := 5) rfl rfl rfl (wo_run rfl rfl (run_indexP (e := 0) (k := 1) rfl rfl rfl Try.underlying71 sz3 (by first | rfl | omega) (by first | omega | (simp only [List.length_set, List.length_append, List.length_replicate, List.length_singleton, List.length_cons, List.length_nil]; omega))) ?_)
  refine wl_op (k := 5) (k' := 6) rfl rfl rfl (wo_run rfl rfl (run_load1 rfl rfl Try.underlying3 rfl (S3.boxc (i := 1) rfl rfl)) ?_)
  refine wl_op (k := 6) (k' := 7) rfl rfl rfl (wo_run rfl rfl (run_indexP (e := 1) (k := 1) rfl rfl rfl Try.underlying71 sz3 (by first | rfl | omega) (by first | omega | (simp only [List.length_set, List.length_append, List.length_replicate, List.length_singleton, List.length_cons, List.length_nil]; omega))) ?_)
  refine wl_op (k := 7) (k' := 8) rfl rfl rfl (wo_run rfl rfl (run_load1 rfl rfl Try.underlying3 rfl (S3.boxc (i := 1) rfl rfl)) ?_)
  refine wl_op (k := 8) (k' := 9) rfl rfl rfl (wo_run rfl rfl (run_move rfl rfl) ?_)
  refine wl_op (k := 9) (k' := 10) rfl rfl rfl (wo_run rfl rfl (run_build (l := [_, _, _, _, _]) rfl rfl st73 rfl rfl) ?_)
  refine wl_op (k := 10) (k' := 11) rfl rfl rfl (wo_alloc (l := [_, _, _, _, _]) rfl rfl rfl zr73 rfl S3 ?_)
  intro gb4 w4 S4; clear S3
  refine wl_op (k := 11) (k' := 12) rfl rfl rfl (wo_storeB (i := 0) (us := [_, _, _, _, _]) (l' := [_, _, _, _, _]) (H' := [_, _, _, _]) rfl rfl S4 rfl rfl rfl rfl sz73 rfl rfl rfl rfl ?_)
  intro w5 S5; clear S4
  refine wl_end rfl ?_
  refine nm_sub [(2, _), (4, _), (6, _), (7, _)] ⟨rfl, rfl, rfl, rfl, trivial⟩ ?_
  refine nm_thn ?_
  refine ws_seqN Make_n5 Make_n6 rfl rfl rfl ?_
  refine ws_seqN Make_n7 Make_n8 rfl rfl rfl ?_
  refine ws_region rfl ?_
  refine wl_op (k := 0) (k' := 1) rfl rfl rfl (wo_run rfl rfl (run_move rfl rfl) ?_)
  refine wl_end rfl ?_
  refine nm_sub [(4, _), (6, _), (7, _), (18, _)] ⟨rfl, rfl, rfl, rfl, trivial⟩ ?_
  refine nm_thn ?_
  refine ws_condN Make_n9 Make_n10 rfl rfl rfl rfl (fun hb18 => ?_) (fun hb18 => ?_)
  · have S6 := S5.pick [0, 1, 2, 3] [_, _, _, _] (by decide) ⟨rfl, rfl, rfl, rfl, trivial⟩; clear S5
    refine ws_drawN [_] [_, _, _] rfl (by kernel_rfl) S6 8 rfl ?_
    clear S6
    change WA _ _ _ _ _ _ _ _ _ _ _ _ [_, _, _, _]
    refine wa_take (i := 0) (d := 19) 7 rfl (by kernel_rfl) (by kernel_rfl) (by kernel_rfl) rfl rfl rfl (fun M1 N1 w6 hle1 S7 => .inl (run_indexP (e := 1) (k := 1) rfl rfl rfl Try.underlying71 sz3 (by first | rfl | omega) (by first | omega | (simp only [List.length_set, List.length_append, List.length_replicate, List.length_singleton, List.length_cons, List.length_nil]; omega)))) ?_
    refine wa_take (i := 1) (d := 20) 6 rfl (by kernel_rfl) (by kernel_rfl) (by kernel_rfl) rfl rfl rfl (fun M2 N2 w7 hle2 S8 => .inl (run_load1 rfl rfl Try.underlying3 rfl (S8.suf.boxc (i := 1) rfl rfl))) ?_
    refine wa_take (i := 2) (d := 21) 5 rfl (by kernel_rfl) (by kernel_rfl) (by kernel_rfl) rfl rfl rfl (fun M3 N3 w8 hle3 S9 => .inl (run_indexP (e := 0) (k := 1) rfl rfl rfl Try.underlying71 sz3 (by first | rfl | omega) (by first | omega | (simp only [List.length_set, List.length_append, List.length_replicate, List.length_singleton, List.length_cons, List.length_nil]; omega)))) ?_
    refine wa_take (i := 3) (d := 22) 4 rfl (by kernel_rfl) (by kernel_rfl) (by kernel_rfl) rfl rfl rfl (fun M4 N4 w9 hle4 S10 => .inl (run_load1 rfl rfl Try.underlying3 rfl (S10.suf.boxc (i := 1) rfl rfl))) ?_
    refine wa_takeP (i := 4) (d := 23) 3 rfl (by kernel_rfl) (by kernel_rfl) (by kernel_rfl) rfl rfl rfl (fun w10 => run_fieldAddr rfl rfl Try.underlying73 rfl (ce3) (nf3)) ?_
    refine wa_only (i := 5) 2 rfl (by kernel_rfl) rfl rfl (fun w12 S13 => ?_)
    refine (wo_storeB (i := 0) (us := [_]) (l' := [_, _, _, _, _]) (H' := [_, _, _, _]) rfl rfl S13 rfl rfl rfl rfl sz3 rfl rfl rfl rfl ?_)
    intro w13 S14; clear S13
    refine LeftW.grow [_] (Hp.le_refl _) S14 ?_; clear S14
    change WA _ _ _ _ _ _ _ _ _ _ _ _ [_, _, _, _]
    refine wa_takeP (i := 6) (d := 24) 1 rfl (by kernel_rfl) (by kernel_rfl) (by kernel_rfl) rfl rfl rfl (fun w14 => run_fieldAddr rfl rfl Try.underlying73 rfl (ce3) (nf3)) ?_
    refine wa_only (i := 7) 0 rfl (by kernel_rfl) rfl rfl (fun w16 S17 => ?_)
    refine (wo_storeB (i := 0) (us := [_]) (l' := [_, _, _, _, _]) (H' := [_, _, _, _]) rfl rfl S17 rfl rfl rfl rfl sz3 rfl rfl rfl rfl ?_)
    intro w17 S18; clear S17
    refine LeftW.grow [_] (Hp.le_refl _) S18 ?_; clear S18
    change WA _ _ _ _ _ _ _ _ _ _ _ _ [_, _, _, _]
    refine wa_end (by kernel_rfl) (fun w18 S19 => ?_)
    refine nm_sub [(6, _), (7, _)] ⟨rfl, rfl, trivial⟩ ?_
    refine nm_thn ?_
    refine ws_seqN Make_n11 Make_n12 rfl rfl rfl ?_
    refine ws_region rfl ?_
    refine wl_op (k := 0) (k' := 1) rfl rfl rfl (wo_run rfl rfl (run_loadN (us := [_, _, _, _, _]) rfl rfl Try.underlying73 rfl sz73 (S19.boxcs (i := 0) rfl ⟨rfl, rfl, rfl, rfl, rfl, trivial⟩)) ?_)
    refine wl_op (k := 1) (k' := 2) rfl rfl rfl (wo_storeB (i := 1) (us := [_, _, _, _, _]) (l' := [_, _, _, _, _]) (H' := [_, _, _, _]) rfl rfl S19 rfl rfl rfl rfl sz73 rfl rfl rfl rfl ?_)
    intro w19 S20; clear S19
    refine wl_end rfl ?_
    refine nm_sub [(6, _)] ⟨rfl, trivial⟩ ?_
    refine nm_thn ?_
    refine ws_ret hC [_] rfl rfl ⟨⟨_, rfl, loadVarN (us := [_, _, _, _, _]) Try.underlying73 rfl sz73 (S20.boxcs (i := 1) rfl ⟨rfl, rfl, rfl, rfl, rfl, trivial⟩)⟩, trivial⟩ ?_
    exact ⟨_, rfl, (S20.pick [] [] (by decide) trivial), (by subst hb18; rfl)⟩
  · refine ws_skip rfl ?_
    refine nm_sub [(6, _), (7, _)] ⟨rfl, rfl, trivial⟩ ?_
    refine nm_thn ?_
    refine ws_seqN Make_n11 Make_n12 rfl rfl rfl ?_
    refine ws_region rfl ?_
    refine wl_op (k := 0) (k' := 1) rfl rfl rfl (wo_run rfl rfl (run_loadN (us := [_, _, _, _, _]) rfl rfl Try.underlying73 rfl sz73 (S5.boxcs (i := 0) rfl ⟨rfl, rfl, rfl, rfl, rfl, trivial⟩)) ?_)
    refine wl_op (k := 1) (k' := 2) rfl rfl rfl (wo_storeB (i := 1) (us := [_, _, _, _, _]) (l' := [_, _, _, _, _]) (H' := [_, _, _, _]) rfl rfl S5 rfl rfl rfl rfl sz73 rfl rfl rfl rfl ?_)
    intro w20 S21; clear S5
    refine wl_end rfl ?_
    refine nm_sub [(6, _)] ⟨rfl, trivial⟩ ?_
    refine nm_thn ?_
    refine ws_ret hC [_] rfl rfl ⟨⟨_, rfl, loadVarN (us := [_, _, _, _, _]) Try.underlying73 rfl sz73 (S21.boxcs (i := 1) rfl ⟨rfl, rfl, rfl, rfl, rfl, trivial⟩)⟩, trivial⟩ ?_
    exact ⟨_, rfl, (S21.pick [] [] (by decide) trivial), (by subst hb18; rfl)⟩

noncomputable def SameDiagram_n0 : Code := Try.f14.body.getD .skip
noncomputable def SameDiagram_n1 : Code := cL SameDiagram_n0
noncomputable def SameDiagram_n2 : Code := cR SameDiagram_n0
noncomputable def SameDiagram_n3 : Code := cL SameDiagram_n2
noncomputable def SameDiagram_n4 : Code := cR SameDiagram_n2
noncomputable def SameDiagram_n5 : Code := cL SameDiagram_n3
noncomputable def SameDiagram_n6 : Code := cR SameDiagram_n3
noncomputable def SameDiagram_n7 : Code := cL SameDiagram_n6
noncomputable def SameDiagram_n8 : Code := cR SameDiagram_n6
noncomputable def SameDiagram_n9 : Code := cL SameDiagram_n4
noncomputable def SameDiagram_n10 : Code := cR SameDiagram_n4
noncomputable def SameDiagram_n11 : Code := cL SameDiagram_n9
noncomputable def SameDiagram_n12 : Code := cR SameDiagram_n9
noncomputable def SameDiagram_n13 : Code := cL SameDiagram_n12
noncomputable def SameDiagram_n14 : Code := cL SameDiagram_n13
noncomputable def SameDiagram_n15 : Code := cL SameDiagram_n14
noncomputable def SameDiagram_n16 : Code := cR SameDiagram_n14
noncomputable def SameDiagram_n17 : Code := cL SameDiagram_n15
noncomputable def SameDiagram_n18 : Code := cR SameDiagram_n15
noncomputable def SameDiagram_n19 : Code := cL SameDiagram_n18
noncomputable def SameDiagram_n20 : Code := cR SameDiagram_n18
noncomputable def SameDiagram_n21 : Code := cL SameDiagram_n16
noncomputable def SameDiagram_n22 : Code := cR SameDiagram_n16
noncomputable def SameDiagram_n23 : Code := cL SameDiagram_n21
noncomputable def SameDiagram_n24 : Code := cL SameDiagram_n23
noncomputable def SameDiagram_n25 : Code := cR SameDiagram_n23
noncomputable def SameDiagram_n26 : Code := cL SameDiagram_n25
noncomputable def SameDiagram_n27 : Code := cR SameDiagram_n25
noncomputable def SameDiagram_n28 : Code := cL SameDiagram_n10
noncomputable def SameDiagram_n29 : Code := cR SameDiagram_n10
set_option maxRecDepth 10000 in
theorem SameDiagram_q {w : World} {M : Hp} {X : Fr} (a : Dg) {acrsA : Option Addr} {acrsc : Nat} (b : Dg) {bcrsA : Option Addr} {bcrsc : Nat} (hacrs : RdA cdCr (M.un X.h) acrsA acrsc a.crs) (hbcrs : RdA cdCr (M.un X.h) bcrsA bcrsc b.crs) (he : a = b) (S : SH w M X []) : Cq Try.prog 14 [.agg [.slice acrsA a.crs.length acrsc, .int .i64 a.loops].toArray, .agg [.slice bcrsA b.crs.length bcrsc, .int .i64 b.loops].toArray] w M X (fun u => u = .bool true) := by
  unfold Cq
  have rmhacrs : a.crs.length * 40 ≤ 140737488355328 := hacrs.room
  have rmhbcrs : b.crs.length * 40 ≤ 140737488355328 := hbcrs.room
  have hle : a.crs.length = b.crs.length := by rw [he]
  have hlo : a.loops = b.loops := by rw [he]
  refine calls_in (b := SameDiagram_n0) Try.func14 rfl Try.ntmps14 rfl (fun C hC => ?_)
  refine ws_sub [(0, _), (1, _)] ⟨rfl, rfl, trivial⟩ ?_
  refine ws_seqN SameDiagram_n1 SameDiagram_n2 rfl rfl rfl ?_
  refine ws_region rfl ?_
  refine wl_op (k := 0) (k' := 1) rfl rfl rfl (wo_box (l := [_, _]) rfl rfl rfl rfl rfl S ?_)
  intro gb1 w1 S1; clear S
  refine wl_op (k := 1) (k' := 2) rfl rfl rfl (wo_box (l := [_, _]) rfl rfl rfl rfl rfl S1 ?_)
  intro gb2 w2 S2; clear S1
  refine wl_op (k := 2) (k' := 3) rfl rfl rfl (wo_run rfl rfl (run_assign rfl rfl) ?_)
  refine wl_end rfl ?_
  refine nm_sub [(2, _), (3, _)] ⟨rfl, rfl, trivial⟩ ?_
  refine nm_thn ?_
  refine ws_seqN SameDiagram_n3 SameDiagram_n4 rfl rfl rfl ?_
  refine ws_seqN SameDiagram_n5 SameDiagram_n6 rfl rfl rfl ?_
  refine ws_region rfl ?_
  refine wl_op (k := 0) (k' := 1) rfl rfl rfl (wo_run rfl rfl (run_fieldAddr rfl rfl Try.underlying27 rfl (ce3) (nf3)) ?_)
  refine wl_op (k := 1) (k' := 2) rfl rfl rfl (wo_run rfl rfl (run_load1 rfl rfl Try.underlying3 rfl (S2.boxc (i := 1) rfl rfl)) ?_)
  refine wl_op (k := 2) (k' := 3) rfl rfl rfl (wo_run rfl rfl (run_fieldAddr rfl rfl Try.underlying27 rfl (ce3) (nf3)) ?_)
  refine wl_op (k := 3) (k' := 4) rfl rfl rfl (wo_run rfl rfl (run_load1 rfl rfl Try.underlying3 rfl (S2.boxc (i := 0) rfl rfl)) ?_)
  refine wl_op (k := 4) (k' := 5) rfl rfl rfl (wo_run rfl rfl (run_neq rfl rfl rfl) ?_)
  refine wl_op (k := 5) (k' := 6) rfl rfl rfl (wo_run rfl rfl (run_move rfl rfl) ?_)
  refine wl_split (t := 11) rfl (fun hg11 => ?_) (fun hg11 => ?_)
  · have hg11 := of_decide_eq_true hg11
    exfalso; omega
  · have hg11 := of_decide_eq_false hg11
    refine wl_opG (k := 6) (k' := 7) rfl rfl ⟨_, _, _, rfl, rfl, rfl, rfl⟩ rfl (wo_run rfl rfl (run_fieldAddr rfl rfl Try.underlying27 rfl (ce25) (nf25)) ?_)
    refine wl_opG (k := 7) (k' := 8) rfl rfl ⟨_, _, _, rfl, rfl, rfl, rfl⟩ rfl (wo_run rfl rfl (run_load1 rfl rfl Try.underlying25 rfl (S2.boxc (i := 1) rfl rfl)) ?_)
    refine wl_opG (k := 8) (k' := 9) rfl rfl ⟨_, _, _, rfl, rfl, rfl, rfl⟩ rfl (wo_run rfl rfl (run_len rfl rfl rfl rfl rfl rfl Try.underlying25) ?_)
    refine wl_opG (k := 9) (k' := 10) rfl rfl ⟨_, _, _, rfl, rfl, rfl, rfl⟩ rfl (wo_run rfl rfl (run_fieldAddr rfl rfl Try.underlying27 rfl (ce25) (nf25)) ?_)
    refine wl_opG (k := 10) (k' := 11) rfl rfl ⟨_, _, _, rfl, rfl, rfl, rfl⟩ rfl (wo_run rfl rfl (run_load1 rfl rfl Try.underlying25 rfl (S2.boxc (i := 0) rfl rfl)) ?_)
    refine wl_opG (k := 11) (k' := 12) rfl rfl ⟨_, _, _, rfl, rfl, rfl, rfl⟩ rfl (wo_run rfl rfl (run_len rfl rfl rfl rfl rfl rfl Try.underlying25) ?_)
    refine wl_opG (k := 12) (k' := 13) rfl rfl ⟨_, _, _, rfl, rfl, rfl, rfl⟩ rfl (wo_run rfl rfl (run_neq rfl rfl rfl) ?_)
    refine wl_op (k := 13) (k' := 14) rfl rfl rfl (wo_run rfl rfl (run_pickF rfl rfl rfl) ?_)
    refine wl_end rfl ?_
    refine nm_sub [(2, _), (3, _), (19, _)] ⟨rfl, rfl, rfl, trivial⟩ ?_
    refine nm_thn ?_
    refine ws_condN SameDiagram_n7 SameDiagram_n8 rfl rfl rfl rfl (fun hb19 => ?_) (fun hb19 => ?_)
    · have hb19 := of_decide_eq_true hb19
      exfalso; omega
    · have hb19 := of_decide_eq_false hb19
      refine ws_skip rfl ?_
      refine nm_sub [(2, _), (3, _)] ⟨rfl, rfl, trivial⟩ ?_
      refine nm_thn ?_
      refine ws_seqN SameDiagram_n9 SameDiagram_n10 rfl rfl rfl ?_
      refine ws_seqN SameDiagram_n11 SameDiagram_n12 rfl rfl rfl ?_
      refine ws_region rfl ?_
      refine wl_op (k := 0) (k' := 1) rfl rfl rfl (wo_run rfl rfl (run_assign rfl rfl) ?_)
      refine wl_end rfl ?_
      refine nm_thn ?_
      refine ws_blockN SameDiagram_n13 0 rfl rfl rfl ?_
      refine ws_loopE (fun mx_ ax_ wx_ => ∃ (k : Nat), mx_ = a.crs.length - k ∧ Env 38 [(2, .pointer (some ⟨gb1, 0, none⟩)), (3, .pointer (some ⟨gb2, 0, none⟩)), (5, .int .i64 (k : Int))] ax_ ∧ SH wx_ M X [Rs.box gb2 27 [.slice bcrsA b.crs.length bcrsc, .int .i64 b.loops], Rs.box gb1 27 [.slice acrsA a.crs.length acrsc, .int .i64 a.loops]] ∧ k ≤ a.crs.length) rfl ?_ ?_
      · intro ax_ hax_
        refine ⟨_, ⟨0, rfl, hax_.sub ⟨rfl, rfl, rfl, trivial⟩, S2.pick [0, 1] [_, _] (by decide) ⟨rfl, rfl, trivial⟩, ?hq1f0⟩⟩
        case hq1f0 => omega
      · rintro m1 a1 w3 ⟨k, rfl, he1, S3, hk⟩
        clear S2
        refine ws_in he1 (c := SameDiagram_n14) rfl ?_
        clear he1 a1
        refine ws_seqN SameDiagram_n15 SameDiagram_n16 rfl rfl rfl ?_
        refine ws_seqN SameDiagram_n17 SameDiagram_n18 rfl rfl rfl ?_
        refine ws_region rfl ?_
        refine wl_op (k := 0) (k' := 1) rfl rfl rfl (wo_run rfl rfl (run_move rfl rfl) ?_)
        refine wl_op (k := 1) (k' := 2) rfl rfl rfl (wo_run rfl rfl (run_fieldAddr rfl rfl Try.underlying27 rfl (ce25) (nf25)) ?_)
        refine wl_op (k := 2) (k' := 3) rfl rfl rfl (wo_run rfl rfl (run_load1 rfl rfl Try.underlying25 rfl (S3.boxc (i := 1) rfl rfl)) ?_)
        refine wl_op (k := 3) (k' := 4) rfl rfl rfl (wo_run rfl rfl (run_len rfl rfl rfl rfl rfl rfl Try.underlying25) ?_)
        refine wl_op (k := 4) (k' := 5) rfl rfl rfl (wo_run rfl rfl (run_lss rfl rfl rfl) ?_)
        refine wl_end rfl ?_
        refine nm_sub [(2, _), (3, _), (5, _), (24, _)] ⟨rfl, rfl, rfl, rfl, trivial⟩ ?_
        refine nm_thn ?_
        refine ws_condN SameDiagram_n19 SameDiagram_n20 rfl rfl rfl rfl (fun hb24 => ?_) (fun hb24 => ?_)
        · have hb24 := of_decide_eq_true hb24
          refine ws_skip rfl ?_
          refine nm_sub [(2, _), (3, _), (5, _)] ⟨rfl, rfl, rfl, trivial⟩ ?_
          refine nm_thn ?_
          refine ws_seqN SameDiagram_n21 SameDiagram_n22 rfl rfl rfl ?_
          refine ws_blockN SameDiagram_n23 1 rfl rfl rfl ?_
          refine ws_seqN SameDiagram_n24 SameDiagram_n25 rfl rfl rfl ?_
          refine ws_draw rfl (by kernel_rfl) S3 11 rfl ?_
          clear S3
          refine wa_takeP (i := 0) (d := 27) 10 rfl (by kernel_rfl) (by kernel_rfl) (by kernel_rfl) rfl rfl rfl (fun w4 => run_fieldAddr rfl rfl Try.underlying27 rfl (ce25) (nf25)) ?_
          refine wa_take (i := 1) (d := 28) 9 rfl (by kernel_rfl) (by kernel_rfl) (by kernel_rfl) rfl rfl rfl (fun M2 N2 w5 hle3 S5 => .inl (run_load1 rfl rfl Try.underlying25 rfl (S5.suf.boxc (i := 1) rfl rfl))) ?_
          refine wa_takeP (i := 2) (d := 29) 8 rfl (by kernel_rfl) (by kernel_rfl) (by kernel_rfl) rfl rfl rfl (fun w6 => run_move rfl rfl) ?_
          refine wa_take (i := 3) (d := 30) 7 rfl (by kernel_rfl) (by kernel_rfl) (by kernel_rfl) rfl rfl rfl (fun M4 N4 w7 hle5 S7 => .inl (run_indexM (C := cdCr) k rfl rfl rfl sl25 (by first | rfl | omega) (hacrs.mono (Hp.un_mono hle5 S7.mx)) (by first | omega | (simp only [List.length_set, List.length_append, List.length_replicate, List.length_singleton, List.length_cons, List.length_nil]; omega)))) ?_
          refine wa_take (i := 4) (d := 31) 6 rfl (by kernel_rfl) (by kernel_rfl) (by kernel_rfl) rfl rfl rfl (fun M5 N5 w8 hle6 S8 => .inl (run_loadN (us := [_, _, _, _, _]) rfl rfl Try.underlying73 rfl sz73 ((hacrs.mono (Hp.un_mono hle6 S8.mx)).cellsAt S8.um (e := k) (by first | omega | (simp only [List.length_set, List.length_append, List.length_replicate, List.length_singleton, List.length_cons, List.length_nil]; omega)) (j := 0) ⟨rfl, rfl, rfl, rfl, rfl, trivial⟩))) ?_
          refine wa_takeP (i := 5) (d := 32) 5 rfl (by kernel_rfl) (by kernel_rfl) (by kernel_rfl) rfl rfl rfl (fun w9 => run_fieldAddr rfl rfl Try.underlying27 rfl (ce25) (nf25)) ?_
          refine wa_take (i := 6) (d := 33) 4 rfl (by kernel_rfl) (by kernel_rfl) (by kernel_rfl) rfl rfl rfl (fun M7 N7 w10 hle8 S10 => .inl (run_load1 rfl rfl Try.underlying25 rfl (S10.suf.boxc (i := 0) rfl rfl))) ?_
          refine wa_takeP (i := 7) (d := 34) 3 rfl (by kernel_rfl) (by kernel_rfl) (by kernel_rfl) rfl rfl rfl (fun w11 => run_move rfl rfl) ?_
          refine wa_take (i := 8) (d := 35) 2 rfl (by kernel_rfl) (by kernel_rfl) (by kernel_rfl) rfl rfl rfl (fun M9 N9 w12 hle10 S12 => .inl (run_indexM (C := cdCr) k rfl rfl rfl sl25 (by first | rfl | omega) (hbcrs.mono (Hp.un_mono hle10 S12.mx)) (by first | omega | (simp only [List.length_set, List.length_append, List.length_replicate, List.length_singleton, List.length_cons, List.length_nil]; omega)))) ?_
          refine wa_take (i := 9) (d := 36) 1 rfl (by kernel_rfl) (by kernel_rfl) (by kernel_rfl) rfl rfl rfl (fun M10 N10 w13 hle11 S13 => .inl (run_loadN (us := [_, _, _, _, _]) rfl rfl Try.underlying73 rfl sz73 ((hbcrs.mono (Hp.un_mono hle11 S13.mx)).cellsAt S13.um (e := k) (by first | omega | (simp only [List.length_set, List.length_append, List.length_replicate, List.length_singleton, List.length_cons, List.length_nil]; omega)) (j := 0) ⟨rfl, rfl, rfl, rfl, rfl, trivial⟩))) ?_
          refine wa_takeP (i := 10) (d := 37) 0 rfl (by kernel_rfl) (by kernel_rfl) (by kernel_rfl) rfl rfl rfl (fun w14 => run_neSt (Q := ((ga a.crs k).a) = ((ga b.crs k).a) ∧ ((ga a.crs k).b) = ((ga b.crs k).b) ∧ ((ga a.crs k).c) = ((ga b.crs k).c) ∧ ((ga a.crs k).d) = ((ga b.crs k).d) ∧ ((ga a.crs k).plus) = ((ga b.crs k).plus)) rfl rfl rfl se73 ⟨_, _, _, _, rfl, rfl, ⟨_, _, _, _, rfl, rfl, ⟨_, _, _, _, rfl, rfl, ⟨_, _, _, _, rfl, rfl, ⟨_, _, rfl, rfl, rfl⟩, rfl⟩, rfl⟩, rfl⟩, rfl⟩) ?_
          refine wa_end (by kernel_rfl) (fun w15 S15 => ?_)
          refine nm_sub [(2, _), (3, _), (5, _), (37, _)] ⟨rfl, rfl, rfl, rfl, trivial⟩ ?_
          refine nm_thn ?_
          refine ws_condN SameDiagram_n26 SameDiagram_n27 rfl rfl rfl rfl (fun hb37 => ?_) (fun hb37 => ?_)
          · have hb37 := of_decide_eq_true hb37
            exfalso; exact hb37 (by rw [he]; simp)
          · have hb37 := of_decide_eq_false hb37
            refine ws_skip rfl ?_
            refine nm_blk ?_
            refine nm_sub [(2, _), (3, _), (5, _)] ⟨rfl, rfl, rfl, trivial⟩ ?_
            refine nm_thn ?_
            refine ws_region rfl ?_
            refine wl_op (k := 0) (k' := 1) rfl rfl rfl (wo_run rfl rfl (run_move rfl rfl) ?_)
            refine wl_op (k := 1) (k' := 2) rfl rfl rfl (wo_run rfl rfl (run_add rfl rfl rfl (by first | omega | (simp only [List.length_set, List.length_append, List.length_replicate, List.length_singleton, List.length_cons, List.length_nil]; omega))) ?_)
            refine wl_op (k := 2) (k' := 3) rfl rfl rfl (wo_run rfl rfl (run_assign rfl rfl) ?_)
            refine wl_end rfl ?_
            refine nm_lp ?_
            intro ax_ hax_
            refine ⟨_, ?hq2m, ⟨k + 1, rfl, hax_.sub ⟨rfl, rfl, rfl, trivial⟩, S15.pick [0, 1] [_, _] (by decide) ⟨rfl, rfl, trivial⟩, ?hq2f0⟩⟩
            case hq2f0 => omega
            case hq2m => omega
        · have hb24 := of_decide_eq_false hb24
          refine ws_exit rfl rfl ?_
          refine nm_sub [] trivial ?_
          refine nm_thn ?_
          refine ws_seqN SameDiagram_n28 SameDiagram_n29 rfl rfl rfl ?_
          refine ws_region rfl ?_
          refine wl_op (k := 0) (k' := 1) rfl rfl rfl (wo_run rfl rfl (run_assign rfl rfl) ?_)
          refine wl_end rfl ?_
          refine nm_thn ?_
          refine ws_ret hC [_] rfl rfl ⟨rfl, trivial⟩ ?_
          exact ⟨_, rfl, (S3.pick [] [] (by decide) trivial), rfl⟩

/-- A visit is counted: below, above. -/
def bump (cs : List I2) (v : Vi) : List I2 := cs.set v.c.toNat (if v.o then ⟨(ga cs v.c.toNat).a, wr ((ga cs v.c.toNat).b + 1)⟩ else ⟨wr ((ga cs v.c.toNat).a + 1), (ga cs v.c.toNat).b⟩)
def cntP (p : List Vi) (cs : List I2) (k : Nat) : List I2 := (List.range k).foldl (fun cs j => bump cs (ga p j)) cs
def cntL (l : List (List Vi)) (cs : List I2) (k : Nat) : List I2 := (List.range k).foldl (fun cs i => cntP (ga l i) cs (ga l i).length) cs
theorem cntP_succ (p : List Vi) (cs : List I2) (k : Nat) : cntP p cs (k + 1) = bump (cntP p cs k) (ga p k) := by unfold cntP; rw [List.range_succ, List.foldl_append]; rfl
theorem cntL_succ (l : List (List Vi)) (cs : List I2) (k : Nat) : cntL l cs (k + 1) = cntP (ga l k) (cntL l cs k) (ga l k).length := by unfold cntL; rw [List.range_succ, List.foldl_append]; rfl
theorem bump_len (cs : List I2) (v : Vi) : (bump cs v).length = cs.length := by simp [bump]
def cnt0 (n : Nat) : List I2 := List.replicate n ⟨0, 0⟩
def oneI (x : I2) : Prop := x.a = 1 ∧ x.b = 1
instance (x : I2) : Decidable (oneI x) := inferInstanceAs (Decidable (_ ∧ _))
def allI (cs : List I2) (n : Nat) : Bool := (List.range n).all fun c => decide (oneI (ga cs c))
def twB (n : Nat) (l : List (List Vi)) : Bool := allI (cntL l (cnt0 n) l.length) n
theorem allI_true {cs : List I2} {n : Nat} (h : ∀ j, j < n → oneI (ga cs j)) : allI cs n = true := by
  unfold allI; rw [List.all_eq_true]; intro c hc; exact decide_eq_true (h c (by simpa using hc))
theorem allI_false {cs : List I2} {n k : Nat} (hk : k < n) (h : ¬ oneI (ga cs k)) : allI cs n = false := by
  unfold allI; rw [List.all_eq_false]; exact ⟨k, by simpa using hk, by simpa using h⟩
/-- The visits lie within bounds. -/
def okP (n : Nat) (p : List Vi) (k : Nat) : Prop := ∀ j, j < k → 0 ≤ (ga p j).c ∧ (ga p j).c < n
def okL (n : Nat) (l : List (List Vi)) (k : Nat) : Prop := ∀ i, i < k → okP n (ga l i) (ga l i).length
def badP (n : Nat) (p : List Vi) : Bool := (List.range p.length).any fun j => decide ((ga p j).c < 0 ∨ n ≤ (ga p j).c)
def badL (n : Nat) (l : List (List Vi)) : Bool := (List.range l.length).any fun i => badP n (ga l i)
theorem badL_true {n : Nat} {l : List (List Vi)} {i j : Nat} (hi : i < l.length) (hj : j < (ga l i).length) (h : (ga (ga l i) j).c < 0 ∨ (n : Int) ≤ (ga (ga l i) j).c) : badL n l = true := by
  unfold badL; rw [List.any_eq_true]; refine ⟨i, by simpa using hi, ?_⟩
  unfold badP; rw [List.any_eq_true]; exact ⟨j, by simpa using hj, decide_eq_true h⟩
theorem badL_false {n : Nat} {l : List (List Vi)} (h : okL n l l.length) : badL n l = false := by
  unfold badL; rw [List.any_eq_false]; intro i hi
  unfold badP; rw [Bool.not_eq_true, List.any_eq_false]; intro j hj
  have := h i (by simpa using hi) j (by simpa using hj)
  rw [decide_eq_true_eq]; omega
def emT (b : Bool) (l : List (List Vi)) (k : Nat) : Bool := (List.range k).foldl (fun b i => b || decide (((ga l i).length : Int) = 0)) b
theorem emT_succ (b : Bool) (l : List (List Vi)) (k : Nat) : emT b l (k + 1) = (emT b l k || decide (((ga l k).length : Int) = 0)) := by unfold emT; rw [List.range_succ, List.foldl_append]; rfl
def buildE (n : Nat) (l : List (List Vi)) (loops : Int) : Int :=
  if 16 < n ∨ loops < 0 ∨ 16 < loops then 2 else if badL n l = true then 3 else if twB n l = false then 10 else if emT (decide ((n : Int) + loops = 0)) l l.length = true then 7 else 0

noncomputable def twice_n0 : Code := Try.f80.body.getD .skip
noncomputable def twice_n1 : Code := cL twice_n0
noncomputable def twice_n2 : Code := cR twice_n0
noncomputable def twice_n3 : Code := cL twice_n2
noncomputable def twice_n4 : Code := cR twice_n2
noncomputable def twice_n5 : Code := cL twice_n4
noncomputable def twice_n6 : Code := cR twice_n4
noncomputable def twice_n7 : Code := cL twice_n5
noncomputable def twice_n8 : Code := cR twice_n5
noncomputable def twice_n9 : Code := cL twice_n8
noncomputable def twice_n10 : Code := cL twice_n9
noncomputable def twice_n11 : Code := cL twice_n10
noncomputable def twice_n12 : Code := cR twice_n10
noncomputable def twice_n13 : Code := cL twice_n12
noncomputable def twice_n14 : Code := cR twice_n12
noncomputable def twice_n15 : Code := cL twice_n13
noncomputable def twice_n16 : Code := cR twice_n13
noncomputable def twice_n17 : Code := cL twice_n14
noncomputable def twice_n18 : Code := cR twice_n14
noncomputable def twice_n19 : Code := cL twice_n17
noncomputable def twice_n20 : Code := cL twice_n19
noncomputable def twice_n21 : Code := cR twice_n19
noncomputable def twice_n22 : Code := cL twice_n21
noncomputable def twice_n23 : Code := cR twice_n21
noncomputable def twice_n24 : Code := cL twice_n23
noncomputable def twice_n25 : Code := cL twice_n24
noncomputable def twice_n26 : Code := cL twice_n25
noncomputable def twice_n27 : Code := cR twice_n25
noncomputable def twice_n28 : Code := cL twice_n27
noncomputable def twice_n29 : Code := cR twice_n27
noncomputable def twice_n30 : Code := cL twice_n28
noncomputable def twice_n31 : Code := cR twice_n28
noncomputable def twice_n32 : Code := cL twice_n29
noncomputable def twice_n33 : Code := cR twice_n29
noncomputable def twice_n34 : Code := cL twice_n32
noncomputable def twice_n35 : Code := cL twice_n34
noncomputable def twice_n36 : Code := cR twice_n34
noncomputable def twice_n37 : Code := cL twice_n36
noncomputable def twice_n38 : Code := cR twice_n36
noncomputable def twice_n39 : Code := cL twice_n38
noncomputable def twice_n40 : Code := cR twice_n38
noncomputable def twice_n41 : Code := cL twice_n39
noncomputable def twice_n42 : Code := cR twice_n39
noncomputable def twice_n43 : Code := cL twice_n42
noncomputable def twice_n44 : Code := cR twice_n42
noncomputable def twice_n45 : Code := cL twice_n6
noncomputable def twice_n46 : Code := cR twice_n6
noncomputable def twice_n47 : Code := cL twice_n45
noncomputable def twice_n48 : Code := cR twice_n45
noncomputable def twice_n49 : Code := cL twice_n48
noncomputable def twice_n50 : Code := cL twice_n49
noncomputable def twice_n51 : Code := cL twice_n50
noncomputable def twice_n52 : Code := cR twice_n50
noncomputable def twice_n53 : Code := cL twice_n52
noncomputable def twice_n54 : Code := cR twice_n52
noncomputable def twice_n55 : Code := cL twice_n53
noncomputable def twice_n56 : Code := cR twice_n53
noncomputable def twice_n57 : Code := cL twice_n54
noncomputable def twice_n58 : Code := cR twice_n54
noncomputable def twice_n59 : Code := cL twice_n57
noncomputable def twice_n60 : Code := cL twice_n59
noncomputable def twice_n61 : Code := cR twice_n59
noncomputable def twice_n62 : Code := cL twice_n61
noncomputable def twice_n63 : Code := cR twice_n61
noncomputable def twice_n64 : Code := cL twice_n63
noncomputable def twice_n65 : Code := cR twice_n63
noncomputable def twice_n66 : Code := cL twice_n64
noncomputable def twice_n67 : Code := cR twice_n64
noncomputable def twice_n68 : Code := cL twice_n46
noncomputable def twice_n69 : Code := cR twice_n46
set_option maxRecDepth 10000 in
theorem twice_q {w : World} {M : Hp} {X : Fr} (l : List (List Vi)) {lA : Option Addr} {lc : Nat} {lv : List SlV} (n : Nat) (hl : RdA (cdV 24) (M.un X.h) lA lc lv) (hdl : Rd2 cdVi (M.un X.h) lv l) (hok : okL n l l.length) (hn : n ≤ 16) (S : SH w M X []) : Cq Try.prog 80 [.slice lA lv.length lc, .int .i64 (n : Int)] w M X (fun u => u = .bool (twB n l)) := by
  unfold Cq
  have rmhl : lv.length * 24 ≤ 140737488355328 := hl.room
  refine calls_in (b := twice_n0) Try.func80 rfl Try.ntmps80 rfl (fun C hC => ?_)
  refine ws_sub [(0, _), (1, _)] ⟨rfl, rfl, trivial⟩ ?_
  refine ws_seqN twice_n1 twice_n2 rfl rfl rfl ?_
  refine ws_region rfl ?_
  refine wl_op (k := 0) (k' := 1) rfl rfl rfl (wo_run rfl rfl (run_assign rfl rfl) ?_)
  refine wl_end rfl ?_
  refine nm_sub [(0, _), (1, _)] ⟨rfl, rfl, trivial⟩ ?_
  refine nm_thn ?_
  refine ws_seqN twice_n3 twice_n4 rfl rfl rfl ?_
  refine ws_region rfl ?_
  refine wl_op (k := 0) (k' := 1) rfl rfl rfl (wo_run rfl rfl (run_move rfl rfl) ?_)
  refine wl_op (k := 1) (k' := 2) rfl rfl rfl (wo_make (C := cdI2) n rfl rfl rfl rfl rfl sl68 (by first | rfl | omega) (by show _ * 16 ≤ _; first | omega | (simp only [List.length_set, List.length_append, List.length_replicate, List.length_singleton, List.length_cons, List.length_nil]; omega)) S ?_)
  intro vr1 w1 S1; clear S
  refine wl_op (k := 2) (k' := 3) rfl rfl rfl (wo_run rfl rfl (run_assign rfl rfl) ?_)
  refine wl_end rfl ?_
  refine nm_sub [(0, _), (5, _)] ⟨rfl, rfl, trivial⟩ ?_
  refine nm_thn ?_
  refine ws_seqN twice_n5 twice_n6 rfl rfl rfl ?_
  refine ws_seqN twice_n7 twice_n8 rfl rfl rfl ?_
  refine ws_region rfl ?_
  refine wl_op (k := 0) (k' := 1) rfl rfl rfl (wo_run rfl rfl (run_move rfl rfl) ?_)
  refine wl_op (k := 1) (k' := 2) rfl rfl rfl (wo_run rfl rfl (run_len rfl rfl rfl rfl rfl rfl Try.underlying22) ?_)
  refine wl_op (k := 2) (k' := 3) rfl rfl rfl (wo_run rfl rfl (run_move rfl rfl) ?_)
  refine wl_end rfl ?_
  refine nm_sub [(5, _), (15, _), (16, _), (17, _)] ⟨rfl, rfl, rfl, rfl, trivial⟩ ?_
  refine nm_thn ?_
  refine ws_blockN twice_n9 0 rfl rfl rfl ?_
  refine ws_loopE (fun mx_ ax_ wx_ => ∃ (k : Nat) (cs : List I2) (vrc : Value), mx_ = lv.length - k ∧ Env 51 [(5, vrc), (15, .slice lA lv.length lc), (16, .int .i64 (lv.length : Int)), (17, .int .i64 (k : Int))] ax_ ∧ SH wx_ M X [Rs.row cdI2 vrc cs] ∧ k ≤ lv.length ∧ cs = cntL l (cnt0 n) k ∧ cs.length = n) rfl ?_ ?_
  · intro ax_ hax_
    refine ⟨_, ⟨0, _, _, rfl, hax_.sub ⟨rfl, rfl, rfl, rfl, trivial⟩, S1.pick [0] [_] (by decide) ⟨rfl, trivial⟩, ?hq1f0, ?hq1f1, ?hq1f2⟩⟩
    case hq1f0 => omega
    case hq1f1 => rfl
    case hq1f2 => simp
  · rintro m1 a1 w2 ⟨k, cs, vrc, rfl, he1, S2, hk, hcs, hcl⟩
    clear S1
    refine ws_in he1 (c := twice_n10) rfl ?_
    clear he1 a1
    have hlv := hdl.1
    refine ws_seqN twice_n11 twice_n12 rfl rfl rfl ?_
    refine ws_region rfl ?_
    refine wl_op (k := 0) (k' := 1) rfl rfl rfl (wo_run rfl rfl (run_lss rfl rfl rfl) ?_)
    refine wl_end rfl ?_
    refine nm_thn ?_
    refine ws_seqN twice_n13 twice_n14 rfl rfl rfl ?_
    refine ws_condN twice_n15 twice_n16 rfl rfl rfl rfl (fun hb18 => ?_) (fun hb18 => ?_)
    · have hb18 := of_decide_eq_true hb18
      refine ws_skip rfl ?_
      refine nm_sub [(5, _), (15, _), (16, _), (17, _)] ⟨rfl, rfl, rfl, rfl, trivial⟩ ?_
      refine nm_thn ?_
      refine ws_seqN twice_n17 twice_n18 rfl rfl rfl ?_
      refine ws_blockN twice_n19 1 rfl rfl rfl ?_
      refine ws_seqN twice_n20 twice_n21 rfl rfl rfl ?_
      refine ws_region rfl ?_
      refine wl_op (k := 0) (k' := 1) rfl rfl rfl (wo_run rfl rfl (run_indexM (C := (cdV 24)) k rfl rfl rfl sl22 (by first | rfl | omega) hl (by first | omega | (simp only [List.length_set, List.length_append, List.length_replicate, List.length_singleton, List.length_cons, List.length_nil]; omega))) ?_)
      obtain ⟨hn1, hr1⟩ := hdl.2 k (by first | omega | (simp only [List.length_set, List.length_append, List.length_replicate, List.length_singleton, List.length_cons, List.length_nil]; omega))
      have rmhr1 : (ga l k).length * 16 ≤ 140737488355328 := hr1.room
      refine wl_op (k := 1) (k' := 2) rfl rfl rfl (wo_run rfl rfl (run_load1 rfl rfl Try.underlying24 rfl (hl.cell S2.um (i := k) (by first | omega | (simp only [List.length_set, List.length_append, List.length_replicate, List.length_singleton, List.length_cons, List.length_nil]; omega)) 0 rfl (congrArg (fun n => some (Value.slice _ n _)) hn1))) ?_)
      refine wl_op (k := 2) (k' := 3) rfl rfl rfl (wo_run rfl rfl (run_assign rfl rfl) ?_)
      refine wl_end rfl ?_
      refine nm_sub [(5, _), (15, _), (16, _), (17, _), (7, _)] ⟨rfl, rfl, rfl, rfl, rfl, trivial⟩ ?_
      refine nm_thn ?_
      refine ws_seqN twice_n22 twice_n23 rfl rfl rfl ?_
      refine ws_region rfl ?_
      refine wl_op (k := 0) (k' := 1) rfl rfl rfl (wo_run rfl rfl (run_move rfl rfl) ?_)
      refine wl_op (k := 1) (k' := 2) rfl rfl rfl (wo_run rfl rfl (run_len rfl rfl rfl rfl rfl rfl Try.underlying24) ?_)
      refine wl_op (k := 2) (k' := 3) rfl rfl rfl (wo_run rfl rfl (run_move rfl rfl) ?_)
      refine wl_end rfl ?_
      refine nm_sub [(5, _), (15, _), (16, _), (17, _), (21, _), (22, _), (23, _)] ⟨rfl, rfl, rfl, rfl, rfl, rfl, rfl, trivial⟩ ?_
      refine nm_thn ?_
      refine ws_blockN twice_n24 2 rfl rfl rfl ?_
      refine ws_loopE (fun mx_ ax_ wx_ => ∃ (j : Nat) (cs2 : List I2) (vrd : Value), mx_ = (ga l k).length - j ∧ Env 51 [(5, vrd), (15, .slice lA lv.length lc), (16, .int .i64 (lv.length : Int)), (17, .int .i64 (k : Int)), (21, .slice ((ga lv k).A) (ga l k).length ((ga lv k).c)), (22, .int .i64 ((ga l k).length : Int)), (23, .int .i64 (j : Int))] ax_ ∧ SH wx_ M X [Rs.row cdI2 vrd cs2] ∧ j ≤ (ga l k).length ∧ cs2 = cntP (ga l k) cs j ∧ cs2.length = n) rfl ?_ ?_
      · intro ax_ hax_
        refine ⟨_, ⟨0, _, _, rfl, hax_.sub ⟨rfl, rfl, rfl, rfl, rfl, rfl, rfl, trivial⟩, S2.pick [0] [_] (by decide) ⟨rfl, trivial⟩, ?hq2f0, ?hq2f1, ?hq2f2⟩⟩
        case hq2f0 => omega
        case hq2f1 => rfl
        case hq2f2 => assumption
      · rintro m2 a2 w3 ⟨j, cs2, vrd, rfl, he2, S3, hj, hcs2, hcl2⟩
        clear S2
        refine ws_in he2 (c := twice_n25) rfl ?_
        clear he2 a2
        have hokj : j < (ga l k).length → (ga (ga l k) j).c.toNat < n ∧ (ga (ga l k) j).c = ((ga (ga l k) j).c.toNat : Int) := fun h => (by have h9 := hok k (by omega) j h; omega)
        refine ws_seqN twice_n26 twice_n27 rfl rfl rfl ?_
        refine ws_region rfl ?_
        refine wl_op (k := 0) (k' := 1) rfl rfl rfl (wo_run rfl rfl (run_lss rfl rfl rfl) ?_)
        refine wl_end rfl ?_
        refine nm_thn ?_
        refine ws_seqN twice_n28 twice_n29 rfl rfl rfl ?_
        refine ws_condN twice_n30 twice_n31 rfl rfl rfl rfl (fun hb24 => ?_) (fun hb24 => ?_)
        · have hb24 := of_decide_eq_true hb24
          refine ws_skip rfl ?_
          refine nm_sub [(5, _), (15, _), (16, _), (17, _), (21, _), (22, _), (23, _)] ⟨rfl, rfl, rfl, rfl, rfl, rfl, rfl, trivial⟩ ?_
          refine nm_thn ?_
          refine ws_seqN twice_n32 twice_n33 rfl rfl rfl ?_
          refine ws_blockN twice_n34 3 rfl rfl rfl ?_
          refine ws_seqN twice_n35 twice_n36 rfl rfl rfl ?_
          refine ws_region rfl ?_
          refine wl_op (k := 0) (k' := 1) rfl rfl rfl (wo_run rfl rfl (run_indexM (C := cdVi) j rfl rfl rfl sl24 (by first | rfl | omega) hr1 (by first | omega | (simp only [List.length_set, List.length_append, List.length_replicate, List.length_singleton, List.length_cons, List.length_nil]; omega))) ?_)
          refine wl_op (k := 1) (k' := 2) rfl rfl rfl (wo_run rfl rfl (run_loadN (us := [_, _]) rfl rfl Try.underlying70 rfl sz70 (hr1.cellsAt S3.um (e := j) (by first | omega | (simp only [List.length_set, List.length_append, List.length_replicate, List.length_singleton, List.length_cons, List.length_nil]; omega)) (j := 0) ⟨rfl, rfl, trivial⟩)) ?_)
          refine wl_op (k := 2) (k' := 3) rfl rfl rfl (wo_alloc (l := [_, _]) rfl rfl rfl zr70 rfl S3 ?_)
          intro gb1 w4 S4; clear S3
          refine wl_op (k := 3) (k' := 4) rfl rfl rfl (wo_storeB (i := 0) (us := [_, _]) (l' := [_, _]) (H' := [_, _]) rfl rfl S4 rfl rfl rfl rfl sz70 rfl rfl rfl rfl ?_)
          intro w5 S5; clear S4
          refine wl_end rfl ?_
          refine nm_sub [(5, _), (15, _), (16, _), (17, _), (21, _), (22, _), (23, _), (9, _)] ⟨rfl, rfl, rfl, rfl, rfl, rfl, rfl, rfl, trivial⟩ ?_
          refine nm_thn ?_
          refine ws_seqN twice_n37 twice_n38 rfl rfl rfl ?_
          refine ws_region rfl ?_
          refine wl_op (k := 0) (k' := 1) rfl rfl rfl (wo_run rfl rfl (run_assign rfl rfl) ?_)
          refine wl_end rfl ?_
          refine nm_thn ?_
          refine ws_seqN twice_n39 twice_n40 rfl rfl rfl ?_
          refine ws_seqN twice_n41 twice_n42 rfl rfl rfl ?_
          refine ws_region rfl ?_
          refine wl_op (k := 0) (k' := 1) rfl rfl rfl (wo_run rfl rfl (run_fieldAddr rfl rfl Try.underlying70 rfl (ce4) (nf4)) ?_)
          refine wl_op (k := 1) (k' := 2) rfl rfl rfl (wo_run rfl rfl (run_load1 rfl rfl Try.underlying4 rfl (S5.boxc (i := 0) rfl rfl)) ?_)
          refine wl_end rfl ?_
          refine nm_sub [(5, _), (15, _), (16, _), (17, _), (21, _), (22, _), (23, _), (9, _), (10, _), (28, _)] ⟨rfl, rfl, rfl, rfl, rfl, rfl, rfl, rfl, rfl, rfl, trivial⟩ ?_
          refine nm_thn ?_
          refine ws_condN twice_n43 twice_n44 rfl rfl rfl rfl (fun hb28 => ?_) (fun hb28 => ?_)
          · refine ws_region rfl ?_
            refine wl_op (k := 0) (k' := 1) rfl rfl rfl (wo_run rfl rfl (run_assign rfl rfl) ?_)
            refine wl_end rfl ?_
            refine nm_sub [(5, _), (15, _), (16, _), (17, _), (21, _), (22, _), (23, _), (9, _), (10, _)] ⟨rfl, rfl, rfl, rfl, rfl, rfl, rfl, rfl, rfl, trivial⟩ ?_
            refine nm_thn ?_
            refine ws_draw rfl (by kernel_rfl) S5 11 rfl ?_
            clear S5
            refine wa_takeP (i := 0) (d := 29) 10 rfl (by kernel_rfl) (by kernel_rfl) (by kernel_rfl) rfl rfl rfl (fun w6 => run_move rfl rfl) ?_
            refine wa_takeP (i := 1) (d := 30) 9 rfl (by kernel_rfl) (by kernel_rfl) (by kernel_rfl) rfl rfl rfl (fun w7 => run_fieldAddr rfl rfl Try.underlying70 rfl (ce3) (nf3)) ?_
            refine wa_take (i := 2) (d := 31) 8 rfl (by kernel_rfl) (by kernel_rfl) (by kernel_rfl) rfl rfl rfl (fun M3 N3 w8 hle5 S8 => .inl (run_load1 rfl rfl Try.underlying3 rfl (S8.suf.boxc (i := 0) rfl rfl))) ?_
            refine wa_takeP (i := 3) (d := 32) 7 rfl (by kernel_rfl) (by kernel_rfl) (by kernel_rfl) rfl rfl rfl (fun w9 => run_move rfl rfl) ?_
            refine wa_take (i := 4) (d := 33) 6 rfl (by kernel_rfl) (by kernel_rfl) (by kernel_rfl) rfl rfl rfl (fun M5 N5 w10 hle7 S10 => .inl (run_indexR (C := cdI2) (i := 1) (((ga (ga l k) j).c).toNat) rfl rfl rfl sl68 S10.suf rfl (by first | rfl | omega) (by first | omega | (simp only [List.length_set, List.length_append, List.length_replicate, List.length_singleton, List.length_cons, List.length_nil]; omega)))) ?_
            refine wa_take (i := 5) (d := 34) 5 rfl (by kernel_rfl) (by kernel_rfl) (by kernel_rfl) rfl rfl rfl (fun M6 N6 w11 hle8 S11 => .inl (run_indexP (e := 1) (k := 1) rfl rfl rfl Try.underlying71 sz3 (by first | rfl | omega) (by first | omega | (simp only [List.length_set, List.length_append, List.length_replicate, List.length_singleton, List.length_cons, List.length_nil]; omega)))) ?_
            refine wa_take (i := 6) (d := 35) 4 rfl (by kernel_rfl) (by kernel_rfl) (by kernel_rfl) rfl rfl rfl (fun M7 N7 w12 hle9 S12 => .inl (run_load1 rfl rfl Try.underlying3 rfl (S12.suf.rowc (i := 1) (e := ((ga (ga l k) j).c).toNat) (j := 1) rfl (by first | omega | (simp only [List.length_set, List.length_append, List.length_replicate, List.length_singleton, List.length_cons, List.length_nil]; omega)) rfl rfl))) ?_
            refine wa_takeP (i := 7) (d := 36) 3 rfl (by kernel_rfl) (by kernel_rfl) (by kernel_rfl) rfl rfl rfl (fun w13 => run_addW rfl rfl rfl) ?_
            refine wa_take (i := 8) (d := 37) 2 rfl (by kernel_rfl) (by kernel_rfl) (by kernel_rfl) rfl rfl rfl (fun M9 N9 w14 hle11 S14 => .inl (run_indexR (C := cdI2) (i := 1) (((ga (ga l k) j).c).toNat) rfl rfl rfl sl68 S14.suf rfl (by first | rfl | omega) (by first | omega | (simp only [List.length_set, List.length_append, List.length_replicate, List.length_singleton, List.length_cons, List.length_nil]; omega)))) ?_
            refine wa_take (i := 9) (d := 38) 1 rfl (by kernel_rfl) (by kernel_rfl) (by kernel_rfl) rfl rfl rfl (fun M10 N10 w15 hle12 S15 => .inl (run_indexP (e := 1) (k := 1) rfl rfl rfl Try.underlying71 sz3 (by first | rfl | omega) (by first | omega | (simp only [List.length_set, List.length_append, List.length_replicate, List.length_singleton, List.length_cons, List.length_nil]; omega)))) ?_
            refine wa_only (i := 10) 0 rfl (by kernel_rfl) rfl rfl (fun w17 S17 => ?_)
            refine (wo_storeR (C := cdI2) (i := 1) (e := ((ga (ga l k) j).c).toNat) (j := 1) (us := [_]) (H' := [_, _]) (⟨(ga cs2 (((ga (ga l k) j).c).toNat)).a, wr (((ga cs2 (((ga (ga l k) j).c).toNat)).b) + 1)⟩ : I2) rfl rfl S17 rfl (by first | omega | (simp only [List.length_set, List.length_append, List.length_replicate, List.length_singleton, List.length_cons, List.length_nil]; omega)) rfl rfl rfl sz3 rfl rfl rfl rfl ?_)
            intro w18 S18; clear S17
            refine LeftW.turn (by kernel_rfl) S18 ?_; clear S18
            change WA _ _ _ _ _ _ _ _ _ _ _ _ [_, _]
            refine wa_end (by kernel_rfl) (fun w19 S19 => ?_)
            refine nm_blk ?_
            refine nm_sub [(5, _), (15, _), (16, _), (17, _), (21, _), (22, _), (23, _)] ⟨rfl, rfl, rfl, rfl, rfl, rfl, rfl, trivial⟩ ?_
            refine nm_thn ?_
            refine ws_region rfl ?_
            refine wl_op (k := 0) (k' := 1) rfl rfl rfl (wo_run rfl rfl (run_add rfl rfl rfl (by first | omega | (simp only [List.length_set, List.length_append, List.length_replicate, List.length_singleton, List.length_cons, List.length_nil]; omega))) ?_)
            refine wl_op (k := 1) (k' := 2) rfl rfl rfl (wo_run rfl rfl (run_move rfl rfl) ?_)
            refine wl_end rfl ?_
            refine nm_lp ?_
            intro ax_ hax_
            refine ⟨_, ?hq3m, ⟨j + 1, _, _, rfl, hax_.sub ⟨rfl, rfl, rfl, rfl, rfl, rfl, rfl, trivial⟩, S19.pick [1] [_] (by decide) ⟨rfl, trivial⟩, ?hq3f0, ?hq3f1, ?hq3f2⟩⟩
            case hq3f0 => omega
            case hq3f1 => (rw [cntP_succ, ← hcs2]; unfold bump; simp only [hb28, if_true, if_false, Bool.false_eq_true])
            case hq3f2 => (rw [List.length_set]; exact hcl2)
            case hq3m => omega
          · refine ws_skip rfl ?_
            refine nm_sub [(5, _), (15, _), (16, _), (17, _), (21, _), (22, _), (23, _), (9, _), (10, _)] ⟨rfl, rfl, rfl, rfl, rfl, rfl, rfl, rfl, rfl, trivial⟩ ?_
            refine nm_thn ?_
            refine ws_draw rfl (by kernel_rfl) S5 11 rfl ?_
            clear S5
            refine wa_takeP (i := 0) (d := 29) 10 rfl (by kernel_rfl) (by kernel_rfl) (by kernel_rfl) rfl rfl rfl (fun w20 => run_move rfl rfl) ?_
            refine wa_takeP (i := 1) (d := 30) 9 rfl (by kernel_rfl) (by kernel_rfl) (by kernel_rfl) rfl rfl rfl (fun w21 => run_fieldAddr rfl rfl Try.underlying70 rfl (ce3) (nf3)) ?_
            refine wa_take (i := 2) (d := 31) 8 rfl (by kernel_rfl) (by kernel_rfl) (by kernel_rfl) rfl rfl rfl (fun M14 N14 w22 hle16 S22 => .inl (run_load1 rfl rfl Try.underlying3 rfl (S22.suf.boxc (i := 0) rfl rfl))) ?_
            refine wa_takeP (i := 3) (d := 32) 7 rfl (by kernel_rfl) (by kernel_rfl) (by kernel_rfl) rfl rfl rfl (fun w23 => run_move rfl rfl) ?_
            refine wa_take (i := 4) (d := 33) 6 rfl (by kernel_rfl) (by kernel_rfl) (by kernel_rfl) rfl rfl rfl (fun M16 N16 w24 hle18 S24 => .inl (run_indexR (C := cdI2) (i := 1) (((ga (ga l k) j).c).toNat) rfl rfl rfl sl68 S24.suf rfl (by first | rfl | omega) (by first | omega | (simp only [List.length_set, List.length_append, List.length_replicate, List.length_singleton, List.length_cons, List.length_nil]; omega)))) ?_
            refine wa_take (i := 5) (d := 34) 5 rfl (by kernel_rfl) (by kernel_rfl) (by kernel_rfl) rfl rfl rfl (fun M17 N17 w25 hle19 S25 => .inl (run_indexP (e := 0) (k := 1) rfl rfl rfl Try.underlying71 sz3 (by first | rfl | omega) (by first | omega | (simp only [List.length_set, List.length_append, List.length_replicate, List.length_singleton, List.length_cons, List.length_nil]; omega)))) ?_
            refine wa_take (i := 6) (d := 35) 4 rfl (by kernel_rfl) (by kernel_rfl) (by kernel_rfl) rfl rfl rfl (fun M18 N18 w26 hle20 S26 => .inl (run_load1 rfl rfl Try.underlying3 rfl (S26.suf.rowc (i := 1) (e := ((ga (ga l k) j).c).toNat) (j := 0) rfl (by first | omega | (simp only [List.length_set, List.length_append, List.length_replicate, List.length_singleton, List.length_cons, List.length_nil]; omega)) rfl rfl))) ?_
            refine wa_takeP (i := 7) (d := 36) 3 rfl (by kernel_rfl) (by kernel_rfl) (by kernel_rfl) rfl rfl rfl (fun w27 => run_addW rfl rfl rfl) ?_
            refine wa_take (i := 8) (d := 37) 2 rfl (by kernel_rfl) (by kernel_rfl) (by kernel_rfl) rfl rfl rfl (fun M20 N20 w28 hle22 S28 => .inl (run_indexR (C := cdI2) (i := 1) (((ga (ga l k) j).c).toNat) rfl rfl rfl sl68 S28.suf rfl (by first | rfl | omega) (by first | omega | (simp only [List.length_set, List.length_append, List.length_replicate, List.length_singleton, List.length_cons, List.length_nil]; omega)))) ?_
            refine wa_take (i := 9) (d := 38) 1 rfl (by kernel_rfl) (by kernel_rfl) (by kernel_rfl) rfl rfl rfl (fun M21 N21 w29 hle23 S29 => .inl (run_indexP (e := 0) (k := 1) rfl rfl rfl Try.underlying71 sz3 (by first | rfl | omega) (by first | omega | (simp only [List.length_set, List.length_append, List.length_replicate, List.length_singleton, List.length_cons, List.length_nil]; omega)))) ?_
            refine wa_only (i := 10) 0 rfl (by kernel_rfl) rfl rfl (fun w31 S31 => ?_)
            refine (wo_storeR (C := cdI2) (i := 1) (e := ((ga (ga l k) j).c).toNat) (j := 0) (us := [_]) (H' := [_, _]) (⟨wr (((ga cs2 (((ga (ga l k) j).c).toNat)).a) + 1), (ga cs2 (((ga (ga l k) j).c).toNat)).b⟩ : I2) rfl rfl S31 rfl (by first | omega | (simp only [List.length_set, List.length_append, List.length_replicate, List.length_singleton, List.length_cons, List.length_nil]; omega)) rfl rfl rfl sz3 rfl rfl rfl rfl ?_)
            intro w32 S32; clear S31
            refine LeftW.turn (by kernel_rfl) S32 ?_; clear S32
            change WA _ _ _ _ _ _ _ _ _ _ _ _ [_, _]
            refine wa_end (by kernel_rfl) (fun w33 S33 => ?_)
            refine nm_blk ?_
            refine nm_sub [(5, _), (15, _), (16, _), (17, _), (21, _), (22, _), (23, _)] ⟨rfl, rfl, rfl, rfl, rfl, rfl, rfl, trivial⟩ ?_
            refine nm_thn ?_
            refine ws_region rfl ?_
            refine wl_op (k := 0) (k' := 1) rfl rfl rfl (wo_run rfl rfl (run_add rfl rfl rfl (by first | omega | (simp only [List.length_set, List.length_append, List.length_replicate, List.length_singleton, List.length_cons, List.length_nil]; omega))) ?_)
            refine wl_op (k := 1) (k' := 2) rfl rfl rfl (wo_run rfl rfl (run_move rfl rfl) ?_)
            refine wl_end rfl ?_
            refine nm_lp ?_
            intro ax_ hax_
            refine ⟨_, ?hq4m, ⟨j + 1, _, _, rfl, hax_.sub ⟨rfl, rfl, rfl, rfl, rfl, rfl, rfl, trivial⟩, S33.pick [1] [_] (by decide) ⟨rfl, trivial⟩, ?hq4f0, ?hq4f1, ?hq4f2⟩⟩
            case hq4f0 => omega
            case hq4f1 => (rw [cntP_succ, ← hcs2]; unfold bump; simp only [hb28, if_true, if_false, Bool.false_eq_true])
            case hq4f2 => (rw [List.length_set]; exact hcl2)
            case hq4m => omega
        · have hb24 := of_decide_eq_false hb24
          refine ws_exit rfl rfl ?_
          refine nm_blk ?_
          refine nm_sub [(5, _), (15, _), (16, _), (17, _)] ⟨rfl, rfl, rfl, rfl, trivial⟩ ?_
          refine nm_thn ?_
          refine ws_region rfl ?_
          refine wl_op (k := 0) (k' := 1) rfl rfl rfl (wo_run rfl rfl (run_add rfl rfl rfl (by first | omega | (simp only [List.length_set, List.length_append, List.length_replicate, List.length_singleton, List.length_cons, List.length_nil]; omega))) ?_)
          refine wl_op (k := 1) (k' := 2) rfl rfl rfl (wo_run rfl rfl (run_move rfl rfl) ?_)
          refine wl_end rfl ?_
          refine nm_lp ?_
          intro ax_ hax_
          refine ⟨_, ?hq5m, ⟨k + 1, _, _, rfl, hax_.sub ⟨rfl, rfl, rfl, rfl, trivial⟩, S3.pick [0] [_] (by decide) ⟨rfl, trivial⟩, ?hq5f0, ?hq5f1, ?hq5f2⟩⟩
          case hq5f0 => omega
          case hq5f1 => (rw [cntL_succ, ← hcs]; obtain rfl : j = (ga l k).length := (by omega); exact hcs2)
          case hq5f2 => assumption
          case hq5m => omega
    · have hb18 := of_decide_eq_false hb18
      refine ws_exit rfl rfl ?_
      refine nm_sub [(5, _)] ⟨rfl, trivial⟩ ?_
      refine nm_thn ?_
      refine ws_seqN twice_n45 twice_n46 rfl rfl rfl ?_
      refine ws_seqN twice_n47 twice_n48 rfl rfl rfl ?_
      refine ws_region rfl ?_
      refine wl_op (k := 0) (k' := 1) rfl rfl rfl (wo_run rfl rfl (run_move rfl rfl) ?_)
      refine wl_op (k := 1) (k' := 2) rfl rfl rfl (wo_run rfl rfl (run_lenR (C := cdI2) (i := 0) rfl rfl rfl rfl rfl rfl sl68 S2 rfl) ?_)
      refine wl_op (k := 2) (k' := 3) rfl rfl rfl (wo_run rfl rfl (run_move rfl rfl) ?_)
      refine wl_end rfl ?_
      refine nm_sub [(41, _), (42, _), (43, _)] ⟨rfl, rfl, rfl, trivial⟩ ?_
      refine nm_thn ?_
      refine ws_blockN twice_n49 4 rfl rfl rfl ?_
      refine ws_loopE (fun mx_ ax_ wx_ => ∃ (c : Nat), mx_ = cs.length - c ∧ Env 51 [(41, vrc), (42, .int .i64 (cs.length : Int)), (43, .int .i64 (c : Int))] ax_ ∧ SH wx_ M X [Rs.row cdI2 vrc cs] ∧ c ≤ cs.length ∧ (∀ j, j < c → oneI (ga cs j))) rfl ?_ ?_
      · intro ax_ hax_
        refine ⟨_, ⟨0, rfl, hax_.sub ⟨rfl, rfl, rfl, trivial⟩, S2.pick [0] [_] (by decide) ⟨rfl, trivial⟩, ?hq6f0, ?hq6f1⟩⟩
        case hq6f0 => omega
        case hq6f1 => (intro j hj; omega)
      · rintro m3 a3 w34 ⟨c, rfl, he3, S34, hc, hone⟩
        clear S2
        refine ws_in he3 (c := twice_n50) rfl ?_
        clear he3 a3
        refine ws_seqN twice_n51 twice_n52 rfl rfl rfl ?_
        refine ws_region rfl ?_
        refine wl_op (k := 0) (k' := 1) rfl rfl rfl (wo_run rfl rfl (run_lss rfl rfl rfl) ?_)
        refine wl_end rfl ?_
        refine nm_thn ?_
        refine ws_seqN twice_n53 twice_n54 rfl rfl rfl ?_
        refine ws_condN twice_n55 twice_n56 rfl rfl rfl rfl (fun hb44 => ?_) (fun hb44 => ?_)
        · have hb44 := of_decide_eq_true hb44
          refine ws_skip rfl ?_
          refine nm_sub [(41, _), (42, _), (43, _)] ⟨rfl, rfl, rfl, trivial⟩ ?_
          refine nm_thn ?_
          refine ws_seqN twice_n57 twice_n58 rfl rfl rfl ?_
          refine ws_blockN twice_n59 5 rfl rfl rfl ?_
          refine ws_seqN twice_n60 twice_n61 rfl rfl rfl ?_
          refine ws_region rfl ?_
          refine wl_op (k := 0) (k' := 1) rfl rfl rfl (wo_run rfl rfl (run_indexR (C := cdI2) (i := 0) c rfl rfl rfl sl68 S34 rfl (by first | rfl | omega) (by first | omega | (simp only [List.length_set, List.length_append, List.length_replicate, List.length_singleton, List.length_cons, List.length_nil]; omega))) ?_)
          refine wl_op (k := 1) (k' := 2) rfl rfl rfl (wo_run rfl rfl (run_loadN (us := [_, _]) rfl rfl Try.underlying71 rfl sz71 (S34.rowcs (i := 0) (e := c) (j := 0) rfl (by first | omega | (simp only [List.length_set, List.length_append, List.length_replicate, List.length_singleton, List.length_cons, List.length_nil]; omega)) ⟨rfl, rfl, trivial⟩)) ?_)
          refine wl_op (k := 2) (k' := 3) rfl rfl rfl (wo_alloc (l := [_, _]) rfl rfl rfl zr71 rfl S34 ?_)
          intro gb2 w35 S35; clear S34
          refine wl_op (k := 3) (k' := 4) rfl rfl rfl (wo_storeB (i := 0) (us := [_, _]) (l' := [_, _]) (H' := [_, _]) rfl rfl S35 rfl rfl rfl rfl sz71 rfl rfl rfl rfl ?_)
          intro w36 S36; clear S35
          refine wl_end rfl ?_
          refine nm_sub [(41, _), (42, _), (43, _), (12, _)] ⟨rfl, rfl, rfl, rfl, trivial⟩ ?_
          refine nm_thn ?_
          refine ws_seqN twice_n62 twice_n63 rfl rfl rfl ?_
          refine ws_region rfl ?_
          refine wl_op (k := 0) (k' := 1) rfl rfl rfl (wo_run rfl rfl (run_loadN (us := [_, _]) rfl rfl Try.underlying71 rfl sz71 (S36.boxcs (i := 0) rfl ⟨rfl, rfl, trivial⟩)) ?_)
          refine wl_op (k := 1) (k' := 2) rfl rfl rfl (wo_run rfl rfl (run_buildA (l := [_, _]) (pl := [(0, 1), (1, 1)]) rfl rfl Try.underlying71 zr71 sz3 rfl rfl rfl) ?_)
          refine wl_op (k := 2) (k' := 3) rfl rfl rfl (wo_run rfl rfl (run_neA2 rfl rfl rfl ae71) ?_)
          refine wl_end rfl ?_
          refine nm_sub [(41, _), (42, _), (43, _), (49, _)] ⟨rfl, rfl, rfl, rfl, trivial⟩ ?_
          refine nm_thn ?_
          refine ws_condN twice_n64 twice_n65 rfl rfl rfl rfl (fun hb49 => ?_) (fun hb49 => ?_)
          · have hb49 := of_decide_eq_true hb49
            refine ws_seqN twice_n66 twice_n67 rfl rfl rfl ?_
            refine ws_region rfl ?_
            refine wl_op (k := 0) (k' := 1) rfl rfl rfl (wo_run rfl rfl (run_assign rfl rfl) ?_)
            refine wl_end rfl ?_
            refine nm_sub [(4, _)] ⟨rfl, trivial⟩ ?_
            refine nm_thn ?_
            refine ws_ret hC [_] rfl rfl ⟨rfl, trivial⟩ ?_
            exact ⟨_, rfl, (S36.pick [] [] (by decide) trivial), (by (have hlv := hdl.1; obtain rfl : k = l.length := (by omega); show Value.bool _ = _; refine congrArg Value.bool ?_; unfold twB; rw [← hcs]; first | exact (allI_true (fun j hj => hone j (by omega))).symm | exact (allI_false (k := c) (by omega) (by unfold oneI; omega)).symm))⟩
          · have hb49 := of_decide_eq_false hb49
            refine ws_skip rfl ?_
            refine nm_blk ?_
            refine nm_sub [(41, _), (42, _), (43, _)] ⟨rfl, rfl, rfl, trivial⟩ ?_
            refine nm_thn ?_
            refine ws_region rfl ?_
            refine wl_op (k := 0) (k' := 1) rfl rfl rfl (wo_run rfl rfl (run_add rfl rfl rfl (by first | omega | (simp only [List.length_set, List.length_append, List.length_replicate, List.length_singleton, List.length_cons, List.length_nil]; omega))) ?_)
            refine wl_op (k := 1) (k' := 2) rfl rfl rfl (wo_run rfl rfl (run_move rfl rfl) ?_)
            refine wl_end rfl ?_
            refine nm_lp ?_
            intro ax_ hax_
            refine ⟨_, ?hq7m, ⟨c + 1, rfl, hax_.sub ⟨rfl, rfl, rfl, trivial⟩, S36.pick [1] [_] (by decide) ⟨rfl, trivial⟩, ?hq7f0, ?hq7f1⟩⟩
            case hq7f0 => omega
            case hq7f1 => (intro j hj; by_cases h : j = c; (subst h; unfold oneI; omega); exact hone j (by omega))
            case hq7m => omega
        · have hb44 := of_decide_eq_false hb44
          refine ws_exit rfl rfl ?_
          refine nm_sub [] trivial ?_
          refine nm_thn ?_
          refine ws_seqN twice_n68 twice_n69 rfl rfl rfl ?_
          refine ws_region rfl ?_
          refine wl_op (k := 0) (k' := 1) rfl rfl rfl (wo_run rfl rfl (run_assign rfl rfl) ?_)
          refine wl_end rfl ?_
          refine nm_thn ?_
          refine ws_ret hC [_] rfl rfl ⟨rfl, trivial⟩ ?_
          exact ⟨_, rfl, (S34.pick [] [] (by decide) trivial), (by (have hlv := hdl.1; obtain rfl : k = l.length := (by omega); show Value.bool _ = _; refine congrArg Value.bool ?_; unfold twB; rw [← hcs]; first | exact (allI_true (fun j hj => hone j (by omega))).symm | exact (allI_false (k := c) (by omega) (by unfold oneI; omega)).symm))⟩

end Go.Proofs.Ytlbpgnimpcflaaa
