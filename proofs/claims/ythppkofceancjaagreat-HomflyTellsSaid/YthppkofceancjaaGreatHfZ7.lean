/- Part 7 of the proof of the law HomflyTells: the walks through its functions and the plain laws that they need. -/
import Derived.Test.YthppkofceancjaaGreatHfZ6
set_option linter.unusedSimpArgs false
set_option linter.unusedVariables false
namespace Go.Proofs.YthppkofceancjaaGreat
open Go.ChangeShapes Go.WideShapes Go.ChangeAt Go.RowKit
theorem nilC {N : Hp} {A : Option Addr} {c : Nat} {s : List Cr} (h : RdA cdCr N A c s) (hn : Option.isNone A = true) : s = [] := by
 cases s with
 | nil => rfl
 | cons y ys => have := (h.2.2 (by simp)).1; rw [this] at hn; cases hn
def chg (x : Cr) : Cr := if x.plus = true then ⟨x.d, x.a, x.b, x.c, false⟩ else ⟨x.b, x.c, x.d, x.a, true⟩
def chD (d : Dg) (k : Nat) : Dg := ⟨d.crs.set k (chg (ga d.crs k)), d.loops⟩
noncomputable def Turned1_n0 : Code := Tryz.f192.body.getD .skip
noncomputable def Turned1_n1 : Code := cL Turned1_n0
noncomputable def Turned1_n2 : Code := cR Turned1_n0
noncomputable def Turned1_n3 : Code := cL Turned1_n2
noncomputable def Turned1_n4 : Code := cR Turned1_n2
set_option maxRecDepth 10000 in
theorem Turned1_q {w : World} {M : Hp} {X : Fr} (i : Nat) (x : Cr) {g0 : Nat} (by_ : Nat) {g1 : Nat} (hbx : BxM (M.un X.h) g0 77 [.int .i64 x.a, .int .i64 x.b, .int .i64 x.c, .int .i64 x.d, .bool x.plus]) (hby : BxM (M.un X.h) g1 3 [.int .i64 (by_ : Int)]) (hi : i < 4) (hb : by_ < 4) (S : SH w M X []) : Cq Tryz.prog 192 [.int .i64 (i : Int), .pointer (some ⟨g0, 0, none⟩), .pointer (some ⟨g1, 0, none⟩)] w M X (fun u => u = .int .i64 (crArc x ((i + by_) % 4))) := by
 unfold Cq
 refine calls_in (b := Turned1_n0) Tryz.func192 rfl Tryz.ntmps192 rfl (fun C hC => (ws_sub [(0, _), (1, _), (2, _)] ⟨rfl, rfl, rfl, trivial⟩ (ws_seqN Turned1_n1 Turned1_n2 rfl rfl rfl (ws_region rfl (wla 0 1 rfl rfl rfl rfl rfl rfl rfl (wl_end rfl (nmk [0, 1, 2] rfl (nm_thn (ws_seqN Turned1_n3 Turned1_n4 rfl rfl rfl ?_)))))))))
 refine ws_region rfl (wlo 0 1 rfl rfl rfl (wo_run rfl rfl (run_loadN (us := [_, _, _, _, _]) rfl rfl Tryz.underlying77 rfl sz77 (hbx.cells S.um ⟨rfl, rfl, rfl, rfl, rfl, trivial⟩)) (wlm 1 2 rfl rfl rfl rfl rfl rfl rfl (wlo 2 3 rfl rfl rfl (wo_run rfl rfl (run_load1 rfl rfl Tryz.underlying3 rfl (hby.cell S.um rfl)) (wlo 3 4 rfl rfl rfl (wo_run rfl rfl (run_add rfl rfl rfl (by first | omega | (simp only [lens]; omega))) ?_)))))))
 refine wlo 4 5 rfl rfl rfl (wo_run rfl rfl (run_rem rfl rfl rfl (by first | omega | (simp only [lens]; omega))) ?_)
 refine wlo 5 6 rfl rfl rfl (wo_cq rfl rfl rfl rfl rfl rfl rfl cf115 S (Arc_q x ((((i : Int) + (by_ : Int)) % 4).toNat) (by omega) S.lend) ?_)
 rintro _ w1 S1 rfl; clear S
 refine wla 6 7 rfl rfl rfl rfl rfl rfl rfl (wl_end rfl (nmk [4] rfl (nm_thn (ws_ret hC [_] rfl rfl ⟨rfl, trivial⟩ ?_))))
 exact ⟨_, rfl, (S1.pick [] [] (by decide) trivial), rfl⟩
noncomputable def Turned_n0 : Code := Tryz.f173.body.getD .skip
noncomputable def Turned_n1 : Code := cL Turned_n0
noncomputable def Turned_n2 : Code := cR Turned_n0
noncomputable def Turned_n3 : Code := cL Turned_n2
noncomputable def Turned_n4 : Code := cR Turned_n2
noncomputable def Turned_n5 : Code := cL Turned_n4
noncomputable def Turned_n6 : Code := cR Turned_n4
set_option maxRecDepth 10000 in
theorem Turned_q {w : World} {M : Hp} {X : Fr} (x : Cr) (k : Nat) (hk : k < 4) (S : SH w M X []) : Cq Tryz.prog 173 [.agg [.int .i64 x.a, .int .i64 x.b, .int .i64 x.c, .int .i64 x.d, .bool x.plus].toArray, .int .i64 (k : Int)] w M X (fun u => u = .agg [.int .i64 (crArc x ((0 + k) % 4)), .int .i64 (crArc x ((1 + k) % 4)), .int .i64 (crArc x ((2 + k) % 4)), .int .i64 (crArc x ((3 + k) % 4)), .bool x.plus].toArray) := by
 unfold Cq
 refine calls_in (b := Turned_n0) Tryz.func173 rfl Tryz.ntmps173 rfl (fun C hC => (ws_sub [(0, _), (1, _)] ⟨rfl, rfl, trivial⟩ (ws_seqN Turned_n1 Turned_n2 rfl rfl rfl (ws_region rfl (wlo 0 1 rfl rfl rfl (wo_box (l := [_, _, _, _, _]) rfl rfl rfl rfl rfl S ?_))))))
 intro gb1 w1 S1; clear S
 refine wlo 1 2 rfl rfl rfl (wo_box (l := [_]) rfl rfl rfl rfl rfl S1 ?_)
 intro gb2 w2 S2; clear S1
 refine wlo 2 3 rfl rfl rfl (wo_alloc (l := [_, _, _, _, _]) rfl rfl rfl zr77 rfl S2 ?_)
 intro gb3 w3 S3; clear S2
 refine wl_end rfl (nmk [2, 3, 4] rfl (nm_thn (ws_seqN Turned_n3 Turned_n4 rfl rfl rfl (ws_region rfl (wlo 0 1 rfl rfl rfl (wo_run rfl rfl (run_makeFunc (vs := [_, _]) rfl rfl rfl rfl) (wla 1 2 rfl rfl rfl rfl rfl rfl rfl (wl_end rfl (nmk [2, 4, 5] rfl ?_)))))))))
 refine nm_thn (ws_seqN Turned_n5 Turned_n6 rfl rfl rfl (ws_draw rfl (by kernel_rfl) S3 12 rfl ?_))
 clear S3
 refine wap 0 11 rfl (by kernel_rfl) rfl rfl rfl (fun w4 => run_move rfl rfl) ?_
 refine wat 1 10 rfl (by kernel_rfl) rfl rfl rfl (fun M2 N2 w5 hle2 S5 => yield_cqF rfl rfl rfl rfl rfl cf192 S5 (Turned1_q 0 x k (SH.boxMs (i := 2) S5 rfl) (SH.boxMs (i := 1) S5 rfl) (by omega) (by omega) S5.lend)) ?_
 refine wap 2 9 rfl (by kernel_rfl) rfl rfl rfl (fun w6 => run_move rfl rfl) ?_
 refine wat 3 8 rfl (by kernel_rfl) rfl rfl rfl (fun M4 N4 w7 hle4 S7 => yield_cqF rfl rfl rfl rfl rfl cf192 S7 (Turned1_q 1 x k (SH.boxMs (i := 2) S7 rfl) (SH.boxMs (i := 1) S7 rfl) (by omega) (by omega) S7.lend)) ?_
 refine wap 4 7 rfl (by kernel_rfl) rfl rfl rfl (fun w8 => run_move rfl rfl) ?_
 refine wat 5 6 rfl (by kernel_rfl) rfl rfl rfl (fun M6 N6 w9 hle6 S9 => yield_cqF rfl rfl rfl rfl rfl cf192 S9 (Turned1_q 2 x k (SH.boxMs (i := 2) S9 rfl) (SH.boxMs (i := 1) S9 rfl) (by omega) (by omega) S9.lend)) ?_
 refine wap 6 5 rfl (by kernel_rfl) rfl rfl rfl (fun w10 => run_move rfl rfl) ?_
 refine wat 7 4 rfl (by kernel_rfl) rfl rfl rfl (fun M8 N8 w11 hle8 S11 => yield_cqF rfl rfl rfl rfl rfl cf192 S11 (Turned1_q 3 x k (SH.boxMs (i := 2) S11 rfl) (SH.boxMs (i := 1) S11 rfl) (by omega) (by omega) S11.lend)) ?_
 refine wap 8 3 rfl (by kernel_rfl) rfl rfl rfl (fun w12 => run_fieldAddr rfl rfl Tryz.underlying77 rfl (ce4) (nf4)) ?_
 refine wat 9 2 rfl (by kernel_rfl) rfl rfl rfl (fun M10 N10 w13 hle10 S13 => .inl (run_load1 rfl rfl Tryz.underlying4 rfl (S13.suf.boxc (i := 2) rfl rfl))) ?_
 refine wat 10 1 rfl (by kernel_rfl) rfl rfl rfl (fun M11 N11 w14 hle11 S14 => .inl (run_build (l := [_, _, _, _, _]) rfl rfl st77 rfl rfl)) ?_
 refine wa_only (i := 11) 0 rfl (by kernel_rfl) rfl rfl (fun w16 S16 => ?_)
 refine (wo_storeB (i := 0) (us := [_, _, _, _, _]) (l' := [_, _, _, _, _]) (H' := [_, _, _]) rfl rfl S16 rfl rfl rfl rfl sz77 rfl rfl rfl rfl ?_)
 intro w17 S17; clear S16
 refine LeftW.turn (by kernel_rfl) S17 ?_; clear S17
 change WA _ _ _ _ _ _ _ _ _ _ _ _ [_, _, _]
 refine wa_end (by kernel_rfl) (fun w18 S18 => ?_)
 refine nmk [4] rfl (nm_thn (ws_ret hC [_] rfl rfl ⟨⟨_, rfl, loadVarN (us := [_, _, _, _, _]) Tryz.underlying77 rfl sz77 (S18.boxcs (i := 0) rfl ⟨rfl, rfl, rfl, rfl, rfl, trivial⟩)⟩, trivial⟩ ?_))
 exact ⟨_, rfl, (S18.pick [] [] (by decide) trivial), rfl⟩
noncomputable def changed_n0 : Code := Tryz.f135.body.getD .skip
noncomputable def changed_n1 : Code := cL changed_n0
noncomputable def changed_n2 : Code := cR changed_n0
noncomputable def changed_n3 : Code := cL changed_n2
noncomputable def changed_n4 : Code := cR changed_n2
noncomputable def changed_n5 : Code := cL changed_n4
noncomputable def changed_n6 : Code := cR changed_n4
noncomputable def changed_n7 : Code := cL changed_n6
noncomputable def changed_n8 : Code := cR changed_n6
set_option maxRecDepth 10000 in
theorem changed_q {w : World} {M : Hp} {X : Fr} (x : Cr) (S : SH w M X []) : Cq Tryz.prog 135 [.agg [.int .i64 x.a, .int .i64 x.b, .int .i64 x.c, .int .i64 x.d, .bool x.plus].toArray] w M X (fun u => u = .agg [.int .i64 (chg x).a, .int .i64 (chg x).b, .int .i64 (chg x).c, .int .i64 (chg x).d, .bool (chg x).plus].toArray) := by
 unfold Cq
 refine calls_in (b := changed_n0) Tryz.func135 rfl Tryz.ntmps135 rfl (fun C hC => (ws_sub [(0, _)] ⟨rfl, trivial⟩ (ws_seqN changed_n1 changed_n2 rfl rfl rfl (ws_region rfl (wlo 0 1 rfl rfl rfl (wo_box (l := [_, _, _, _, _]) rfl rfl rfl rfl rfl S ?_))))))
 intro gb1 w1 S1; clear S
 refine wlo 1 2 rfl rfl rfl (wo_alloc (l := [_, _, _, _, _]) rfl rfl rfl zr77 rfl S1 ?_)
 intro gb2 w2 S2; clear S1
 refine wl_end rfl (nmk [1, 2] rfl (nm_thn (ws_seqN changed_n3 changed_n4 rfl rfl rfl (ws_draw rfl (by kernel_rfl) S2 6 rfl ?_))))
 clear S2
 refine wat 0 5 rfl (by kernel_rfl) rfl rfl rfl (fun M1 N1 w3 hle1 S3 => .inl (run_loadN (us := [_, _, _, _, _]) rfl rfl Tryz.underlying77 rfl sz77 (S3.suf.boxcs (i := 1) rfl ⟨rfl, rfl, rfl, rfl, rfl, trivial⟩))) ?_
 refine wat 1 4 rfl (by kernel_rfl) rfl rfl rfl (fun M2 N2 w4 hle2 S4 => .inl (run_loadN (us := [_, _, _, _, _]) rfl rfl Tryz.underlying77 rfl sz77 (S4.suf.boxcs (i := 1) rfl ⟨rfl, rfl, rfl, rfl, rfl, trivial⟩))) ?_
 refine wat 2 3 rfl (by kernel_rfl) rfl rfl rfl (fun M3 N3 w5 hle3 S5 => yield_cq rfl rfl rfl rfl rfl cf170 S5 (OverIn_q x  S5.lend)) ?_
 refine wat 3 2 rfl (by kernel_rfl) rfl rfl rfl (fun M4 N4 w6 hle4 S6 => yield_cq rfl rfl rfl rfl rfl cf173 S6 (Turned_q x (overIn x) (by unfold overIn; split <;> omega) S6.lend)) ?_
 refine wa_only (i := 4) 1 rfl (by kernel_rfl) rfl rfl (fun w8 S8 => ?_)
 refine (wo_alloc (l := [_, _, _, _, _]) rfl rfl rfl zr77 rfl S8 ?_)
 intro gb3 w9 S9; clear S8
 refine LeftW.grow [_] (Hp.le_refl _) S9 ?_; clear S9
 change WA _ _ _ _ _ _ _ _ _ _ _ _ [_, _, _]
 refine wa_only (i := 5) 0 rfl (by kernel_rfl) rfl rfl (fun w11 S11 => ?_)
 refine (wo_storeB (i := 0) (us := [_, _, _, _, _]) (l' := [_, _, _, _, _]) (H' := [_, _, _]) rfl rfl S11 rfl rfl rfl rfl sz77 rfl rfl rfl rfl ?_)
 intro w12 S12; clear S11
 refine LeftW.grow [_] (Hp.le_refl _) S12 ?_; clear S12
 change WA _ _ _ _ _ _ _ _ _ _ _ _ [_, _, _]
 refine wa_end (by kernel_rfl) (fun w13 S13 => ?_)
 refine nmk [1, 2, 3] rfl (nm_thn (ws_seqN changed_n5 changed_n6 rfl rfl rfl (ws_region rfl (wlo 0 1 rfl rfl rfl (wo_run rfl rfl (run_fieldAddr rfl rfl Tryz.underlying77 rfl (ce4) (nf4)) (wlo 1 2 rfl rfl rfl (wo_run rfl rfl (run_load1 rfl rfl Tryz.underlying4 rfl (S13.boxc (i := 2) rfl rfl)) (wlo 2 3 rfl rfl rfl (wo_run rfl rfl (run_not rfl rfl) (wlo 3 4 rfl rfl rfl (wo_run rfl rfl (run_fieldAddr rfl rfl Tryz.underlying77 rfl (ce4) (nf4)) (wlo 4 5 rfl rfl rfl (wo_storeB (i := 0) (us := [_]) (l' := [_, _, _, _, _]) (H' := [_, _, _]) rfl rfl S13 rfl rfl rfl rfl sz4 rfl rfl rfl rfl ?_)))))))))))))
 intro w14 S14; clear S13
 refine wl_end rfl (nmk [2, 3] rfl (nm_thn (ws_seqN changed_n7 changed_n8 rfl rfl rfl (ws_region rfl (wlo 0 1 rfl rfl rfl (wo_run rfl rfl (run_loadN (us := [_, _, _, _, _]) rfl rfl Tryz.underlying77 rfl sz77 (S14.boxcs (i := 0) rfl ⟨rfl, rfl, rfl, rfl, rfl, trivial⟩)) (wlo 1 2 rfl rfl rfl (wo_storeB (i := 1) (us := [_, _, _, _, _]) (l' := [_, _, _, _, _]) (H' := [_, _, _]) rfl rfl S14 rfl rfl rfl rfl sz77 rfl rfl rfl rfl ?_))))))))
 intro w15 S15; clear S14
 refine wl_end rfl (nmk [2] rfl (nm_thn (ws_ret hC [_] rfl rfl ⟨⟨_, rfl, loadVarN (us := [_, _, _, _, _]) Tryz.underlying77 rfl sz77 (S15.boxcs (i := 1) rfl ⟨rfl, rfl, rfl, rfl, rfl, trivial⟩)⟩, trivial⟩ ?_)))
 exact ⟨_, rfl, (S15.pick [] [] (by decide) trivial), (by unfold chg overIn; cases x.plus <;> rfl)⟩
noncomputable def CloneC_n0 : Code := Tryz.f132.body.getD .skip
noncomputable def CloneC_n1 : Code := cL CloneC_n0
noncomputable def CloneC_n2 : Code := cR CloneC_n0
noncomputable def CloneC_n3 : Code := cL CloneC_n2
noncomputable def CloneC_n4 : Code := cR CloneC_n2
noncomputable def CloneC_n5 : Code := cL CloneC_n3
noncomputable def CloneC_n6 : Code := cR CloneC_n3
noncomputable def CloneC_n7 : Code := cL CloneC_n6
noncomputable def CloneC_n8 : Code := cR CloneC_n6
noncomputable def CloneC_n9 : Code := cL CloneC_n4
noncomputable def CloneC_n10 : Code := cR CloneC_n4
set_option maxRecDepth 10000 in
theorem CloneC_o {w : World} {M : Hp} {X : Fr} (s : List Cr) {sA : Option Addr} {sc : Nat} (hs : RdA cdCr (M.un X.h) sA sc s) (hne : s ≠ []) (S : SH w M X []) : Co Tryz.prog 132 [.slice sA s.length sc] w M X (fun u N => N = [Rs.row cdCr u s]) := by
 unfold Co
 have rmhs : s.length * 40 ≤ 140737488355328 := hs.room
 refine calls_in (b := CloneC_n0) Tryz.func132 rfl Tryz.ntmps132 rfl (fun C hC => (ws_sub [(0, _)] ⟨rfl, trivial⟩ (ws_seqN CloneC_n1 CloneC_n2 rfl rfl rfl (ws_region rfl (wla 0 1 rfl rfl rfl rfl rfl rfl rfl (wl_end rfl (nmk [0] rfl (nm_thn (ws_seqN CloneC_n3 CloneC_n4 rfl rfl rfl ?_)))))))))
 refine ws_seqN CloneC_n5 CloneC_n6 rfl rfl rfl (ws_region rfl (wlm 0 1 rfl rfl rfl rfl rfl rfl rfl (wlo 1 2 rfl rfl rfl (wo_run rfl rfl (run_eqlNil rfl rfl rfl Tryz.underlying22) (wl_end rfl (nmk [0, 4] rfl (nm_thn ?_)))))))
 refine ws_condN CloneC_n7 CloneC_n8 rfl rfl rfl rfl (fun hb4 => ?_) (fun hb4 => ?_)
 ·exfalso; exact hne (nilC hs hb4)
 ·refine ws_skip rfl (nmk [0] rfl (nm_thn (ws_seqN CloneC_n9 CloneC_n10 rfl rfl rfl (ws_region rfl (wlo 0 1 rfl rfl rfl (wo_buildSlice0 (C := cdCr) rfl rfl rfl rfl sl22 S ?_))))))
  intro vr1 w1 S1; clear S
  refine wlm 1 2 rfl rfl rfl rfl rfl rfl rfl (wlo 2 3 rfl rfl rfl (wo_appendM (C := cdCr) (i := 0) rfl rfl rfl rfl rfl rfl rfl rfl sl22 S1 rfl hs S1.um (by have h : _ * 40 ≤ _ := hs.room; show (0 + _) * 40 ≤ _; first | omega | (simp only [lens]; omega)) ?_))
  intro vr2 w2 S2; clear S1
  change SH _ _ _ [Rs.row cdCr vr2 s] at S2
  refine wla 3 4 rfl rfl rfl rfl rfl rfl rfl (wl_end rfl (nmk [2] rfl (nm_thn (ws_ret hC [_] rfl rfl ⟨rfl, trivial⟩ ?_))))
  exact ⟨_, rfl, _, S2.pick [0] [_] (by decide) ⟨rfl, trivial⟩, rfl⟩
noncomputable def DiagramOfO_n0 : Code := Tryz.f9.body.getD .skip
noncomputable def DiagramOfO_n1 : Code := cL DiagramOfO_n0
noncomputable def DiagramOfO_n2 : Code := cR DiagramOfO_n0
noncomputable def DiagramOfO_n3 : Code := cL DiagramOfO_n2
noncomputable def DiagramOfO_n4 : Code := cR DiagramOfO_n2
noncomputable def DiagramOfO_n5 : Code := cL DiagramOfO_n4
noncomputable def DiagramOfO_n6 : Code := cR DiagramOfO_n4
set_option maxRecDepth 10000 in
theorem DiagramOf_o {w : World} {M : Hp} {X : Fr} (d : Dg) {dcrsA : Option Addr} {dcrsc : Nat} (hdcrs : RdA cdCr (M.un X.h) dcrsA dcrsc d.crs) (S : SH w M X []) : Co Tryz.prog 9 [.agg [.slice dcrsA d.crs.length dcrsc, .int .i64 d.loops].toArray] w M X (fun u N => ∃ v, u = .agg [v, .int .i64 d.loops].toArray ∧ N = [Rs.row cdCr v d.crs]) := by
 unfold Co
 have rmhdcrs : d.crs.length * 40 ≤ 140737488355328 := hdcrs.room
 have hroom : d.crs.length * 40 ≤ 140737488355328 := hdcrs.room
 refine calls_in (b := DiagramOfO_n0) Tryz.func9 rfl Tryz.ntmps9 rfl (fun C hC => (ws_sub [(0, _)] ⟨rfl, trivial⟩ (ws_seqN DiagramOfO_n1 DiagramOfO_n2 rfl rfl rfl (ws_region rfl (wlo 0 1 rfl rfl rfl (wo_box (l := [_, _]) rfl rfl rfl rfl rfl S ?_))))))
 intro gb1 w1 S1; clear S
 refine wlo 1 2 rfl rfl rfl (wo_alloc (l := [_, _]) rfl rfl rfl zr24 rfl S1 ?_)
 intro gb2 w2 S2; clear S1
 refine wl_end rfl (nmk [1, 2] rfl (nm_thn (ws_seqN DiagramOfO_n3 DiagramOfO_n4 rfl rfl rfl (ws_region rfl (wlo 0 1 rfl rfl rfl (wo_run rfl rfl (run_fieldAddr rfl rfl Tryz.underlying24 rfl (ce22) (nf22)) (wlo 1 2 rfl rfl rfl (wo_run rfl rfl (run_load1 rfl rfl Tryz.underlying22 rfl (S2.boxc (i := 1) rfl rfl)) ?_))))))))
 have S3 := S2.nilrow cdCr; clear S2
 refine wlo 2 3 rfl rfl rfl (wo_appendM (C := cdCr) (i := 0) rfl rfl rfl rfl rfl rfl rfl rfl sl22 S3 rfl hdcrs S3.um (by have h : _ * 40 ≤ _ := hdcrs.room; show (0 + _) * 40 ≤ _; first | omega | (simp only [lens]; omega)) ?_)
 intro vr2 w3 S4; clear S3
 change SH _ _ _ [Rs.row cdCr vr2 d.crs, _, _] at S4
 refine wlo 3 4 rfl rfl rfl (wo_run rfl rfl (run_fieldAddr rfl rfl Tryz.underlying24 rfl (ce22) (nf22)) (wlo 4 5 rfl rfl rfl (wo_storeB (i := 2) (us := [_]) (l' := [_, _]) (H' := [_, _, _]) rfl rfl S4 rfl rfl rfl (S4.cells1 (i := 0) rfl) sz22 rfl (ones_cons (S4.one (i := 0) rfl) rfl) rfl rfl ?_)))
 intro w4 S5; clear S4
 refine wl_end rfl (nmk [1, 2] rfl (nm_thn (ws_seqN DiagramOfO_n5 DiagramOfO_n6 rfl rfl rfl (ws_region rfl (wlo 0 1 rfl rfl rfl (wo_run rfl rfl (run_loadN (us := [_, _]) rfl rfl Tryz.underlying24 rfl sz24 (S5.boxcs (i := 2) rfl ⟨rfl, rfl, trivial⟩)) (wlo 1 2 rfl rfl rfl (wo_storeB (i := 1) (us := [_, _]) (l' := [_, _]) (H' := [_, _, _]) rfl rfl S5 rfl rfl rfl rfl sz24 rfl (ones_cons (S5.one (i := 0) rfl) (ones_cons rfl rfl)) rfl rfl ?_))))))))
 intro w5 S6; clear S5
 refine wl_end rfl (nmk [2] rfl (nm_thn (ws_ret hC [_] rfl rfl ⟨⟨_, rfl, loadVarN (us := [_, _]) Tryz.underlying24 rfl sz24 (S6.boxcs (i := 1) rfl ⟨rfl, rfl, trivial⟩)⟩, trivial⟩ ?_)))
 exact ⟨_, rfl, _, S6.pick [0] [_] (by decide) ⟨rfl, trivial⟩, _, rfl, rfl⟩
noncomputable def change_n0 : Code := Tryz.f86.body.getD .skip
noncomputable def change_n1 : Code := cL change_n0
noncomputable def change_n2 : Code := cR change_n0
noncomputable def change_n3 : Code := cL change_n2
noncomputable def change_n4 : Code := cR change_n2
noncomputable def change_n5 : Code := cL change_n4
noncomputable def change_n6 : Code := cR change_n4
noncomputable def change_n7 : Code := cL change_n6
noncomputable def change_n8 : Code := cR change_n6
set_option maxRecDepth 10000 in
theorem change_t {w : World} {M : Hp} {X : Fr} (d : Dg) {gsh : Nat} {cA iA oA : Option Addr} {cc ic oc : Nat} (k : Nat) (hsb : BxM (M.un X.h) gsh 70 [.slice cA d.crs.length cc, .int .i64 d.loops, .slice iA (tabL d false (4 * d.crs.length)).length ic, .slice oA (tabL d true (4 * d.crs.length)).length oc]) (hsc : RdA cdCr (M.un X.h) cA cc d.crs) (hsi : RdA cdPl (M.un X.h) iA ic (tabL d false (4 * d.crs.length))) (hso : RdA cdPl (M.un X.h) oA oc (tabL d true (4 * d.crs.length))) (hn : d.crs.length ≤ 16) (hk : k < d.crs.length) (S : SH w M X []) : Ct Tryz.prog 86 [.pointer (some ⟨gsh, 0, none⟩), .int .i64 (k : Int)] w M X (fun u N => ∃ A c, u = .agg [.slice A (chD d k).crs.length c, .int .i64 (chD d k).loops].toArray ∧ RdA cdCr N A c (chD d k).crs) := by
 unfold Ct
 have hne : d.crs ≠ [] := fun h => by rw [h] at hk; cases hk
 refine calls_in (b := change_n0) Tryz.func86 rfl Tryz.ntmps86 rfl (fun C hC => (ws_sub [(0, _), (1, _)] ⟨rfl, rfl, trivial⟩ (ws_seqN change_n1 change_n2 rfl rfl rfl (ws_region rfl (wlo 0 1 rfl rfl rfl (wo_alloc (l := [_, _]) rfl rfl rfl zr24 rfl S ?_))))))
 intro gb1 w1 S1; clear S
 refine wl_end rfl (nm_thn (ws_seqN change_n3 change_n4 rfl rfl rfl (ws_draw rfl (by kernel_rfl) S1 14 rfl ?_)))
 clear S1
 refine wap 0 13 rfl (by kernel_rfl) rfl rfl rfl (fun w2 => run_move rfl rfl) ?_
 refine wap 1 12 rfl (by kernel_rfl) rfl rfl rfl (fun w3 => run_nilCheck rfl rfl) ?_
 refine wap 2 11 rfl (by kernel_rfl) rfl rfl rfl (fun w4 => run_fieldAddr rfl rfl Tryz.underlying70 rfl (ce24) (nf24)) ?_
 refine wap 3 10 rfl (by kernel_rfl) rfl rfl rfl (fun w5 => run_fieldAddr rfl rfl Tryz.underlying24 rfl (ce22) (nf22)) ?_
 refine wat 4 9 rfl (by kernel_rfl) rfl rfl rfl (fun M5 N5 w6 hle5 S6 => .inl (run_load1 rfl rfl Tryz.underlying22 rfl ((hsb.mono (Hp.un_mono hle5 S6.mx)).cell S6.um rfl))) ?_
 refine wap 6 8 rfl (by kernel_rfl) rfl rfl rfl (fun w8 => run_move rfl rfl) ?_
 refine wap 7 7 rfl (by kernel_rfl) rfl rfl rfl (fun w10 => run_nilCheck rfl rfl) ?_
 refine wap 8 6 rfl (by kernel_rfl) rfl rfl rfl (fun w12 => run_fieldAddr rfl rfl Tryz.underlying70 rfl (ce24) (nf24)) ?_
 refine wap 9 5 rfl (by kernel_rfl) rfl rfl rfl (fun w14 => run_fieldAddr rfl rfl Tryz.underlying24 rfl (ce3) (nf3)) ?_
 refine wat 10 4 rfl (by kernel_rfl) rfl rfl rfl (fun M15 N15 w16 hle15 S16 => .inl (run_load1 rfl rfl Tryz.underlying3 rfl ((hsb.mono (Hp.un_mono hle15 S16.mx)).cell S16.um rfl))) ?_
 refine wa_two (i := 5) (j := 12) 3 rfl rfl (by kernel_rfl) rfl rfl rfl rfl (fun w19 S19 => ?_) (fun w19 S19 => ?_)
 ·refine (wo_co rfl rfl rfl rfl rfl rfl rfl cf132 S19 (CloneC_o d.crs (hsc.mono S19.un_XH) (hne) S19.lend) ?_)
  intro vw20 w20 Nw20 S20 hRw20; clear S19
  obtain rfl := hRw20
  change SH _ _ _ [_, _] at S20
  refine LeftW.grow [_] (Hp.le_refl _) S20 ?_; clear S20
  change WA _ _ _ _ _ _ _ _ _ _ _ _ [_, _]
  refine wa_base (wat 11 2 rfl (by kernel_rfl) rfl rfl rfl (fun M18 N18 w21 hle18 S21 => .inl (run_build (l := [vw20, .int .i64 d.loops]) rfl rfl st24 rfl (by obtain ⟨_, _, e9, _⟩ := S21.suf.sl (i := 0) rfl; subst e9; rfl))) ?_)
  refine wa_only (i := 12) 1 rfl (by kernel_rfl) rfl rfl (fun w23 S23 => ?_)
  refine (wo_alloc (l := [_, _]) rfl rfl rfl zr24 rfl S23 ?_)
  intro gb2 w24 S24; clear S23
  refine LeftW.grow [_] (Hp.le_refl _) S24 ?_; clear S24
  change WA _ _ _ _ _ _ _ _ _ _ _ _ [_, _, _]
  refine wa_only (i := 13) 0 rfl (by kernel_rfl) rfl rfl (fun w26 S26 => ?_)
  refine (wo_storeB (i := 0) (us := [_, _]) (l' := [_, _]) (H' := [_, _, _]) rfl rfl S26 rfl rfl rfl rfl sz24 rfl (ones_cons (S26.one (i := 1) rfl) (ones_cons rfl rfl)) rfl rfl ?_)
  intro w27 S27; clear S26
  refine LeftW.grow [_] (Hp.le_refl _) S27 ?_; clear S27
  change WA _ _ _ _ _ _ _ _ _ _ _ _ [_, _, _]
  refine wa_end (by kernel_rfl) (fun w28 S28 => ?_)
  refine nmk [1, 4, 5] rfl (nm_thn (ws_seqN change_n5 change_n6 rfl rfl rfl (ws_draw rfl (by kernel_rfl) S28 11 rfl ?_)))
  clear S28
  refine wap 0 10 rfl (by kernel_rfl) rfl rfl rfl (fun w29 => run_fieldAddr rfl rfl Tryz.underlying24 rfl (ce22) (nf22)) ?_
  refine wat 1 9 rfl (by kernel_rfl) rfl rfl rfl (fun M22 N22 w30 hle22 S30 => .inl (run_load1 rfl rfl Tryz.underlying22 rfl (S30.suf.boxc (i := 0) rfl rfl))) ?_
  refine wap 2 8 rfl (by kernel_rfl) rfl rfl rfl (fun w31 => run_move rfl rfl) ?_
  refine wap 3 7 rfl (by kernel_rfl) rfl rfl rfl (fun w32 => run_fieldAddr rfl rfl Tryz.underlying24 rfl (ce22) (nf22)) ?_
  refine wat 4 6 rfl (by kernel_rfl) rfl rfl rfl (fun M25 N25 w33 hle25 S33 => .inl (run_load1 rfl rfl Tryz.underlying22 rfl (S33.suf.boxc (i := 0) rfl rfl))) ?_
  refine wap 5 5 rfl (by kernel_rfl) rfl rfl rfl (fun w34 => run_move rfl rfl) ?_
  refine wat 6 4 rfl (by kernel_rfl) rfl rfl rfl (fun M27 N27 w35 hle27 S35 => .inl (run_indexR (C := cdCr) (i := 1) k rfl rfl rfl sl22 S35.suf rfl (by first | rfl | omega) (by first | omega | (simp only [lens]; omega)))) ?_
  refine wat 7 3 rfl (by kernel_rfl) rfl rfl rfl (fun M28 N28 w36 hle28 S36 => .inl (run_loadN (us := [_, _, _, _, _]) rfl rfl Tryz.underlying77 rfl sz77 (S36.suf.rowcs (i := 1) (e := k) (j := 0) rfl (by first | omega | (simp only [lens]; omega)) ⟨rfl, rfl, rfl, rfl, rfl, trivial⟩))) ?_
  refine wat 8 2 rfl (by kernel_rfl) rfl rfl rfl (fun M29 N29 w37 hle29 S37 => yield_cq rfl rfl rfl rfl rfl cf135 S37 (changed_q (ga d.crs k)  S37.lend)) ?_
  refine wat 9 1 rfl (by kernel_rfl) rfl rfl rfl (fun M30 N30 w38 hle30 S38 => .inl (run_indexR (C := cdCr) (i := 1) k rfl rfl rfl sl22 S38.suf rfl (by first | rfl | omega) (by first | omega | (simp only [lens]; omega)))) ?_
  refine wa_only (i := 10) 0 rfl (by kernel_rfl) rfl rfl (fun w40 S40 => ?_)
  refine (wo_storeR (C := cdCr) (i := 1) (e := k) (j := 0) (us := [_, _, _, _, _]) (H' := [_, _, _]) (⟨(chg (ga d.crs k)).a, (chg (ga d.crs k)).b, (chg (ga d.crs k)).c, (chg (ga d.crs k)).d, (chg (ga d.crs k)).plus⟩ : Cr) rfl rfl S40 rfl (by first | omega | (simp only [lens]; omega)) rfl rfl rfl sz77 rfl rfl rfl rfl ?_)
  intro w41 S41; clear S40
  refine LeftW.turn (by kernel_rfl) S41 ?_; clear S41
  change WA _ _ _ _ _ _ _ _ _ _ _ _ [_, _, _]
  refine wa_end (by kernel_rfl) (fun w42 S42 => ?_)
  refine nmk [4, 5] rfl (nm_thn (ws_seqN change_n7 change_n8 rfl rfl rfl (ws_region rfl (wlo 0 1 rfl rfl rfl (wo_run rfl rfl (run_loadN (us := [_, _]) rfl rfl Tryz.underlying24 rfl sz24 (S42.boxcs (i := 0) rfl ⟨rfl, rfl, trivial⟩)) (wlo 1 2 rfl rfl rfl (wo_storeB (i := 2) (us := [_, _]) (l' := [_, _]) (H' := [_, _, _]) rfl rfl S42 rfl rfl rfl rfl sz24 rfl (ones_cons (S42.one (i := 1) rfl) (ones_cons rfl rfl)) rfl rfl ?_)))))))
  intro w43 S43; clear S42
  refine wl_end rfl (nmk [4] rfl (nm_thn ?_))
  have hcl : (chD d k).crs.length = d.crs.length := List.length_set ..
  obtain ⟨M32, hle32, S44, ⟨A1, c1, e1, hr1⟩⟩ := S43.pubrow (i := 1) (H' := [_, _, _]) rfl rfl (by show _ * 40 ≤ _; first | omega | (simp only [lens]; omega))
  clear S43; subst e1
  replace hsb := hsb.mono (Hp.un_mono hle32 S44.mx)
  replace hsc := hsc.mono (Hp.un_mono hle32 S44.mx)
  replace hsi := hsi.mono (Hp.un_mono hle32 S44.mx)
  replace hso := hso.mono (Hp.un_mono hle32 S44.mx)
  refine ws_ret hC [_] rfl rfl ⟨⟨_, rfl, loadVarN (us := [_, _]) Tryz.underlying24 rfl sz24 (S44.boxcs (i := 2) rfl ⟨rfl, rfl, trivial⟩)⟩, trivial⟩ ?_
  refine ⟨_, rfl, _, hle32, (S44.pick [] [] (by decide) trivial), ?_⟩
  exact ⟨_, _, rfl, hr1⟩
 ·refine (wo_alloc (l := [_, _]) rfl rfl rfl zr24 rfl S19 ?_)
  intro gb3 w44 S45; clear S19
  refine LeftW.grow [_] (Hp.le_refl _) S45 ?_; clear S45
  change WA _ _ _ _ _ _ _ _ _ _ _ _ [_, _]
  refine wa_only (i := 5) 2 rfl (by kernel_rfl) rfl rfl (fun w46 S47 => ?_)
  refine (wo_co rfl rfl rfl rfl rfl rfl rfl cf132 S47 (CloneC_o d.crs (hsc.mono S47.un_XH) (hne) S47.lend) ?_)
  intro vw47 w47 Nw47 S48 hRw47; clear S47
  obtain rfl := hRw47
  change SH _ _ _ [_, _, _] at S48
  refine LeftW.grow [_, _] (Hp.le_refl _) S48 ?_; clear S48
  change WA _ _ _ _ _ _ _ _ _ _ _ _ [_, _, _]
  refine wa_base (wat 11 1 rfl (by kernel_rfl) rfl rfl rfl (fun M34 N33 w48 hle34 S49 => .inl (run_build (l := [vw47, .int .i64 d.loops]) rfl rfl st24 rfl (by obtain ⟨_, _, e9, _⟩ := S49.suf.sl (i := 0) rfl; subst e9; rfl))) ?_)
  refine wa_only (i := 13) 0 rfl (by kernel_rfl) rfl rfl (fun w50 S51 => ?_)
  refine (wo_storeB (i := 1) (us := [_, _]) (l' := [_, _]) (H' := [_, _, _]) rfl rfl S51 rfl rfl rfl rfl sz24 rfl (ones_cons (S51.one (i := 0) rfl) (ones_cons rfl rfl)) rfl rfl ?_)
  intro w51 S52; clear S51
  refine LeftW.turn (by kernel_rfl) S52 ?_; clear S52
  change WA _ _ _ _ _ _ _ _ _ _ _ _ [_, _, _]
  refine wa_end (by kernel_rfl) (fun w52 S53 => ?_)
  refine nmk [1, 4, 5] rfl (nm_thn (ws_seqN change_n5 change_n6 rfl rfl rfl (ws_draw rfl (by kernel_rfl) S53 11 rfl ?_)))
  clear S53
  refine wap 0 10 rfl (by kernel_rfl) rfl rfl rfl (fun w53 => run_fieldAddr rfl rfl Tryz.underlying24 rfl (ce22) (nf22)) ?_
  refine wat 1 9 rfl (by kernel_rfl) rfl rfl rfl (fun M37 N36 w54 hle37 S55 => .inl (run_load1 rfl rfl Tryz.underlying22 rfl (S55.suf.boxc (i := 1) rfl rfl))) ?_
  refine wap 2 8 rfl (by kernel_rfl) rfl rfl rfl (fun w55 => run_move rfl rfl) ?_
  refine wap 3 7 rfl (by kernel_rfl) rfl rfl rfl (fun w56 => run_fieldAddr rfl rfl Tryz.underlying24 rfl (ce22) (nf22)) ?_
  refine wat 4 6 rfl (by kernel_rfl) rfl rfl rfl (fun M40 N39 w57 hle40 S58 => .inl (run_load1 rfl rfl Tryz.underlying22 rfl (S58.suf.boxc (i := 1) rfl rfl))) ?_
  refine wap 5 5 rfl (by kernel_rfl) rfl rfl rfl (fun w58 => run_move rfl rfl) ?_
  refine wat 6 4 rfl (by kernel_rfl) rfl rfl rfl (fun M42 N41 w59 hle42 S60 => .inl (run_indexR (C := cdCr) (i := 0) k rfl rfl rfl sl22 S60.suf rfl (by first | rfl | omega) (by first | omega | (simp only [lens]; omega)))) ?_
  refine wat 7 3 rfl (by kernel_rfl) rfl rfl rfl (fun M43 N42 w60 hle43 S61 => .inl (run_loadN (us := [_, _, _, _, _]) rfl rfl Tryz.underlying77 rfl sz77 (S61.suf.rowcs (i := 0) (e := k) (j := 0) rfl (by first | omega | (simp only [lens]; omega)) ⟨rfl, rfl, rfl, rfl, rfl, trivial⟩))) ?_
  refine wat 8 2 rfl (by kernel_rfl) rfl rfl rfl (fun M44 N43 w61 hle44 S62 => yield_cq rfl rfl rfl rfl rfl cf135 S62 (changed_q (ga d.crs k)  S62.lend)) ?_
  refine wat 9 1 rfl (by kernel_rfl) rfl rfl rfl (fun M45 N44 w62 hle45 S63 => .inl (run_indexR (C := cdCr) (i := 0) k rfl rfl rfl sl22 S63.suf rfl (by first | rfl | omega) (by first | omega | (simp only [lens]; omega)))) ?_
  refine wa_only (i := 10) 0 rfl (by kernel_rfl) rfl rfl (fun w64 S65 => ?_)
  refine (wo_storeR (C := cdCr) (i := 0) (e := k) (j := 0) (us := [_, _, _, _, _]) (H' := [_, _, _]) (⟨(chg (ga d.crs k)).a, (chg (ga d.crs k)).b, (chg (ga d.crs k)).c, (chg (ga d.crs k)).d, (chg (ga d.crs k)).plus⟩ : Cr) rfl rfl S65 rfl (by first | omega | (simp only [lens]; omega)) rfl rfl rfl sz77 rfl rfl rfl rfl ?_)
  intro w65 S66; clear S65
  refine LeftW.turn (by kernel_rfl) S66 ?_; clear S66
  change WA _ _ _ _ _ _ _ _ _ _ _ _ [_, _, _]
  refine wa_end (by kernel_rfl) (fun w66 S67 => ?_)
  refine nmk [4, 5] rfl (nm_thn (ws_seqN change_n7 change_n8 rfl rfl rfl (ws_region rfl (wlo 0 1 rfl rfl rfl (wo_run rfl rfl (run_loadN (us := [_, _]) rfl rfl Tryz.underlying24 rfl sz24 (S67.boxcs (i := 1) rfl ⟨rfl, rfl, trivial⟩)) (wlo 1 2 rfl rfl rfl (wo_storeB (i := 2) (us := [_, _]) (l' := [_, _]) (H' := [_, _, _]) rfl rfl S67 rfl rfl rfl rfl sz24 rfl (ones_cons (S67.one (i := 0) rfl) (ones_cons rfl rfl)) rfl rfl ?_)))))))
  intro w67 S68; clear S67
  refine wl_end rfl (nmk [4] rfl (nm_thn ?_))
  have hcl : (chD d k).crs.length = d.crs.length := List.length_set ..
  obtain ⟨M47, hle47, S69, ⟨A2, c2, e2, hr2⟩⟩ := S68.pubrow (i := 0) (H' := [_, _, _]) rfl rfl (by show _ * 40 ≤ _; first | omega | (simp only [lens]; omega))
  clear S68; subst e2
  replace hsb := hsb.mono (Hp.un_mono hle47 S69.mx)
  replace hsc := hsc.mono (Hp.un_mono hle47 S69.mx)
  replace hsi := hsi.mono (Hp.un_mono hle47 S69.mx)
  replace hso := hso.mono (Hp.un_mono hle47 S69.mx)
  refine ws_ret hC [_] rfl rfl ⟨⟨_, rfl, loadVarN (us := [_, _]) Tryz.underlying24 rfl sz24 (S69.boxcs (i := 2) rfl ⟨rfl, rfl, trivial⟩)⟩, trivial⟩ ?_
  refine ⟨_, rfl, _, hle47, (S69.pick [] [] (by decide) trivial), ?_⟩
  exact ⟨_, _, rfl, hr2⟩
noncomputable def MirrorOf_n0 : Code := Tryz.f95.body.getD .skip
noncomputable def MirrorOf_n1 : Code := cL MirrorOf_n0
noncomputable def MirrorOf_n2 : Code := cR MirrorOf_n0
noncomputable def MirrorOf_n3 : Code := cL MirrorOf_n2
noncomputable def MirrorOf_n4 : Code := cR MirrorOf_n2
noncomputable def MirrorOf_n5 : Code := cL MirrorOf_n4
noncomputable def MirrorOf_n6 : Code := cR MirrorOf_n4
noncomputable def MirrorOf_n7 : Code := cL MirrorOf_n5
noncomputable def MirrorOf_n8 : Code := cR MirrorOf_n5
noncomputable def MirrorOf_n9 : Code := cL MirrorOf_n8
noncomputable def MirrorOf_n10 : Code := cL MirrorOf_n9
noncomputable def MirrorOf_n11 : Code := cL MirrorOf_n10
noncomputable def MirrorOf_n12 : Code := cR MirrorOf_n10
noncomputable def MirrorOf_n13 : Code := cL MirrorOf_n11
noncomputable def MirrorOf_n14 : Code := cR MirrorOf_n11
noncomputable def MirrorOf_n15 : Code := cL MirrorOf_n14
noncomputable def MirrorOf_n16 : Code := cR MirrorOf_n14
noncomputable def MirrorOf_n17 : Code := cL MirrorOf_n12
noncomputable def MirrorOf_n18 : Code := cR MirrorOf_n12
noncomputable def MirrorOf_n19 : Code := cL MirrorOf_n17
noncomputable def MirrorOf_n20 : Code := cL MirrorOf_n19
noncomputable def MirrorOf_n21 : Code := cR MirrorOf_n19
noncomputable def MirrorOf_n22 : Code := cL MirrorOf_n21
noncomputable def MirrorOf_n23 : Code := cR MirrorOf_n21
noncomputable def MirrorOf_n24 : Code := cL MirrorOf_n23
noncomputable def MirrorOf_n25 : Code := cR MirrorOf_n23
noncomputable def MirrorOf_n26 : Code := cL MirrorOf_n6
noncomputable def MirrorOf_n27 : Code := cR MirrorOf_n6
set_option maxRecDepth 10000 in
theorem MirrorOf_t {w : World} {M : Hp} {X : Fr} (d : Dg) {dcrsA : Option Addr} {dcrsc : Nat} (hdcrs : RdA cdCr (M.un X.h) dcrsA dcrsc d.crs) (S : SH w M X []) : Ct Tryz.prog 95 [.agg [.slice dcrsA d.crs.length dcrsc, .int .i64 d.loops].toArray] w M X (fun u N => ∃ A c, u = .agg [.slice A (d.crs.map chg).length c, .int .i64 d.loops].toArray ∧ RdA cdCr N A c (d.crs.map chg)) := by
 unfold Ct
 have rmhdcrs : d.crs.length * 40 ≤ 140737488355328 := hdcrs.room
 refine calls_in (b := MirrorOf_n0) Tryz.func95 rfl Tryz.ntmps95 rfl (fun C hC => (ws_sub [(0, _)] ⟨rfl, trivial⟩ (ws_seqN MirrorOf_n1 MirrorOf_n2 rfl rfl rfl (ws_region rfl (wlo 0 1 rfl rfl rfl (wo_box (l := [_, _]) rfl rfl rfl rfl rfl S ?_))))))
 intro gb1 w1 S1; clear S
 refine wlo 1 2 rfl rfl rfl (wo_alloc (l := [_, _]) rfl rfl rfl zr24 rfl S1 ?_)
 intro gb2 w2 S2; clear S1
 refine wl_end rfl (nmk [1, 2] rfl (nm_thn (ws_seqN MirrorOf_n3 MirrorOf_n4 rfl rfl rfl (ws_region rfl (wlo 0 1 rfl rfl rfl (wo_run rfl rfl (run_fieldAddr rfl rfl Tryz.underlying24 rfl (ce3) (nf3)) (wlo 1 2 rfl rfl rfl (wo_run rfl rfl (run_load1 rfl rfl Tryz.underlying3 rfl (S2.boxc (i := 1) rfl rfl)) (wlo 2 3 rfl rfl rfl (wo_run rfl rfl (run_build (l := [_, _]) rfl rfl st24 rfl rfl) (wlo 3 4 rfl rfl rfl (wo_alloc (l := [_, _]) rfl rfl rfl zr24 rfl S2 ?_))))))))))))
 intro gb3 w3 S3; clear S2
 refine wlo 4 5 rfl rfl rfl (wo_storeB (i := 0) (us := [_, _]) (l' := [_, _]) (H' := [_, _, _]) rfl rfl S3 rfl rfl rfl rfl sz24 rfl rfl rfl rfl ?_)
 intro w4 S4; clear S3
 refine wl_end rfl (nmk [1, 2, 3] rfl (nm_thn (ws_seqN MirrorOf_n5 MirrorOf_n6 rfl rfl rfl (ws_seqN MirrorOf_n7 MirrorOf_n8 rfl rfl rfl (ws_region rfl (wla 0 1 rfl rfl rfl rfl rfl rfl rfl (wl_end rfl (nm_thn ?_))))))))
 refine ws_blockN MirrorOf_n9 0 rfl rfl rfl ?_
 have S5 := S4.nilrow cdCr; clear S4
 refine ws_loopE (fun mx_ ax_ wx_ => ∃ (i : Nat) (mc : List Cr) (vrm : Value), mx_ = d.crs.length - i ∧ Env 52 [(1, .pointer (some ⟨gb1, 0, none⟩)), (2, .pointer (some ⟨gb2, 0, none⟩)), (3, .pointer (some ⟨gb3, 0, none⟩)), (4, .int .i64 (i : Int))] ax_ ∧ SH wx_ M X [Rs.row cdCr vrm mc, Rs.box gb3 24 [vrm, .int .i64 d.loops], Rs.box gb2 24 [.slice none 0 0, .int .i64 0], Rs.box gb1 24 [.slice dcrsA d.crs.length dcrsc, .int .i64 d.loops]] ∧ i ≤ d.crs.length ∧ mc = (d.crs.take i).map chg) rfl ?_ ?_
 ·intro ax_ hax_
  refine ⟨_, ⟨0, _, _, rfl, hax_.sub ⟨rfl, rfl, rfl, rfl, trivial⟩, S5.pick [0, 1, 2, 3] [_, _, _, _] (by decide) ⟨rfl, rfl, rfl, rfl, trivial⟩, ?hq1f0, ?hq1f1⟩⟩
  case hq1f0 => omega
  case hq1f1 => rfl
 ·rintro m1 a1 w5 ⟨i, mc, vrm, rfl, he1, S6, hi, hmc⟩
  clear S5
  refine ws_in he1 (c := MirrorOf_n10) rfl ?_
  clear he1 a1
  have hml : mc.length = i := by rw [hmc, List.length_map, List.length_take]; omega
  refine ws_seqN MirrorOf_n11 MirrorOf_n12 rfl rfl rfl (ws_seqN MirrorOf_n13 MirrorOf_n14 rfl rfl rfl (ws_region rfl (wlm 0 1 rfl rfl rfl rfl rfl rfl rfl (wlo 1 2 rfl rfl rfl (wo_run rfl rfl (run_fieldAddr rfl rfl Tryz.underlying24 rfl (ce22) (nf22)) (wlo 2 3 rfl rfl rfl (wo_run rfl rfl (run_load1 rfl rfl Tryz.underlying22 rfl (S6.boxc (i := 3) rfl rfl)) (wlo 3 4 rfl rfl rfl (wo_run rfl rfl (run_len rfl rfl rfl rfl rfl rfl Tryz.underlying22) (wlo 4 5 rfl rfl rfl (wo_run rfl rfl (run_lss rfl rfl rfl) (wl_end rfl ?_))))))))))))
  refine nmk [1, 2, 3, 4, 13] rfl (nm_thn ?_)
  refine ws_condN MirrorOf_n15 MirrorOf_n16 rfl rfl rfl rfl (fun hb13 => ?_) (fun hb13 => ?_)
  ·replace hb13 := of_decide_eq_true hb13
   refine ws_skip rfl (nmk [1, 2, 3, 4] rfl (nm_thn (ws_seqN MirrorOf_n17 MirrorOf_n18 rfl rfl rfl (ws_blockN MirrorOf_n19 1 rfl rfl rfl (ws_seqN MirrorOf_n20 MirrorOf_n21 rfl rfl rfl (ws_region rfl (wlo 0 1 rfl rfl rfl (wo_run rfl rfl (run_fieldAddr rfl rfl Tryz.underlying24 rfl (ce22) (nf22)) (wlo 1 2 rfl rfl rfl (wo_run rfl rfl (run_load1 rfl rfl Tryz.underlying22 rfl (S6.boxc (i := 3) rfl rfl)) ?_))))))))))
   refine wlm 2 3 rfl rfl rfl rfl rfl rfl rfl (wlo 3 4 rfl rfl rfl (wo_run rfl rfl (run_indexM (C := cdCr) i rfl rfl rfl sl22 (by first | rfl | omega) hdcrs (by first | omega | (simp only [lens]; omega))) ?_))
   refine wlo 4 5 rfl rfl rfl (wo_run rfl rfl (run_loadN (us := [_, _, _, _, _]) rfl rfl Tryz.underlying77 rfl sz77 (hdcrs.cellsAt S6.um (e := i) (by first | omega | (simp only [lens]; omega)) (j := 0) ⟨rfl, rfl, rfl, rfl, rfl, trivial⟩)) ?_)
   refine wlo 5 6 rfl rfl rfl (wo_alloc (l := [_, _, _, _, _]) rfl rfl rfl zr77 rfl S6 ?_)
   intro gb4 w6 S7; clear S6
   refine wlo 6 7 rfl rfl rfl (wo_storeB (i := 0) (us := [_, _, _, _, _]) (l' := [_, _, _, _, _]) (H' := [_, _, _, _, _]) rfl rfl S7 rfl rfl rfl rfl sz77 rfl rfl rfl rfl ?_)
   intro w7 S8; clear S7
   refine wl_end rfl (nmk [1, 2, 3, 4, 5] rfl (nm_thn (ws_seqN MirrorOf_n22 MirrorOf_n23 rfl rfl rfl (ws_region rfl (wlo 0 1 rfl rfl rfl (wo_run rfl rfl (run_fieldAddr rfl rfl Tryz.underlying77 rfl (ce4) (nf4)) (wlo 1 2 rfl rfl rfl (wo_run rfl rfl (run_load1 rfl rfl Tryz.underlying4 rfl (S8.boxc (i := 0) rfl rfl)) (wl_end rfl (nmk [1, 2, 3, 4, 5, 22] rfl ?_))))))))))
   refine nm_thn ?_
   refine ws_condN MirrorOf_n24 MirrorOf_n25 rfl rfl rfl rfl (fun hb22 => ?_) (fun hb22 => ?_)
   ·refine ws_region rfl (wlo 0 1 rfl rfl rfl (wo_run rfl rfl (run_fieldAddr rfl rfl Tryz.underlying24 rfl (ce22) (nf22)) (wlo 1 2 rfl rfl rfl (wo_run rfl rfl (run_load1 rfl rfl Tryz.underlying22 rfl (S8.boxc (i := 2) rfl rfl)) (wlo 2 3 rfl rfl rfl (wo_run rfl rfl (run_fieldAddr rfl rfl Tryz.underlying77 rfl (ce3) (nf3)) (wlo 3 4 rfl rfl rfl (wo_run rfl rfl (run_load1 rfl rfl Tryz.underlying3 rfl (S8.boxc (i := 0) rfl rfl)) (wlo 4 5 rfl rfl rfl (wo_run rfl rfl (run_fieldAddr rfl rfl Tryz.underlying77 rfl (ce3) (nf3)) (wlo 5 6 rfl rfl rfl (wo_run rfl rfl (run_load1 rfl rfl Tryz.underlying3 rfl (S8.boxc (i := 0) rfl rfl)) (wlo 6 7 rfl rfl rfl (wo_run rfl rfl (run_fieldAddr rfl rfl Tryz.underlying77 rfl (ce3) (nf3)) (wlo 7 8 rfl rfl rfl (wo_run rfl rfl (run_load1 rfl rfl Tryz.underlying3 rfl (S8.boxc (i := 0) rfl rfl)) ?_))))))))))))))))
    refine wlo 8 9 rfl rfl rfl (wo_run rfl rfl (run_fieldAddr rfl rfl Tryz.underlying77 rfl (ce3) (nf3)) (wlo 9 10 rfl rfl rfl (wo_run rfl rfl (run_load1 rfl rfl Tryz.underlying3 rfl (S8.boxc (i := 0) rfl rfl)) (wlo 10 11 rfl rfl rfl (wo_run rfl rfl (run_build (l := [_, _, _, _, _]) rfl rfl st77 rfl rfl) (wlo 11 12 rfl rfl rfl (wo_buildSlice1 (C := cdCr) (l := [_, _, _, _, _]) rfl rfl rfl rfl sl22 rfl rfl rfl rfl S8 ?_)))))))
    intro gb5 w8 S9; clear S8
    refine wlo 12 13 rfl rfl rfl (wo_append1 (C := cdCr) (i := 2) (q := 0) (⟨(ga d.crs i).d, (ga d.crs i).a, (ga d.crs i).b, (ga d.crs i).c, false⟩ : Cr) rfl rfl rfl rfl rfl rfl rfl rfl sl22 S9 rfl rfl rfl (by show (_ + 1) * 40 ≤ _; first | omega | (simp only [lens]; omega)) ?_)
    intro vrm1 w9 S10; clear S9
    have S11 := S10.pick [1, 2, 3, 4, 5] [_, _, _, _, _] (by decide) ⟨rfl, rfl, rfl, rfl, rfl, trivial⟩; clear S10
    refine wlo 13 14 rfl rfl rfl (wo_run rfl rfl (run_fieldAddr rfl rfl Tryz.underlying24 rfl (ce22) (nf22)) (wlo 14 15 rfl rfl rfl (wo_storeB (i := 2) (us := [_]) (l' := [_, _]) (H' := [_, _, _, _, _]) rfl rfl S11 rfl rfl rfl (S11.cells1 (i := 1) rfl) sz22 rfl (ones_cons (S11.one (i := 1) rfl) rfl) rfl rfl ?_)))
    intro w10 S12; clear S11
    refine wl_end rfl (nm_blk (nmk [1, 2, 3, 4] rfl (nm_thn (ws_region rfl (wlm 0 1 rfl rfl rfl rfl rfl rfl rfl (wlo 1 2 rfl rfl rfl (wo_run rfl rfl (run_add rfl rfl rfl (by first | omega | (simp only [lens]; omega))) ?_)))))))
    refine wla 2 3 rfl rfl rfl rfl rfl rfl rfl (wl_end rfl (nm_lp ?_))
    intro ax_ hax_
    refine ⟨_, ?hq2m, ⟨i + 1, _, _, rfl, hax_.sub ⟨rfl, rfl, rfl, rfl, trivial⟩, S12.pick [1, 2, 3, 4] [_, _, _, _] (by decide) ⟨rfl, rfl, rfl, rfl, trivial⟩, ?hq2f0, ?hq2f1⟩⟩
    case hq2f0 => omega
    case hq2f1 => (rw [take_ga d.crs i (by omega), List.map_append, ← hmc]; unfold chg; simp [*])
    case hq2m => omega
   ·refine ws_region rfl (wlo 0 1 rfl rfl rfl (wo_run rfl rfl (run_fieldAddr rfl rfl Tryz.underlying24 rfl (ce22) (nf22)) (wlo 1 2 rfl rfl rfl (wo_run rfl rfl (run_load1 rfl rfl Tryz.underlying22 rfl (S8.boxc (i := 2) rfl rfl)) (wlo 2 3 rfl rfl rfl (wo_run rfl rfl (run_fieldAddr rfl rfl Tryz.underlying77 rfl (ce3) (nf3)) (wlo 3 4 rfl rfl rfl (wo_run rfl rfl (run_load1 rfl rfl Tryz.underlying3 rfl (S8.boxc (i := 0) rfl rfl)) (wlo 4 5 rfl rfl rfl (wo_run rfl rfl (run_fieldAddr rfl rfl Tryz.underlying77 rfl (ce3) (nf3)) (wlo 5 6 rfl rfl rfl (wo_run rfl rfl (run_load1 rfl rfl Tryz.underlying3 rfl (S8.boxc (i := 0) rfl rfl)) (wlo 6 7 rfl rfl rfl (wo_run rfl rfl (run_fieldAddr rfl rfl Tryz.underlying77 rfl (ce3) (nf3)) (wlo 7 8 rfl rfl rfl (wo_run rfl rfl (run_load1 rfl rfl Tryz.underlying3 rfl (S8.boxc (i := 0) rfl rfl)) ?_))))))))))))))))
    refine wlo 8 9 rfl rfl rfl (wo_run rfl rfl (run_fieldAddr rfl rfl Tryz.underlying77 rfl (ce3) (nf3)) (wlo 9 10 rfl rfl rfl (wo_run rfl rfl (run_load1 rfl rfl Tryz.underlying3 rfl (S8.boxc (i := 0) rfl rfl)) (wlo 10 11 rfl rfl rfl (wo_run rfl rfl (run_build (l := [_, _, _, _, _]) rfl rfl st77 rfl rfl) (wlo 11 12 rfl rfl rfl (wo_buildSlice1 (C := cdCr) (l := [_, _, _, _, _]) rfl rfl rfl rfl sl22 rfl rfl rfl rfl S8 ?_)))))))
    intro gb6 w11 S13; clear S8
    refine wlo 12 13 rfl rfl rfl (wo_append1 (C := cdCr) (i := 2) (q := 0) (⟨(ga d.crs i).b, (ga d.crs i).c, (ga d.crs i).d, (ga d.crs i).a, true⟩ : Cr) rfl rfl rfl rfl rfl rfl rfl rfl sl22 S13 rfl rfl rfl (by show (_ + 1) * 40 ≤ _; first | omega | (simp only [lens]; omega)) ?_)
    intro vrm2 w12 S14; clear S13
    have S15 := S14.pick [1, 2, 3, 4, 5] [_, _, _, _, _] (by decide) ⟨rfl, rfl, rfl, rfl, rfl, trivial⟩; clear S14
    refine wlo 13 14 rfl rfl rfl (wo_run rfl rfl (run_fieldAddr rfl rfl Tryz.underlying24 rfl (ce22) (nf22)) (wlo 14 15 rfl rfl rfl (wo_storeB (i := 2) (us := [_]) (l' := [_, _]) (H' := [_, _, _, _, _]) rfl rfl S15 rfl rfl rfl (S15.cells1 (i := 1) rfl) sz22 rfl (ones_cons (S15.one (i := 1) rfl) rfl) rfl rfl ?_)))
    intro w13 S16; clear S15
    refine wl_end rfl (nm_blk (nmk [1, 2, 3, 4] rfl (nm_thn (ws_region rfl (wlm 0 1 rfl rfl rfl rfl rfl rfl rfl (wlo 1 2 rfl rfl rfl (wo_run rfl rfl (run_add rfl rfl rfl (by first | omega | (simp only [lens]; omega))) ?_)))))))
    refine wla 2 3 rfl rfl rfl rfl rfl rfl rfl (wl_end rfl (nm_lp ?_))
    intro ax_ hax_
    refine ⟨_, ?hq3m, ⟨i + 1, _, _, rfl, hax_.sub ⟨rfl, rfl, rfl, rfl, trivial⟩, S16.pick [1, 2, 3, 4] [_, _, _, _] (by decide) ⟨rfl, rfl, rfl, rfl, trivial⟩, ?hq3f0, ?hq3f1⟩⟩
    case hq3f0 => omega
    case hq3f1 => (rw [take_ga d.crs i (by omega), List.map_append, ← hmc]; unfold chg; simp [*])
    case hq3m => omega
  ·replace hb13 := of_decide_eq_false hb13
   refine ws_exit rfl rfl (nmk [2, 3] rfl (nm_thn (ws_seqN MirrorOf_n26 MirrorOf_n27 rfl rfl rfl (ws_region rfl (wlo 0 1 rfl rfl rfl (wo_run rfl rfl (run_loadN (us := [_, _]) rfl rfl Tryz.underlying24 rfl sz24 (S6.boxcs (i := 1) rfl ⟨rfl, rfl, trivial⟩)) (wlo 1 2 rfl rfl rfl (wo_storeB (i := 2) (us := [_, _]) (l' := [_, _]) (H' := [_, _, _, _]) rfl rfl S6 rfl rfl rfl rfl sz24 rfl (ones_cons (S6.one (i := 0) rfl) (ones_cons rfl rfl)) rfl rfl ?_))))))))
   intro w14 S17; clear S6
   refine wl_end rfl (nmk [2] rfl (nm_thn ?_))
   obtain ⟨M1, hle2, S18, ⟨A1, c1, e1, hr1⟩⟩ := S17.pubrow (i := 0) (H' := [_, _, _, _]) rfl rfl (by show _ * 40 ≤ _; first | omega | (simp only [lens]; omega))
   clear S17; subst e1
   replace hdcrs := hdcrs.mono (Hp.un_mono hle2 S18.mx)
   refine ws_ret hC [_] rfl rfl ⟨⟨_, rfl, loadVarN (us := [_, _]) Tryz.underlying24 rfl sz24 (S18.boxcs (i := 2) rfl ⟨rfl, rfl, trivial⟩)⟩, trivial⟩ ?_
   refine ⟨_, rfl, _, hle2, (S18.pick [] [] (by decide) trivial), ?_⟩
   obtain rfl : i = d.crs.length := by omega
   rw [List.take_length] at hmc
   rw [← hmc]
   exact ⟨_, _, rfl, hr1⟩
noncomputable def ChangeOf_n0 : Code := Tryz.f53.body.getD .skip
noncomputable def ChangeOf_n1 : Code := cL ChangeOf_n0
noncomputable def ChangeOf_n2 : Code := cR ChangeOf_n0
noncomputable def ChangeOf_n3 : Code := cL ChangeOf_n2
noncomputable def ChangeOf_n4 : Code := cR ChangeOf_n2
noncomputable def ChangeOf_n5 : Code := cL ChangeOf_n4
noncomputable def ChangeOf_n6 : Code := cR ChangeOf_n4
noncomputable def ChangeOf_n7 : Code := cL ChangeOf_n6
noncomputable def ChangeOf_n8 : Code := cR ChangeOf_n6
noncomputable def ChangeOf_n9 : Code := cL ChangeOf_n8
noncomputable def ChangeOf_n10 : Code := cR ChangeOf_n8
set_option maxRecDepth 10000 in
theorem ChangeOf_t {w : World} {M : Hp} {X : Fr} (d : Dg) {dcrsA : Option Addr} {dcrsc : Nat} (k : Nat) (hdcrs : RdA cdCr (M.un X.h) dcrsA dcrsc d.crs) (hk : k < d.crs.length) (S : SH w M X []) : Ct Tryz.prog 53 [.agg [.slice dcrsA d.crs.length dcrsc, .int .i64 d.loops].toArray, .int .i64 (k : Int)] w M X (fun u N => ∃ A c, u = .agg [.slice A (chD d k).crs.length c, .int .i64 (chD d k).loops].toArray ∧ RdA cdCr N A c (chD d k).crs) := by
 unfold Ct
 have rmhdcrs : d.crs.length * 40 ≤ 140737488355328 := hdcrs.room
 refine calls_in (b := ChangeOf_n0) Tryz.func53 rfl Tryz.ntmps53 rfl (fun C hC => (ws_sub [(0, _), (1, _)] ⟨rfl, rfl, trivial⟩ (ws_seqN ChangeOf_n1 ChangeOf_n2 rfl rfl rfl (ws_region rfl (wlo 0 1 rfl rfl rfl (wo_box (l := [_, _]) rfl rfl rfl rfl rfl S ?_))))))
 intro gb1 w1 S1; clear S
 refine wlo 1 2 rfl rfl rfl (wo_alloc (l := [_, _]) rfl rfl rfl zr24 rfl S1 ?_)
 intro gb2 w2 S2; clear S1
 refine wl_end rfl (nmk [1, 2, 4] rfl (nm_thn (ws_seqN ChangeOf_n3 ChangeOf_n4 rfl rfl rfl (ws_region rfl (wlo 0 1 rfl rfl rfl (wo_run rfl rfl (run_loadN (us := [_, _]) rfl rfl Tryz.underlying24 rfl sz24 (S2.boxcs (i := 1) rfl ⟨rfl, rfl, trivial⟩)) (wlo 1 2 rfl rfl rfl (wo_co rfl rfl rfl rfl rfl rfl rfl cf9 S2 (DiagramOf_o d (hdcrs.mono S2.un_XH) S2.lend) ?_))))))))
 intro vw3 w3 Nw3 S3 hRw3; clear S2
 obtain ⟨vr1, rfl, rfl⟩ := hRw3
 change SH _ _ _ [_, _, _] at S3
 refine wlo 2 3 rfl rfl rfl (wo_alloc (l := [_, _]) rfl rfl rfl zr24 rfl S3 ?_)
 intro gb3 w4 S4; clear S3
 refine wlo 3 4 rfl rfl rfl (wo_storeB (i := 0) (us := [_, _]) (l' := [_, _]) (H' := [_, _, _, _]) rfl rfl S4 rfl rfl rfl rfl sz24 rfl (ones_cons (S4.one (i := 1) rfl) (ones_cons rfl rfl)) rfl rfl ?_)
 intro w5 S5; clear S4
 refine wl_end rfl (nmk [1, 2, 4, 5] rfl (nm_thn (ws_seqN ChangeOf_n5 ChangeOf_n6 rfl rfl rfl (ws_region rfl (wlo 0 1 rfl rfl rfl (wo_run rfl rfl (run_fieldAddr rfl rfl Tryz.underlying24 rfl (ce22) (nf22)) (wlo 1 2 rfl rfl rfl (wo_run rfl rfl (run_load1 rfl rfl Tryz.underlying22 rfl (S5.boxc (i := 3) rfl rfl)) (wlm 2 3 rfl rfl rfl rfl rfl rfl rfl (wlo 3 4 rfl rfl rfl (wo_run rfl rfl (run_indexM (C := cdCr) k rfl rfl rfl sl22 (by first | rfl | omega) hdcrs (by first | omega | (simp only [lens]; omega))) ?_)))))))))))
 refine wlo 4 5 rfl rfl rfl (wo_run rfl rfl (run_loadN (us := [_, _, _, _, _]) rfl rfl Tryz.underlying77 rfl sz77 (hdcrs.cellsAt S5.um (e := k) (by first | omega | (simp only [lens]; omega)) (j := 0) ⟨rfl, rfl, rfl, rfl, rfl, trivial⟩)) ?_)
 refine wlo 5 6 rfl rfl rfl (wo_buildSlice1 (C := cdCr) (l := [_, _, _, _, _]) rfl rfl rfl rfl sl22 rfl rfl rfl rfl S5 ?_)
 intro gb4 w6 S6; clear S5
 refine wlo 6 7 rfl rfl rfl (wo_run rfl rfl (run_build (l := [_, _]) rfl rfl st24 rfl rfl) ?_)
 have hr1 := S6.lendBox (C := cdCr) (z := (⟨(ga d.crs k).a, (ga d.crs k).b, (ga d.crs k).c, (ga d.crs k).d, (ga d.crs k).plus⟩ : Cr)) (i := 0) rfl rfl (by decide)
 have hcall1 := MirrorOf_t (⟨[ga d.crs k], 0⟩ : Dg) hr1 S6.lend
 refine wlo 7 8 rfl rfl rfl (wo_ct rfl rfl rfl rfl rfl rfl rfl cf95 S6 (hcall1) ?_)
 intro vw7 w7 M1 hle1 S7 hRw7; clear S6
 replace hdcrs := hdcrs.mono (Hp.un_mono hle1 S7.mx)
 obtain ⟨A1, c1, rfl, hr2⟩ := hRw7
 refine wlo 8 9 rfl rfl rfl (wo_alloc (l := [_, _]) rfl rfl rfl zr24 rfl S7 ?_)
 intro gb5 w8 S8; clear S7
 refine wlo 9 10 rfl rfl rfl (wo_storeB (i := 0) (us := [_, _]) (l' := [_, _]) (H' := [_, _, _, _, _, _]) rfl rfl S8 rfl rfl rfl rfl sz24 rfl rfl rfl rfl ?_)
 intro w9 S9; clear S8
 refine wl_end rfl (nmk [1, 4, 5, 6] rfl (nm_thn (ws_seqN ChangeOf_n7 ChangeOf_n8 rfl rfl rfl (ws_draw rfl (by kernel_rfl) S9 9 rfl ?_))))
 clear S9
 refine wap 0 8 rfl (by kernel_rfl) rfl rfl rfl (fun w10 => run_fieldAddr rfl rfl Tryz.underlying24 rfl (ce22) (nf22)) ?_
 refine wat 1 7 rfl (by kernel_rfl) rfl rfl rfl (fun M3 N2 w11 hle3 S11 => .inl (run_load1 rfl rfl Tryz.underlying22 rfl (S11.suf.boxc (i := 2) rfl rfl))) ?_
 refine wap 2 6 rfl (by kernel_rfl) rfl rfl rfl (fun w12 => run_move rfl rfl) ?_
 refine wap 3 5 rfl (by kernel_rfl) rfl rfl rfl (fun w13 => run_fieldAddr rfl rfl Tryz.underlying24 rfl (ce22) (nf22)) ?_
 refine wat 4 4 rfl (by kernel_rfl) rfl rfl rfl (fun M6 N5 w14 hle6 S14 => .inl (run_load1 rfl rfl Tryz.underlying22 rfl (S14.suf.boxc (i := 0) rfl rfl))) ?_
 refine wat 5 3 rfl (by kernel_rfl) rfl rfl rfl (fun M7 N6 w15 hle7 S15 => .inl (run_indexM (C := cdCr) 0 rfl rfl rfl sl22 (by first | rfl | omega) (hr2.mono hle7) (by (show 0 < [_].length; simp)))) ?_
 refine wat 6 2 rfl (by kernel_rfl) rfl rfl rfl (fun M8 N7 w16 hle8 S16 => .inl (run_loadN (us := [_, _, _, _, _]) rfl rfl Tryz.underlying77 rfl sz77 ((hr2.mono hle8).cellsAt S16.m (e := 0) (by (show 0 < [_].length; simp)) (j := 0) ⟨rfl, rfl, rfl, rfl, rfl, trivial⟩))) ?_
 refine wat 7 1 rfl (by kernel_rfl) rfl rfl rfl (fun M9 N8 w17 hle9 S17 => .inl (run_indexR (C := cdCr) (i := 3) k rfl rfl rfl sl22 S17.suf rfl (by first | rfl | omega) (by first | omega | (simp only [lens]; omega)))) ?_
 refine wa_only (i := 8) 0 rfl (by kernel_rfl) rfl rfl (fun w19 S19 => ?_)
 refine (wo_storeR (C := cdCr) (i := 3) (e := k) (j := 0) (us := [_, _, _, _, _]) (H' := [_, _, _, _, _, _]) (⟨(ga (List.map chg [ga d.crs k]) 0).a, (ga (List.map chg [ga d.crs k]) 0).b, (ga (List.map chg [ga d.crs k]) 0).c, (ga (List.map chg [ga d.crs k]) 0).d, (ga (List.map chg [ga d.crs k]) 0).plus⟩ : Cr) rfl rfl S19 rfl (by first | omega | (simp only [lens]; omega)) rfl rfl rfl sz77 rfl rfl rfl rfl ?_)
 intro w20 S20; clear S19
 refine LeftW.turn (by kernel_rfl) S20 ?_; clear S20
 change WA _ _ _ _ _ _ _ _ _ _ _ _ [_, _, _, _, _, _]
 refine wa_end (by kernel_rfl) (fun w21 S21 => ?_)
 refine nmk [4, 5] rfl (nm_thn (ws_seqN ChangeOf_n9 ChangeOf_n10 rfl rfl rfl (ws_region rfl (wlo 0 1 rfl rfl rfl (wo_run rfl rfl (run_loadN (us := [_, _]) rfl rfl Tryz.underlying24 rfl sz24 (S21.boxcs (i := 2) rfl ⟨rfl, rfl, trivial⟩)) (wlo 1 2 rfl rfl rfl (wo_storeB (i := 4) (us := [_, _]) (l' := [_, _]) (H' := [_, _, _, _, _, _]) rfl rfl S21 rfl rfl rfl rfl sz24 rfl (ones_cons (S21.one (i := 3) rfl) (ones_cons rfl rfl)) rfl rfl ?_)))))))
 intro w22 S22; clear S21
 refine wl_end rfl (nmk [4] rfl (nm_thn ?_))
 obtain ⟨M11, hle11, S23, ⟨A2, c2, e1, hr3⟩⟩ := S22.pubrow (i := 3) (H' := [_, _, _, _, _, _]) rfl rfl (by show _ * 40 ≤ _; first | omega | (simp only [lens]; omega))
 clear S22; subst e1
 replace hdcrs := hdcrs.mono (Hp.un_mono hle11 S23.mx)
 replace hr2 := hr2.mono hle11
 refine ws_ret hC [_] rfl rfl ⟨⟨_, rfl, loadVarN (us := [_, _]) Tryz.underlying24 rfl sz24 (S23.boxcs (i := 4) rfl ⟨rfl, rfl, trivial⟩)⟩, trivial⟩ ?_
 refine ⟨_, rfl, _, hle1.trans hle11, (S23.pick [] [] (by decide) trivial), ?_⟩
 exact ⟨_, _, rfl, hr3⟩
end Go.Proofs.YthppkofceancjaaGreat
namespace Go.Proofs.YthppkofceancjaaGreat
open Go.ChangeShapes Go.WideShapes Go.ChangeAt Go.RowKit
noncomputable def Index1_n0 : Code := Tryz.f149.body.getD .skip
noncomputable def Index1_n1 : Code := cL Index1_n0
noncomputable def Index1_n2 : Code := cR Index1_n0
noncomputable def Index1_n3 : Code := cL Index1_n2
noncomputable def Index1_n4 : Code := cR Index1_n2
noncomputable def Index1_n5 : Code := cL Index1_n3
noncomputable def Index1_n6 : Code := cR Index1_n3
noncomputable def Index1_n7 : Code := cL Index1_n6
noncomputable def Index1_n8 : Code := cL Index1_n7
noncomputable def Index1_n9 : Code := cL Index1_n8
noncomputable def Index1_n10 : Code := cR Index1_n8
noncomputable def Index1_n11 : Code := cL Index1_n10
noncomputable def Index1_n12 : Code := cR Index1_n10
noncomputable def Index1_n13 : Code := cL Index1_n11
noncomputable def Index1_n14 : Code := cR Index1_n11
noncomputable def Index1_n15 : Code := cL Index1_n12
noncomputable def Index1_n16 : Code := cR Index1_n12
noncomputable def Index1_n17 : Code := cL Index1_n15
noncomputable def Index1_n18 : Code := cL Index1_n17
noncomputable def Index1_n19 : Code := cR Index1_n17
noncomputable def Index1_n20 : Code := cL Index1_n19
noncomputable def Index1_n21 : Code := cR Index1_n19
noncomputable def Index1_n22 : Code := cL Index1_n21
noncomputable def Index1_n23 : Code := cR Index1_n21
noncomputable def Index1_n24 : Code := cL Index1_n22
noncomputable def Index1_n25 : Code := cR Index1_n22
noncomputable def Index1_n26 : Code := cL Index1_n4
noncomputable def Index1_n27 : Code := cR Index1_n4
set_option maxRecDepth 10000 in
theorem Index1_q {w : World} {M : Hp} {X : Fr} (s : List Int) {sA : Option Addr} {sc : Nat} (v : Int) (hs : RdA cdInt (M.un X.h) sA sc s) {q : Int} (hsq : s = [q]) (S : SH w M X []) : Cq Tryz.prog 149 [.slice sA s.length sc, .int .i64 v] w M X (fun u => u = .int .i64 (if v = q then 0 else (-1))) := by
 unfold Cq
 have rmhs : s.length * 8 ≤ 140737488355328 := hs.room
 have hsl : s.length = 1 := by rw [hsq]; rfl
 refine calls_in (b := Index1_n0) Tryz.func149 rfl Tryz.ntmps149 rfl (fun C hC => (ws_sub [(0, _), (1, _)] ⟨rfl, rfl, trivial⟩ (ws_seqN Index1_n1 Index1_n2 rfl rfl rfl (ws_region rfl (wla 0 1 rfl rfl rfl rfl rfl rfl rfl (wl_end rfl (nmk [0, 1] rfl (nm_thn (ws_seqN Index1_n3 Index1_n4 rfl rfl rfl ?_)))))))))
 refine ws_seqN Index1_n5 Index1_n6 rfl rfl rfl (ws_region rfl (wlm 0 1 rfl rfl rfl rfl rfl rfl rfl (wlo 1 2 rfl rfl rfl (wo_run rfl rfl (run_len rfl rfl rfl rfl rfl rfl Tryz.underlying53) (wlm 2 3 rfl rfl rfl rfl rfl rfl rfl (wl_end rfl (nmk [0, 1, 7, 8] rfl (nm_thn (ws_blockN Index1_n7 0 rfl rfl rfl ?_)))))))))
 refine ws_loopE (fun mx_ ax_ wx_ => ∃ (i : Nat), mx_ = s.length - i ∧ Env 19 [(0, .slice sA s.length sc), (1, .int .i64 v), (7, .int .i64 (s.length : Int)), (8, .int .i64 (i : Int))] ax_ ∧ SH wx_ M X [] ∧ i ≤ s.length ∧ (1 ≤ i → v ≠ q)) rfl ?_ ?_
 ·intro ax_ hax_
  refine ⟨_, ⟨0, rfl, hax_.sub ⟨rfl, rfl, rfl, rfl, trivial⟩, S.pick [] [] (by decide) trivial, ?hq1f0, ?hq1f1⟩⟩
  case hq1f0 => omega
  case hq1f1 => omega
 ·rintro m1 a1 w1 ⟨i, rfl, he1, S1, hi, hq⟩
  clear S
  refine ws_in he1 (c := Index1_n8) rfl ?_
  clear he1 a1
  refine ws_seqN Index1_n9 Index1_n10 rfl rfl rfl (ws_region rfl (wlo 0 1 rfl rfl rfl (wo_run rfl rfl (run_lss rfl rfl rfl) (wl_end rfl (nm_thn (ws_seqN Index1_n11 Index1_n12 rfl rfl rfl ?_))))))
  refine ws_condN Index1_n13 Index1_n14 rfl rfl rfl rfl (fun hb9 => ?_) (fun hb9 => ?_)
  ·replace hb9 := of_decide_eq_true hb9
   refine ws_skip rfl (nmk [0, 1, 7, 8] rfl (nm_thn (ws_seqN Index1_n15 Index1_n16 rfl rfl rfl (ws_blockN Index1_n17 1 rfl rfl rfl (ws_seqN Index1_n18 Index1_n19 rfl rfl rfl (ws_region rfl (wlm 0 1 rfl rfl rfl rfl rfl rfl rfl (wla 1 2 rfl rfl rfl rfl rfl rfl rfl ?_))))))))
   refine wl_end rfl (nmk [0, 1, 7, 8, 5] rfl (nm_thn (ws_seqN Index1_n20 Index1_n21 rfl rfl rfl (ws_region rfl (wlm 0 1 rfl rfl rfl rfl rfl rfl rfl (wlm 1 2 rfl rfl rfl rfl rfl rfl rfl (wlm 2 3 rfl rfl rfl rfl rfl rfl rfl (wlo 3 4 rfl rfl rfl (wo_run rfl rfl (run_indexM (C := cdInt) i rfl rfl rfl sl53 (by first | rfl | omega) hs (by first | omega | (simp only [lens]; omega))) ?_)))))))))
   refine wlo 4 5 rfl rfl rfl (wo_run rfl rfl (run_load1 rfl rfl Tryz.underlying3 rfl (hs.cell S1.um (i := i) (by first | omega | (simp only [lens]; omega)) 0 rfl rfl)) ?_)
   refine wlo 5 6 rfl rfl rfl (wo_run rfl rfl (run_eql rfl rfl rfl) (wl_end rfl (nmk [0, 1, 7, 8, 5, 16] rfl (nm_thn ?_))))
   refine ws_condN Index1_n22 Index1_n23 rfl rfl rfl rfl (fun hb16 => ?_) (fun hb16 => ?_)
   ·replace hb16 := of_decide_eq_true hb16
    refine ws_seqN Index1_n24 Index1_n25 rfl rfl rfl (ws_region rfl (wlm 0 1 rfl rfl rfl rfl rfl rfl rfl (wla 1 2 rfl rfl rfl rfl rfl rfl rfl (wl_end rfl (nmk [4] rfl (nm_thn (ws_ret hC [_] rfl rfl ⟨rfl, trivial⟩ ?_)))))))
    exact ⟨_, rfl, (S1.pick [] [] (by decide) trivial), (by show Value.int _ _ = _; have e0 : i = 0 := (by omega); subst e0; rw [if_pos (by rw [hb16, hsq]; rfl)]; rfl)⟩
   ·replace hb16 := of_decide_eq_false hb16
    refine ws_skip rfl (nm_blk (nmk [0, 1, 7, 8] rfl (nm_thn (ws_region rfl (wlo 0 1 rfl rfl rfl (wo_run rfl rfl (run_add rfl rfl rfl (by first | omega | (simp only [lens]; omega))) ?_))))))
    refine wlm 1 2 rfl rfl rfl rfl rfl rfl rfl (wl_end rfl (nm_lp ?_))
    intro ax_ hax_
    refine ⟨_, ?hq2m, ⟨i + 1, rfl, hax_.sub ⟨rfl, rfl, rfl, rfl, trivial⟩, S1.pick [] [] (by decide) trivial, ?hq2f0, ?hq2f1⟩⟩
    case hq2f0 => omega
    case hq2f1 => (intro _ e; have e0 : i = 0 := (by omega); subst e0; apply hb16; rw [e, hsq]; rfl)
    case hq2m => omega
  ·replace hb9 := of_decide_eq_false hb9
   refine ws_exit rfl rfl (nm_sub [] trivial (nm_thn (ws_seqN Index1_n26 Index1_n27 rfl rfl rfl (ws_region rfl (wla 0 1 rfl rfl rfl rfl rfl rfl rfl (wl_end rfl (nm_thn (ws_ret hC [_] rfl rfl ⟨rfl, trivial⟩ ?_))))))))
   exact ⟨_, rfl, (S1.pick [] [] (by decide) trivial), (by show Value.int _ _ = _; rw [if_neg (hq (by omega))])⟩
noncomputable def Contains1_n0 : Code := Tryz.f136.body.getD .skip
noncomputable def Contains1_n1 : Code := cL Contains1_n0
noncomputable def Contains1_n2 : Code := cR Contains1_n0
noncomputable def Contains1_n3 : Code := cL Contains1_n2
noncomputable def Contains1_n4 : Code := cR Contains1_n2
set_option maxRecDepth 10000 in
theorem Contains1_q {w : World} {M : Hp} {X : Fr} (s : List Int) {sA : Option Addr} {sc : Nat} (v : Int) (hs : RdA cdInt (M.un X.h) sA sc s) {q : Int} (hsq : s = [q]) (S : SH w M X []) : Cq Tryz.prog 136 [.slice sA s.length sc, .int .i64 v] w M X (fun u => u = .bool (decide (v = q))) := by
 unfold Cq
 have rmhs : s.length * 8 ≤ 140737488355328 := hs.room
 refine calls_in (b := Contains1_n0) Tryz.func136 rfl Tryz.ntmps136 rfl (fun C hC => (ws_sub [(0, _), (1, _)] ⟨rfl, rfl, trivial⟩ (ws_seqN Contains1_n1 Contains1_n2 rfl rfl rfl (ws_region rfl (wla 0 1 rfl rfl rfl rfl rfl rfl rfl (wl_end rfl (nmk [0, 1] rfl (nm_thn (ws_seqN Contains1_n3 Contains1_n4 rfl rfl rfl ?_)))))))))
 refine ws_region rfl (wlm 0 1 rfl rfl rfl rfl rfl rfl rfl (wlm 1 2 rfl rfl rfl rfl rfl rfl rfl (wlo 2 3 rfl rfl rfl (wo_cq rfl rfl rfl rfl rfl rfl rfl cf149 S (Index1_q s v (hs.mono S.un_XH) (hsq) S.lend) ?_))))
 rintro _ w1 S1 rfl; clear S
 refine wlo 3 4 rfl rfl rfl (wo_run rfl rfl (run_geq rfl rfl rfl) (wla 4 5 rfl rfl rfl rfl rfl rfl rfl (wl_end rfl (nmk [4] rfl (nm_thn (ws_ret hC [_] rfl rfl ⟨rfl, trivial⟩ ?_))))))
 exact ⟨_, rfl, (S1.pick [] [] (by decide) trivial), (by show Value.bool _ = _; refine congrArg Value.bool ?_; by_cases h : v = q; (rw [if_pos h]; simp [h]); (rw [if_neg h]; simp [h]))⟩
noncomputable def Along_n0 : Code := Tryz.f88.body.getD .skip
noncomputable def Along_n1 : Code := cL Along_n0
noncomputable def Along_n2 : Code := cR Along_n0
noncomputable def Along_n3 : Code := cL Along_n2
noncomputable def Along_n4 : Code := cR Along_n2
noncomputable def Along_n5 : Code := cL Along_n4
noncomputable def Along_n6 : Code := cR Along_n4
set_option maxRecDepth 10000 in
theorem Along_q {w : World} {M : Hp} {X : Fr} (x : Cr) (S : SH w M X []) : Cq Tryz.prog 88 [.agg [.int .i64 x.a, .int .i64 x.b, .int .i64 x.c, .int .i64 x.d, .bool x.plus].toArray] w M X (fun u => u = .agg [.int .i64 x.a, .int .i64 (abv x).2, .int .i64 (abv x).1, .int .i64 x.c].toArray) := by
 unfold Cq
 refine calls_in (b := Along_n0) Tryz.func88 rfl Tryz.ntmps88 rfl (fun C hC => (ws_sub [(0, _)] ⟨rfl, trivial⟩ (ws_seqN Along_n1 Along_n2 rfl rfl rfl (ws_region rfl (wlo 0 1 rfl rfl rfl (wo_box (l := [_, _, _, _, _]) rfl rfl rfl rfl rfl S ?_))))))
 intro gb1 w1 S1; clear S
 refine wlo 1 2 rfl rfl rfl (wo_alloc (l := [_, _, _, _]) rfl rfl rfl zr222 rfl S1 ?_)
 intro gb2 w2 S2; clear S1
 refine wl_end rfl (nmk [1, 2] rfl (nm_thn (ws_seqN Along_n3 Along_n4 rfl rfl rfl (ws_draw rfl (by kernel_rfl) S2 8 rfl ?_))))
 clear S2
 refine wat 0 7 rfl (by kernel_rfl) rfl rfl rfl (fun M1 N1 w3 hle1 S3 => .inl (run_loadN (us := [_, _, _, _, _]) rfl rfl Tryz.underlying77 rfl sz77 (S3.suf.boxcs (i := 1) rfl ⟨rfl, rfl, rfl, rfl, rfl, trivial⟩))) ?_
 refine wat 1 6 rfl (by kernel_rfl) rfl rfl rfl (fun M2 N2 w4 hle2 S4 => yield_cq rfl rfl rfl rfl rfl cf138 S4 (Below_q x  S4.lend)) ?_
 refine wat 2 5 rfl (by kernel_rfl) rfl rfl rfl (fun M3 N3 w5 hle3 S5 => .inl (run_loadN (us := [_, _, _, _, _]) rfl rfl Tryz.underlying77 rfl sz77 (S5.suf.boxcs (i := 1) rfl ⟨rfl, rfl, rfl, rfl, rfl, trivial⟩))) ?_
 refine wat 3 4 rfl (by kernel_rfl) rfl rfl rfl (fun M4 N4 w6 hle4 S6 => yield_cq rfl rfl rfl rfl rfl cf139 S6 (Above_q x  S6.lend)) ?_
 refine wa_two (i := 4) (j := 5) 3 rfl rfl (by kernel_rfl) rfl rfl rfl rfl (fun w9 S9 => ?_) (fun w9 S9 => ?_)
 ·refine (wo_alloc (l := [_, _]) rfl rfl rfl zr128 rfl S9 ?_)
  intro gb3 w10 S10; clear S9
  refine LeftW.grow [_] (Hp.le_refl _) S10 ?_; clear S10
  change WA _ _ _ _ _ _ _ _ _ _ _ _ [_, _, _]
  refine wa_only (i := 5) 2 rfl (by kernel_rfl) rfl rfl (fun w12 S12 => ?_)
  refine (wo_alloc (l := [_, _]) rfl rfl rfl zr128 rfl S12 ?_)
  intro gb4 w13 S13; clear S12
  refine LeftW.grow [_, _] (Hp.le_refl _) S13 ?_; clear S13
  change WA _ _ _ _ _ _ _ _ _ _ _ _ [_, _, _, _]
  refine wa_only (i := 6) 1 rfl (by kernel_rfl) rfl rfl (fun w15 S15 => ?_)
  refine (wo_storeB (i := 1) (us := [_, _]) (l' := [_, _]) (H' := [_, _, _, _]) rfl rfl S15 rfl rfl rfl rfl sz128 rfl rfl rfl rfl ?_)
  intro w16 S16; clear S15
  refine LeftW.grow [_, _] (Hp.le_refl _) S16 ?_; clear S16
  change WA _ _ _ _ _ _ _ _ _ _ _ _ [_, _, _, _]
  refine wa_only (i := 7) 0 rfl (by kernel_rfl) rfl rfl (fun w18 S18 => ?_)
  refine (wo_storeB (i := 0) (us := [_, _]) (l' := [_, _]) (H' := [_, _, _, _]) rfl rfl S18 rfl rfl rfl rfl sz128 rfl rfl rfl rfl ?_)
  intro w19 S19; clear S18
  refine LeftW.grow [_, _] (Hp.le_refl _) S19 ?_; clear S19
  change WA _ _ _ _ _ _ _ _ _ _ _ _ [_, _, _, _]
  refine wa_end (by kernel_rfl) (fun w20 S20 => ?_)
  refine nmk [2, 3, 4] rfl (nm_thn (ws_seqN Along_n5 Along_n6 rfl rfl rfl (ws_region rfl (wlo 0 1 rfl rfl rfl (wo_run rfl rfl (run_indexP (e := 0) (k := 1) rfl rfl rfl Tryz.underlying128 sz3 (by first | rfl | omega) (by first | omega | (simp only [lens]; omega))) ?_)))))
  refine wlo 1 2 rfl rfl rfl (wo_run rfl rfl (run_load1 rfl rfl Tryz.underlying3 rfl (S20.boxc (i := 1) rfl rfl)) (wlo 2 3 rfl rfl rfl (wo_run rfl rfl (run_indexP (e := 1) (k := 1) rfl rfl rfl Tryz.underlying128 sz3 (by first | rfl | omega) (by first | omega | (simp only [lens]; omega))) ?_)))
  refine wlo 3 4 rfl rfl rfl (wo_run rfl rfl (run_load1 rfl rfl Tryz.underlying3 rfl (S20.boxc (i := 0) rfl rfl)) (wlo 4 5 rfl rfl rfl (wo_run rfl rfl (run_buildA (l := [_, _]) (pl := [(0, 1), (1, 1)]) rfl rfl Tryz.underlying128 zr128 sz3 rfl rfl rfl) (wlo 5 6 rfl rfl rfl (wo_run rfl rfl (run_indexP (e := 0) (k := 1) rfl rfl rfl Tryz.underlying128 sz3 (by first | rfl | omega) (by first | omega | (simp only [lens]; omega))) ?_)))))
  refine wlo 6 7 rfl rfl rfl (wo_run rfl rfl (run_load1 rfl rfl Tryz.underlying3 rfl (S20.boxc (i := 0) rfl rfl)) (wlo 7 8 rfl rfl rfl (wo_run rfl rfl (run_indexP (e := 1) (k := 1) rfl rfl rfl Tryz.underlying128 sz3 (by first | rfl | omega) (by first | omega | (simp only [lens]; omega))) ?_)))
  refine wlo 8 9 rfl rfl rfl (wo_run rfl rfl (run_load1 rfl rfl Tryz.underlying3 rfl (S20.boxc (i := 1) rfl rfl)) (wlo 9 10 rfl rfl rfl (wo_run rfl rfl (run_buildA (l := [_, _]) (pl := [(0, 1), (1, 1)]) rfl rfl Tryz.underlying128 zr128 sz3 rfl rfl rfl) (wlo 10 11 rfl rfl rfl (wo_run rfl rfl (run_buildA (l := [_, _, _, _]) (pl := [(0, 2), (2, 2)]) rfl rfl Tryz.underlying222 zr222 sz128 rfl rfl rfl) (wlo 11 12 rfl rfl rfl (wo_storeB (i := 2) (us := [_, _, _, _]) (l' := [_, _, _, _]) (H' := [_, _, _, _]) rfl rfl S20 rfl rfl rfl rfl sz222 rfl rfl rfl rfl ?_)))))))
  intro w21 S21; clear S20
  refine wl_end rfl (nmk [2] rfl (nm_thn (ws_ret hC [_] rfl rfl ⟨⟨_, rfl, loadVarN (us := [_, _, _, _]) Tryz.underlying222 rfl sz222 (S21.boxcs (i := 2) rfl ⟨rfl, rfl, rfl, rfl, trivial⟩)⟩, trivial⟩ ?_)))
  exact ⟨_, rfl, (S21.pick [] [] (by decide) trivial), rfl⟩
 ·refine (wo_alloc (l := [_, _]) rfl rfl rfl zr128 rfl S9 ?_)
  intro gb5 w22 S22; clear S9
  refine LeftW.grow [_] (Hp.le_refl _) S22 ?_; clear S22
  change WA _ _ _ _ _ _ _ _ _ _ _ _ [_, _, _]
  refine wa_only (i := 4) 2 rfl (by kernel_rfl) rfl rfl (fun w24 S24 => ?_)
  refine (wo_alloc (l := [_, _]) rfl rfl rfl zr128 rfl S24 ?_)
  intro gb6 w25 S25; clear S24
  refine LeftW.grow [_, _] (Hp.le_refl _) S25 ?_; clear S25
  change WA _ _ _ _ _ _ _ _ _ _ _ _ [_, _, _, _]
  refine wa_only (i := 6) 1 rfl (by kernel_rfl) rfl rfl (fun w27 S27 => ?_)
  refine (wo_storeB (i := 0) (us := [_, _]) (l' := [_, _]) (H' := [_, _, _, _]) rfl rfl S27 rfl rfl rfl rfl sz128 rfl rfl rfl rfl ?_)
  intro w28 S28; clear S27
  refine LeftW.grow [_, _] (Hp.le_refl _) S28 ?_; clear S28
  change WA _ _ _ _ _ _ _ _ _ _ _ _ [_, _, _, _]
  refine wa_only (i := 7) 0 rfl (by kernel_rfl) rfl rfl (fun w30 S30 => ?_)
  refine (wo_storeB (i := 1) (us := [_, _]) (l' := [_, _]) (H' := [_, _, _, _]) rfl rfl S30 rfl rfl rfl rfl sz128 rfl rfl rfl rfl ?_)
  intro w31 S31; clear S30
  refine LeftW.grow [_, _] (Hp.le_refl _) S31 ?_; clear S31
  change WA _ _ _ _ _ _ _ _ _ _ _ _ [_, _, _, _]
  refine wa_end (by kernel_rfl) (fun w32 S32 => ?_)
  refine nmk [2, 4, 3] rfl (nm_thn (ws_seqN Along_n5 Along_n6 rfl rfl rfl (ws_region rfl (wlo 0 1 rfl rfl rfl (wo_run rfl rfl (run_indexP (e := 0) (k := 1) rfl rfl rfl Tryz.underlying128 sz3 (by first | rfl | omega) (by first | omega | (simp only [lens]; omega))) ?_)))))
  refine wlo 1 2 rfl rfl rfl (wo_run rfl rfl (run_load1 rfl rfl Tryz.underlying3 rfl (S32.boxc (i := 0) rfl rfl)) (wlo 2 3 rfl rfl rfl (wo_run rfl rfl (run_indexP (e := 1) (k := 1) rfl rfl rfl Tryz.underlying128 sz3 (by first | rfl | omega) (by first | omega | (simp only [lens]; omega))) ?_)))
  refine wlo 3 4 rfl rfl rfl (wo_run rfl rfl (run_load1 rfl rfl Tryz.underlying3 rfl (S32.boxc (i := 1) rfl rfl)) (wlo 4 5 rfl rfl rfl (wo_run rfl rfl (run_buildA (l := [_, _]) (pl := [(0, 1), (1, 1)]) rfl rfl Tryz.underlying128 zr128 sz3 rfl rfl rfl) (wlo 5 6 rfl rfl rfl (wo_run rfl rfl (run_indexP (e := 0) (k := 1) rfl rfl rfl Tryz.underlying128 sz3 (by first | rfl | omega) (by first | omega | (simp only [lens]; omega))) ?_)))))
  refine wlo 6 7 rfl rfl rfl (wo_run rfl rfl (run_load1 rfl rfl Tryz.underlying3 rfl (S32.boxc (i := 1) rfl rfl)) (wlo 7 8 rfl rfl rfl (wo_run rfl rfl (run_indexP (e := 1) (k := 1) rfl rfl rfl Tryz.underlying128 sz3 (by first | rfl | omega) (by first | omega | (simp only [lens]; omega))) ?_)))
  refine wlo 8 9 rfl rfl rfl (wo_run rfl rfl (run_load1 rfl rfl Tryz.underlying3 rfl (S32.boxc (i := 0) rfl rfl)) (wlo 9 10 rfl rfl rfl (wo_run rfl rfl (run_buildA (l := [_, _]) (pl := [(0, 1), (1, 1)]) rfl rfl Tryz.underlying128 zr128 sz3 rfl rfl rfl) (wlo 10 11 rfl rfl rfl (wo_run rfl rfl (run_buildA (l := [_, _, _, _]) (pl := [(0, 2), (2, 2)]) rfl rfl Tryz.underlying222 zr222 sz128 rfl rfl rfl) (wlo 11 12 rfl rfl rfl (wo_storeB (i := 2) (us := [_, _, _, _]) (l' := [_, _, _, _]) (H' := [_, _, _, _]) rfl rfl S32 rfl rfl rfl rfl sz222 rfl rfl rfl rfl ?_)))))))
  intro w33 S33; clear S32
  refine wl_end rfl (nmk [2] rfl (nm_thn (ws_ret hC [_] rfl rfl ⟨⟨_, rfl, loadVarN (us := [_, _, _, _]) Tryz.underlying222 rfl sz222 (S33.boxcs (i := 2) rfl ⟨rfl, rfl, rfl, rfl, trivial⟩)⟩, trivial⟩ ?_)))
  exact ⟨_, rfl, (S33.pick [] [] (by decide) trivial), rfl⟩
noncomputable def WAt_n0 : Code := Tryz.f137.body.getD .skip
noncomputable def WAt_n1 : Code := cL WAt_n0
noncomputable def WAt_n2 : Code := cR WAt_n0
noncomputable def WAt_n3 : Code := cL WAt_n2
noncomputable def WAt_n4 : Code := cR WAt_n2
set_option maxRecDepth 10000 in
theorem WAt_q {w : World} {M : Hp} {X : Fr} (y : Int) (nu : List Int) {g0 : Nat} {nA : Option Addr} {nc : Nat} (cl : List Int) {g1 : Nat} {lA : Option Addr} {lc : Nat} (hbn : BxM (M.un X.h) g0 53 [.slice nA nu.length nc]) (hn : RdA cdInt (M.un X.h) nA nc nu) (hbl : BxM (M.un X.h) g1 53 [.slice lA cl.length lc]) (hl : RdA cdInt (M.un X.h) lA lc cl) (hy : 0 ≤ y ∧ y.toNat < cl.length) (hz : 0 ≤ ga cl y.toNat ∧ (ga cl y.toNat).toNat < nu.length) (S : SH w M X []) : Cq Tryz.prog 137 [.int .i64 y, .pointer (some ⟨g0, 0, none⟩), .pointer (some ⟨g1, 0, none⟩)] w M X (fun u => u = .int .i64 (ga nu (ga cl y.toNat).toNat)) := by
 unfold Cq
 refine calls_in (b := WAt_n0) Tryz.func137 rfl Tryz.ntmps137 rfl (fun C hC => (ws_sub [(0, _), (1, _), (2, _)] ⟨rfl, rfl, rfl, trivial⟩ (ws_seqN WAt_n1 WAt_n2 rfl rfl rfl (ws_region rfl (wla 0 1 rfl rfl rfl rfl rfl rfl rfl (wl_end rfl (nmk [0, 1, 2] rfl (nm_thn (ws_seqN WAt_n3 WAt_n4 rfl rfl rfl ?_)))))))))
 refine ws_draw rfl (by kernel_rfl) S 8 rfl ?_
 clear S
 refine wat 0 7 rfl (by kernel_rfl) rfl rfl rfl (fun M1 N1 w1 hle1 S1 => .inl (run_load1 rfl rfl Tryz.underlying53 rfl ((hbn.mono (Hp.un_mono hle1 S1.mx)).cell S1.um rfl))) ?_
 refine wat 1 6 rfl (by kernel_rfl) rfl rfl rfl (fun M2 N2 w2 hle2 S2 => .inl (run_load1 rfl rfl Tryz.underlying53 rfl ((hbl.mono (Hp.un_mono hle2 S2.mx)).cell S2.um rfl))) ?_
 refine wap 2 5 rfl (by kernel_rfl) rfl rfl rfl (fun w3 => run_move rfl rfl) ?_
 refine wat 3 4 rfl (by kernel_rfl) rfl rfl rfl (fun M4 N4 w4 hle4 S4 => .inl (run_indexM (C := cdInt) y.toNat rfl rfl rfl sl53 (by first | rfl | omega) (hl.mono (Hp.un_mono hle4 S4.mx)) (by first | omega | (simp only [lens]; omega)))) ?_
 refine wat 4 3 rfl (by kernel_rfl) rfl rfl rfl (fun M5 N5 w5 hle5 S5 => .inl (run_load1 rfl rfl Tryz.underlying3 rfl ((hl.mono (Hp.un_mono hle5 S5.mx)).cell S5.um (i := y.toNat) (by first | omega | (simp only [lens]; omega)) 0 rfl rfl))) ?_
 refine wat 5 2 rfl (by kernel_rfl) rfl rfl rfl (fun M6 N6 w6 hle6 S6 => .inl (run_indexM (C := cdInt) ((ga cl y.toNat).toNat) rfl rfl rfl sl53 (by first | rfl | omega) (hn.mono (Hp.un_mono hle6 S6.mx)) (by first | omega | (simp only [lens]; omega)))) ?_
 refine wat 6 1 rfl (by kernel_rfl) rfl rfl rfl (fun M7 N7 w7 hle7 S7 => .inl (run_load1 rfl rfl Tryz.underlying3 rfl ((hn.mono (Hp.un_mono hle7 S7.mx)).cell S7.um (i := (ga cl y.toNat).toNat) (by first | omega | (simp only [lens]; omega)) 0 rfl rfl))) ?_
 refine wap 7 0 rfl (by kernel_rfl) rfl rfl rfl (fun w8 => run_assign rfl rfl) ?_
 refine wa_end (by kernel_rfl) (fun w9 S9 => ?_)
 refine nmk [4] rfl (nm_thn (ws_ret hC [_] rfl rfl ⟨rfl, trivial⟩ ?_))
 exact ⟨_, rfl, (S9.pick [] [] (by decide) trivial), rfl⟩
theorem seven {α : Type} [Inhabited α] {f : α → α} {xs c : List α} {i : Nat} {y : α} (h : c = (xs.take i).map f ++ xs.drop i) (hi : i < xs.length) (hy : y = f (ga xs i)) : c.set i y = (xs.take (i + 1)).map f ++ xs.drop (i + 1) := by
 have hl : ((xs.take i).map f).length = i := by rw [List.length_map, List.length_take]; omega
 rw [h, hy, List.set_append_right _ _ (by omega), hl, Nat.sub_self, take_ga xs i hi, List.map_append, List.append_assoc, List.drop_eq_getElem_cons hi, List.set_cons_zero]
 rfl
theorem seven_ga {α : Type} [Inhabited α] {f : α → α} {xs c : List α} {i : Nat} (h : c = (xs.take i).map f ++ xs.drop i) (hi : i < xs.length) : ga c i = ga xs i := by
 have hl : ((xs.take i).map f).length = i := by rw [List.length_map, List.length_take]; omega
 rw [h, ga_append_right _ _ _ (by omega), hl, Nat.sub_self, List.drop_eq_getElem_cons hi, ga_eq (by simp; omega), ga_eq hi]
 rfl
theorem cast_add (x : Int) (n : Nat) : x + ((n : Nat) : Int) + 1 = x + ((n + 1 : Nat) : Int) := by omega
noncomputable def Without_n0 : Code := Tryz.f87.body.getD .skip
noncomputable def Without_n1 : Code := cL Without_n0
noncomputable def Without_n2 : Code := cR Without_n0
noncomputable def Without_n3 : Code := cL Without_n2
noncomputable def Without_n4 : Code := cR Without_n2
noncomputable def Without_n5 : Code := cL Without_n4
noncomputable def Without_n6 : Code := cR Without_n4
noncomputable def Without_n7 : Code := cL Without_n5
noncomputable def Without_n8 : Code := cR Without_n5
noncomputable def Without_n9 : Code := cL Without_n8
noncomputable def Without_n10 : Code := cL Without_n9
noncomputable def Without_n11 : Code := cL Without_n10
noncomputable def Without_n12 : Code := cR Without_n10
noncomputable def Without_n13 : Code := cL Without_n12
noncomputable def Without_n14 : Code := cR Without_n12
noncomputable def Without_n15 : Code := cL Without_n13
noncomputable def Without_n16 : Code := cR Without_n13
noncomputable def Without_n17 : Code := cL Without_n14
noncomputable def Without_n18 : Code := cR Without_n14
noncomputable def Without_n19 : Code := cL Without_n17
noncomputable def Without_n20 : Code := cL Without_n19
noncomputable def Without_n21 : Code := cR Without_n19
noncomputable def Without_n22 : Code := cL Without_n6
noncomputable def Without_n23 : Code := cR Without_n6
noncomputable def Without_n24 : Code := cL Without_n23
noncomputable def Without_n25 : Code := cR Without_n23
noncomputable def Without_n26 : Code := cL Without_n25
noncomputable def Without_n27 : Code := cR Without_n25
noncomputable def Without_n28 : Code := cL Without_n26
noncomputable def Without_n29 : Code := cR Without_n26
noncomputable def Without_n30 : Code := cL Without_n29
noncomputable def Without_n31 : Code := cL Without_n30
noncomputable def Without_n32 : Code := cL Without_n31
noncomputable def Without_n33 : Code := cR Without_n31
noncomputable def Without_n34 : Code := cL Without_n33
noncomputable def Without_n35 : Code := cR Without_n33
noncomputable def Without_n36 : Code := cL Without_n34
noncomputable def Without_n37 : Code := cR Without_n34
noncomputable def Without_n38 : Code := cL Without_n35
noncomputable def Without_n39 : Code := cR Without_n35
noncomputable def Without_n40 : Code := cL Without_n38
noncomputable def Without_n41 : Code := cL Without_n40
noncomputable def Without_n42 : Code := cR Without_n40
noncomputable def Without_n43 : Code := cL Without_n42
noncomputable def Without_n44 : Code := cR Without_n42
noncomputable def Without_n45 : Code := cL Without_n43
noncomputable def Without_n46 : Code := cR Without_n43
noncomputable def Without_n47 : Code := cL Without_n46
noncomputable def Without_n48 : Code := cR Without_n46
noncomputable def Without_n49 : Code := cL Without_n47
noncomputable def Without_n50 : Code := cR Without_n47
noncomputable def Without_n51 : Code := cL Without_n44
noncomputable def Without_n52 : Code := cR Without_n44
noncomputable def Without_n53 : Code := cL Without_n52
noncomputable def Without_n54 : Code := cL Without_n53
noncomputable def Without_n55 : Code := cL Without_n54
noncomputable def Without_n56 : Code := cR Without_n54
noncomputable def Without_n57 : Code := cL Without_n56
noncomputable def Without_n58 : Code := cR Without_n56
noncomputable def Without_n59 : Code := cL Without_n57
noncomputable def Without_n60 : Code := cR Without_n57
noncomputable def Without_n61 : Code := cL Without_n58
noncomputable def Without_n62 : Code := cR Without_n58
noncomputable def Without_n63 : Code := cL Without_n61
noncomputable def Without_n64 : Code := cL Without_n63
noncomputable def Without_n65 : Code := cR Without_n63
noncomputable def Without_n66 : Code := cL Without_n65
noncomputable def Without_n67 : Code := cR Without_n65
noncomputable def Without_n68 : Code := cL Without_n67
noncomputable def Without_n69 : Code := cR Without_n67
noncomputable def Without_n70 : Code := cL Without_n69
noncomputable def Without_n71 : Code := cL Without_n70
noncomputable def Without_n72 : Code := cL Without_n71
noncomputable def Without_n73 : Code := cR Without_n71
noncomputable def Without_n74 : Code := cL Without_n73
noncomputable def Without_n75 : Code := cR Without_n73
noncomputable def Without_n76 : Code := cL Without_n74
noncomputable def Without_n77 : Code := cR Without_n74
noncomputable def Without_n78 : Code := cL Without_n75
noncomputable def Without_n79 : Code := cR Without_n75
noncomputable def Without_n80 : Code := cL Without_n78
noncomputable def Without_n81 : Code := cL Without_n80
noncomputable def Without_n82 : Code := cR Without_n80
noncomputable def Without_n83 : Code := cL Without_n82
noncomputable def Without_n84 : Code := cR Without_n82
noncomputable def Without_n85 : Code := cL Without_n84
noncomputable def Without_n86 : Code := cR Without_n84
noncomputable def Without_n87 : Code := cL Without_n27
noncomputable def Without_n88 : Code := cR Without_n27
noncomputable def Without_n89 : Code := cL Without_n87
noncomputable def Without_n90 : Code := cR Without_n87
noncomputable def Without_n91 : Code := cL Without_n90
noncomputable def Without_n92 : Code := cL Without_n91
noncomputable def Without_n93 : Code := cL Without_n92
noncomputable def Without_n94 : Code := cR Without_n92
noncomputable def Without_n95 : Code := cL Without_n94
noncomputable def Without_n96 : Code := cR Without_n94
noncomputable def Without_n97 : Code := cL Without_n95
noncomputable def Without_n98 : Code := cR Without_n95
noncomputable def Without_n99 : Code := cL Without_n96
noncomputable def Without_n100 : Code := cR Without_n96
noncomputable def Without_n101 : Code := cL Without_n99
noncomputable def Without_n102 : Code := cL Without_n101
noncomputable def Without_n103 : Code := cR Without_n101
noncomputable def Without_n104 : Code := cL Without_n103
noncomputable def Without_n105 : Code := cR Without_n103
noncomputable def Without_n106 : Code := cL Without_n105
noncomputable def Without_n107 : Code := cL Without_n106
noncomputable def Without_n108 : Code := cL Without_n107
noncomputable def Without_n109 : Code := cR Without_n107
noncomputable def Without_n110 : Code := cL Without_n109
noncomputable def Without_n111 : Code := cR Without_n109
noncomputable def Without_n112 : Code := cL Without_n110
noncomputable def Without_n113 : Code := cR Without_n110
noncomputable def Without_n114 : Code := cL Without_n111
noncomputable def Without_n115 : Code := cR Without_n111
noncomputable def Without_n116 : Code := cL Without_n114
noncomputable def Without_n117 : Code := cL Without_n116
noncomputable def Without_n118 : Code := cR Without_n116
noncomputable def Without_n119 : Code := cL Without_n88
noncomputable def Without_n120 : Code := cR Without_n88
noncomputable def Without_n121 : Code := cL Without_n120
noncomputable def Without_n122 : Code := cR Without_n120
noncomputable def Without_n123 : Code := cL Without_n122
noncomputable def Without_n124 : Code := cR Without_n122
noncomputable def Without_n125 : Code := cL Without_n123
noncomputable def Without_n126 : Code := cR Without_n123
noncomputable def Without_n127 : Code := cL Without_n126
noncomputable def Without_n128 : Code := cL Without_n127
noncomputable def Without_n129 : Code := cL Without_n128
noncomputable def Without_n130 : Code := cR Without_n128
noncomputable def Without_n131 : Code := cL Without_n129
noncomputable def Without_n132 : Code := cR Without_n129
noncomputable def Without_n133 : Code := cL Without_n132
noncomputable def Without_n134 : Code := cR Without_n132
noncomputable def Without_n135 : Code := cL Without_n130
noncomputable def Without_n136 : Code := cR Without_n130
noncomputable def Without_n137 : Code := cL Without_n135
noncomputable def Without_n138 : Code := cL Without_n137
noncomputable def Without_n139 : Code := cL Without_n138
noncomputable def Without_n140 : Code := cR Without_n138
noncomputable def Without_n141 : Code := cL Without_n140
noncomputable def Without_n142 : Code := cR Without_n140
noncomputable def Without_n143 : Code := cL Without_n142
noncomputable def Without_n144 : Code := cR Without_n142
noncomputable def Without_n145 : Code := cL Without_n144
noncomputable def Without_n146 : Code := cR Without_n144
noncomputable def Without_n147 : Code := cL Without_n145
noncomputable def Without_n148 : Code := cR Without_n145
noncomputable def Without_n149 : Code := cL Without_n124
noncomputable def Without_n150 : Code := cR Without_n124
noncomputable def Without_n151 : Code := cL Without_n150
noncomputable def Without_n152 : Code := cR Without_n150
noncomputable def Without_n153 : Code := cL Without_n151
noncomputable def Without_n154 : Code := cR Without_n151
noncomputable def Without_n155 : Code := cL Without_n154
noncomputable def Without_n156 : Code := cL Without_n155
noncomputable def Without_n157 : Code := cL Without_n156
noncomputable def Without_n158 : Code := cR Without_n156
noncomputable def Without_n159 : Code := cL Without_n158
noncomputable def Without_n160 : Code := cR Without_n158
noncomputable def Without_n161 : Code := cL Without_n159
noncomputable def Without_n162 : Code := cR Without_n159
noncomputable def Without_n163 : Code := cL Without_n160
noncomputable def Without_n164 : Code := cR Without_n160
noncomputable def Without_n165 : Code := cL Without_n163
noncomputable def Without_n166 : Code := cL Without_n165
noncomputable def Without_n167 : Code := cR Without_n165
noncomputable def Without_n168 : Code := cL Without_n152
noncomputable def Without_n169 : Code := cR Without_n152
set_option maxHeartbeats 4000000 in
set_option maxRecDepth 10000 in
theorem Without_t {w : World} {M : Hp} {X : Fr} (d : Dg) {gsh : Nat} {cA iA oA : Option Addr} {cc ic oc : Nat} (gone : List Int) {goneA : Option Addr} {gonec : Nat} (hsb : BxM (M.un X.h) gsh 70 [.slice cA d.crs.length cc, .int .i64 d.loops, .slice iA (tabL d false (4 * d.crs.length)).length ic, .slice oA (tabL d true (4 * d.crs.length)).length oc]) (hsc : RdA cdCr (M.un X.h) cA cc d.crs) (hsi : RdA cdPl (M.un X.h) iA ic (tabL d false (4 * d.crs.length))) (hso : RdA cdPl (M.un X.h) oA oc (tabL d true (4 * d.crs.length))) (hgone : RdA cdInt (M.un X.h) goneA gonec gone) (k : Nat) (hk : k < d.crs.length) (hsq : gone = [(k : Int)]) (hn : d.crs.length ≤ 16) (hab : arcsB d = true) (hlo0 : 0 ≤ d.loops ∧ d.loops ≤ 1000) (S : SH w M X []) : Ct Tryz.prog 87 [.pointer (some ⟨gsh, 0, none⟩), .func (.func 88) #[] #[], .slice goneA gone.length gonec] w M X (fun u N => ∃ A c, u = .agg [.slice A (smD d k).crs.length c, .int .i64 (smD d k).loops].toArray ∧ RdA cdCr N A c (smD d k).crs) := by
 unfold Ct
 have rmhgone : gone.length * 8 ≤ 140737488355328 := hgone.room
 refine calls_in (b := Without_n0) Tryz.func87 rfl Tryz.ntmps87 rfl (fun C hC => (ws_sub [(0, _), (1, _), (2, _)] ⟨rfl, rfl, rfl, trivial⟩ (ws_seqN Without_n1 Without_n2 rfl rfl rfl (ws_region rfl (wlo 0 1 rfl rfl rfl (wo_alloc (l := [_, _]) rfl rfl rfl zr24 rfl S ?_))))))
 intro gb1 w1 S1; clear S
 refine wl_end rfl (nm_thn (ws_seqN Without_n3 Without_n4 rfl rfl rfl (ws_region rfl (wlm 0 1 rfl rfl rfl rfl rfl rfl rfl (wlo 1 2 rfl rfl rfl (wo_cq rfl rfl rfl rfl rfl rfl rfl cf111 S1 (Arcs_q d  (hsb.mono S1.un_XH) (hsc.mono S1.un_XH) (hsi.mono S1.un_XH) (hso.mono S1.un_XH) (by omega) S1.lend) ?_))))))
 rintro _ w2 S2 rfl; clear S1
 refine wlo 2 3 rfl rfl rfl (wo_run rfl rfl (run_add rfl rfl rfl (by first | omega | (simp only [lens]; omega))) ?_)
 refine wlo 3 4 rfl rfl rfl (wo_make (C := cdInt) ((2 * (d.crs.length : Int)).toNat + 1) rfl rfl rfl rfl rfl sl53 (by first | rfl | omega) (by show _ * 8 ≤ _; first | omega | (simp only [lens]; omega)) S2 ?_)
 intro vr1 w3 S3; clear S2
 refine wlo 4 5 rfl rfl rfl (wo_alloc (l := [_]) rfl rfl rfl zr53 rfl S3 ?_)
 intro gb2 w4 S4; clear S3
 refine wlo 5 6 rfl rfl rfl (wo_storeB (i := 0) (us := [_]) (l' := [_]) (H' := [_, _, _]) rfl rfl S4 rfl rfl rfl (S4.cells1 (i := 1) rfl) sz53 rfl (ones_cons (S4.one (i := 1) rfl) rfl) rfl rfl ?_)
 intro w5 S5; clear S4
 refine wl_end rfl (nmk [0, 1, 2, 6, 7] rfl (nm_thn (ws_seqN Without_n5 Without_n6 rfl rfl rfl (ws_seqN Without_n7 Without_n8 rfl rfl rfl (ws_region rfl (wlo 0 1 rfl rfl rfl (wo_run rfl rfl (run_load1 rfl rfl Tryz.underlying53 rfl (S5.boxc (i := 0) rfl rfl)) (wlo 1 2 rfl rfl rfl (wo_run rfl rfl (run_lenR (C := cdInt) (i := 1) rfl rfl rfl rfl rfl rfl sl53 S5 rfl) (wl_eq 32 (.int .i64 ((2 * d.crs.length + 1 : Nat) : Int)) rfl (int_eq (by rw [List.length_replicate]; omega)) ?_))))))))))
 refine wlm 2 3 rfl rfl rfl rfl rfl rfl rfl (wl_end rfl (nmk [0, 1, 2, 6, 7, 32, 33] rfl (nm_thn (ws_blockN Without_n9 0 rfl rfl rfl ?_))))
 refine ws_loopE (fun mx_ ax_ wx_ => ∃ (i : Nat) (ws : List Int) (vrw : Value), mx_ = 2 * d.crs.length + 1 - i ∧ Env 198 [(0, .pointer (some ⟨gsh, 0, none⟩)), (1, .func (.func 88) #[] #[]), (2, .slice goneA gone.length gonec), (6, .pointer (some ⟨gb1, 0, none⟩)), (7, .pointer (some ⟨gb2, 0, none⟩)), (32, .int .i64 ((2 * d.crs.length + 1 : Nat) : Int)), (33, .int .i64 (i : Int))] ax_ ∧ SH wx_ M X [Rs.box gb2 53 [vrw], Rs.row cdInt vrw ws, Rs.box gb1 24 [.slice none 0 0, .int .i64 0]] ∧ i ≤ 2 * d.crs.length + 1 ∧ ws = iniW (2 * d.crs.length + 1) i) rfl ?_ ?_
 ·intro ax_ hax_
  refine ⟨_, ⟨0, _, _, rfl, hax_.sub ⟨rfl, rfl, rfl, rfl, rfl, rfl, rfl, trivial⟩, S5.pick [0, 1, 2] [_, _, _] (by decide) ⟨rfl, rfl, rfl, trivial⟩, ?hq1f0, ?hq1f1⟩⟩
  case hq1f0 => omega
  case hq1f1 => rfl
 ·rintro m1 a1 w6 ⟨i, ws, vrw, rfl, he1, S6, hi, hw⟩
  clear S5
  refine ws_in he1 (c := Without_n10) rfl ?_
  clear he1 a1
  have hwl : ws.length = 2 * d.crs.length + 1 := by rw [hw, iniW_len]
  refine ws_seqN Without_n11 Without_n12 rfl rfl rfl (ws_region rfl (wlo 0 1 rfl rfl rfl (wo_run rfl rfl (run_lss rfl rfl rfl) (wl_end rfl (nm_thn (ws_seqN Without_n13 Without_n14 rfl rfl rfl ?_))))))
  refine ws_condN Without_n15 Without_n16 rfl rfl rfl rfl (fun hb34 => ?_) (fun hb34 => ?_)
  ·replace hb34 := of_decide_eq_true hb34
   refine ws_skip rfl (nmk [0, 1, 2, 6, 7, 32, 33] rfl (nm_thn (ws_seqN Without_n17 Without_n18 rfl rfl rfl (ws_blockN Without_n19 1 rfl rfl rfl (ws_seqN Without_n20 Without_n21 rfl rfl rfl (ws_region rfl (wlm 0 1 rfl rfl rfl rfl rfl rfl rfl (wla 1 2 rfl rfl rfl rfl rfl rfl rfl ?_))))))))
   refine wl_end rfl (nmk [0, 1, 2, 6, 7, 32, 33, 8] rfl (nm_thn (ws_region rfl (wlo 0 1 rfl rfl rfl (wo_run rfl rfl (run_load1 rfl rfl Tryz.underlying53 rfl (S6.boxc (i := 0) rfl rfl)) (wlm 1 2 rfl rfl rfl rfl rfl rfl rfl (wlm 2 3 rfl rfl rfl rfl rfl rfl rfl (wlo 3 4 rfl rfl rfl (wo_run rfl rfl (run_indexR (C := cdInt) (i := 1) i rfl rfl rfl sl53 S6 rfl (by first | rfl | omega) (by first | omega | (simp only [lens]; omega))) ?_)))))))))
   refine wlo 4 5 rfl rfl rfl (wo_storeR (C := cdInt) (i := 1) (e := i) (j := 0) (us := [_]) (H' := [_, _, _]) (i : Int) rfl rfl S6 rfl (by first | omega | (simp only [lens]; omega)) rfl rfl rfl sz3 rfl rfl rfl rfl ?_)
   intro w7 S7; clear S6
   refine wl_end rfl (nm_blk (nmk [0, 1, 2, 6, 7, 32, 33] rfl (nm_thn (ws_region rfl (wlo 0 1 rfl rfl rfl (wo_run rfl rfl (run_add rfl rfl rfl (by first | omega | (simp only [lens]; omega))) ?_))))))
   refine wlm 1 2 rfl rfl rfl rfl rfl rfl rfl (wl_end rfl (nm_lp ?_))
   intro ax_ hax_
   refine ⟨_, ?hq2m, ⟨i + 1, _, _, rfl, hax_.sub ⟨rfl, rfl, rfl, rfl, rfl, rfl, rfl, trivial⟩, S7.pick [0, 1, 2] [_, _, _] (by decide) ⟨rfl, rfl, rfl, trivial⟩, ?hq2f0, ?hq2f1⟩⟩
   case hq2f0 => omega
   case hq2f1 => (rw [hw]; rfl)
   case hq2m => omega
  ·replace hb34 := of_decide_eq_false hb34
   refine ws_exit rfl rfl (nmk [0, 1, 2, 6, 7] rfl (nm_thn (ws_seqN Without_n22 Without_n23 rfl rfl rfl (ws_region rfl (wlo 0 1 rfl rfl rfl (wo_makeMap Int Bool (Value.int .i64) Value.bool rfl rfl rfl S6 ?_))))))
   intro gm2 w8 S8; clear S6
   refine wla 1 2 rfl rfl rfl rfl rfl rfl rfl (wl_end rfl (nmk [0, 1, 2, 6, 7, 9] rfl (nm_thn (ws_seqN Without_n24 Without_n25 rfl rfl rfl (ws_region rfl (wlm 0 1 rfl rfl rfl rfl rfl rfl rfl (wlo 1 2 rfl rfl rfl (wo_run rfl rfl (run_nilCheck rfl rfl) (wlo 2 3 rfl rfl rfl (wo_run rfl rfl (run_fieldAddr rfl rfl Tryz.underlying70 rfl (ce24) (nf24)) ?_))))))))))
   refine wlo 3 4 rfl rfl rfl (wo_run rfl rfl (run_fieldAddr rfl rfl Tryz.underlying24 rfl (ce3) (nf3)) (wlo 4 5 rfl rfl rfl (wo_run rfl rfl (run_load1 rfl rfl Tryz.underlying3 rfl (hsb.cell S8.um rfl)) (wlo 5 6 rfl rfl rfl (wo_run rfl rfl (run_build (l := [_, _]) rfl rfl st24 rfl rfl) (wlo 6 7 rfl rfl rfl (wo_alloc (l := [_, _]) rfl rfl rfl zr24 rfl S8 ?_)))))))
   intro gb3 w9 S9; clear S8
   refine wlo 7 8 rfl rfl rfl (wo_storeB (i := 0) (us := [_, _]) (l' := [_, _]) (H' := [_, _, _, _, _]) rfl rfl S9 rfl rfl rfl rfl sz24 rfl rfl rfl rfl ?_)
   intro w10 S10; clear S9
   refine wl_end rfl (nmk [0, 1, 2, 6, 7, 9, 10] rfl (nm_thn (ws_seqN Without_n26 Without_n27 rfl rfl rfl (ws_seqN Without_n28 Without_n29 rfl rfl rfl (ws_region rfl (wlm 0 1 rfl rfl rfl rfl rfl rfl rfl (wlo 1 2 rfl rfl rfl (wo_run rfl rfl (run_nilCheck rfl rfl) (wlo 2 3 rfl rfl rfl (wo_run rfl rfl (run_fieldAddr rfl rfl Tryz.underlying70 rfl (ce24) (nf24)) ?_))))))))))
   refine wlo 3 4 rfl rfl rfl (wo_run rfl rfl (run_fieldAddr rfl rfl Tryz.underlying24 rfl (ce22) (nf22)) (wlo 4 5 rfl rfl rfl (wo_run rfl rfl (run_load1 rfl rfl Tryz.underlying22 rfl (hsb.cell S10.um rfl)) (wlo 5 6 rfl rfl rfl (wo_run rfl rfl (run_len rfl rfl rfl rfl rfl rfl Tryz.underlying22) (wlm 6 7 rfl rfl rfl rfl rfl rfl rfl (wl_end rfl (nmk [1, 2, 6, 7, 9, 10, 52, 53, 54] rfl (nm_thn (ws_blockN Without_n30 2 rfl rfl rfl ?_))))))))))
   have S11 := S10.nilrow cdCr; clear S10
   refine ws_loopE (fun mx_ ax_ wx_ => ∃ (c : Nat) (cl : List Int) (oc : List Cr) (vrc : Value) (vro : Value), mx_ = d.crs.length - c ∧ Env 198 [(1, .func (.func 88) #[] #[]), (2, .slice goneA gone.length gonec), (6, .pointer (some ⟨gb1, 0, none⟩)), (7, .pointer (some ⟨gb2, 0, none⟩)), (9, .map (some gm2)), (10, .pointer (some ⟨gb3, 0, none⟩)), (52, .slice cA d.crs.length cc), (53, .int .i64 (d.crs.length : Int)), (54, .int .i64 (c : Int))] ax_ ∧ SH wx_ M X [Rs.row cdCr vro oc, Rs.box gb3 24 [vro, .int .i64 d.loops], Rs.mp (Value.int .i64) Value.bool gm2 ([]), Rs.box gb2 53 [vrc], Rs.row cdInt vrc cl, Rs.box gb1 24 [.slice none 0 0, .int .i64 0]] ∧ c ≤ d.crs.length ∧ cl = (if c ≤ k then smN d k 0 else smC d k) ∧ oc = remN d k c) rfl ?_ ?_
   ·intro ax_ hax_
    refine ⟨_, ⟨0, _, _, _, _, rfl, hax_.sub ⟨rfl, rfl, rfl, rfl, rfl, rfl, rfl, rfl, rfl, trivial⟩, S11.pick [0, 1, 2, 3, 4, 5] [_, _, _, _, _, _] (by decide) ⟨rfl, rfl, rfl, rfl, rfl, rfl, trivial⟩, ?hq3f0, ?hq3f1, ?hq3f2⟩⟩
    case hq3f0 => omega
    case hq3f1 => (rw [if_pos (by omega)]; obtain rfl : i = 2 * d.crs.length + 1 := (by omega); exact hw)
    case hq3f2 => rfl
   ·rintro m3 a2 w11 ⟨c, cl, oc, vrc, vro, rfl, he2, S12, hc, hcl, hoc⟩
    clear S11
    refine ws_in he2 (c := Without_n31) rfl ?_
    clear he2 a2
    have hll : cl.length = 2 * d.crs.length + 1 := by rw [hcl]; split <;> exact smN_len _ _ _
    have hol : oc.length ≤ c := by rw [hoc]; exact remN_len _ _ _
    refine ws_seqN Without_n32 Without_n33 rfl rfl rfl (ws_region rfl (wlo 0 1 rfl rfl rfl (wo_run rfl rfl (run_lss rfl rfl rfl) (wl_end rfl (nm_thn (ws_seqN Without_n34 Without_n35 rfl rfl rfl ?_))))))
    refine ws_condN Without_n36 Without_n37 rfl rfl rfl rfl (fun hb55 => ?_) (fun hb55 => ?_)
    ·replace hb55 := of_decide_eq_true hb55
     refine ws_skip rfl (nmk [1, 2, 6, 7, 9, 10, 52, 53, 54] rfl (nm_thn (ws_seqN Without_n38 Without_n39 rfl rfl rfl (ws_blockN Without_n40 3 rfl rfl rfl (ws_seqN Without_n41 Without_n42 rfl rfl rfl (ws_region rfl (wlm 0 1 rfl rfl rfl rfl rfl rfl rfl (wlo 1 2 rfl rfl rfl (wo_run rfl rfl (run_indexM (C := cdCr) c rfl rfl rfl sl22 (by first | rfl | omega) hsc (by first | omega | (simp only [lens]; omega))) ?_)))))))))
     refine wlo 2 3 rfl rfl rfl (wo_run rfl rfl (run_loadN (us := [_, _, _, _, _]) rfl rfl Tryz.underlying77 rfl sz77 (hsc.cellsAt S12.um (e := c) (by first | omega | (simp only [lens]; omega)) (j := 0) ⟨rfl, rfl, rfl, rfl, rfl, trivial⟩)) ?_)
     refine wlo 3 4 rfl rfl rfl (wo_alloc (l := [_, _, _, _, _]) rfl rfl rfl zr77 rfl S12 ?_)
     intro gb4 w12 S13; clear S12
     refine wla 4 5 rfl rfl rfl rfl rfl rfl rfl (wlo 5 6 rfl rfl rfl (wo_storeB (i := 0) (us := [_, _, _, _, _]) (l' := [_, _, _, _, _]) (H' := [_, _, _, _, _, _, _]) rfl rfl S13 rfl rfl rfl rfl sz77 rfl rfl rfl rfl ?_))
     intro w13 S14; clear S13
     refine wl_end rfl (nmk [1, 2, 6, 7, 9, 10, 52, 53, 54, 12, 11] rfl (nm_thn (ws_seqN Without_n43 Without_n44 rfl rfl rfl (ws_seqN Without_n45 Without_n46 rfl rfl rfl (ws_region rfl (wlm 0 1 rfl rfl rfl rfl rfl rfl rfl (wlm 1 2 rfl rfl rfl rfl rfl rfl rfl (wlo 2 3 rfl rfl rfl (wo_cq rfl rfl rfl rfl rfl rfl rfl cf136 S14 (Contains1_q gone (c : Int) (hgone.mono S14.un_XH) (hsq) S14.lend) ?_)))))))))
     rintro _ w14 S15 rfl; clear S14
     refine wlo 3 4 rfl rfl rfl (wo_run rfl rfl (run_not rfl rfl) (wl_end rfl (nmk [1, 2, 6, 7, 9, 10, 52, 53, 54, 12, 62] rfl (nm_thn ?_))))
     refine ws_condN Without_n47 Without_n48 rfl rfl rfl rfl (fun hb62 => ?_) (fun hb62 => ?_)
     ·simp only [Bool.and_eq_true, Bool.or_eq_true, Bool.and_eq_false_iff, Bool.or_eq_false_iff, decide_eq_true_eq, decide_eq_false_iff_not, Bool.not_eq_true', Bool.not_eq_false'] at hb62
      refine ws_seqN Without_n49 Without_n50 rfl rfl rfl (ws_region rfl (wlo 0 1 rfl rfl rfl (wo_run rfl rfl (run_fieldAddr rfl rfl Tryz.underlying24 rfl (ce22) (nf22)) (wlo 1 2 rfl rfl rfl (wo_run rfl rfl (run_load1 rfl rfl Tryz.underlying22 rfl (S15.boxc (i := 2) rfl rfl)) (wlo 2 3 rfl rfl rfl (wo_run rfl rfl (run_loadN (us := [_, _, _, _, _]) rfl rfl Tryz.underlying77 rfl sz77 (S15.boxcs (i := 0) rfl ⟨rfl, rfl, rfl, rfl, rfl, trivial⟩)) (wlo 3 4 rfl rfl rfl (wo_buildSlice1 (C := cdCr) (l := [_, _, _, _, _]) rfl rfl rfl rfl sl22 rfl rfl rfl rfl S15 ?_)))))))))
      intro gb5 w15 S16; clear S15
      refine wlo 4 5 rfl rfl rfl (wo_append1 (C := cdCr) (i := 2) (q := 0) (⟨(ga d.crs c).a, (ga d.crs c).b, (ga d.crs c).c, (ga d.crs c).d, (ga d.crs c).plus⟩ : Cr) rfl rfl rfl rfl rfl rfl rfl rfl sl22 S16 rfl rfl rfl (by show (_ + 1) * 40 ≤ _; first | omega | (simp only [lens]; omega)) ?_)
      intro vro1 w16 S17; clear S16
      have S18 := S17.pick [1, 2, 3, 4, 5, 6, 7] [_, _, _, _, _, _, _] (by decide) ⟨rfl, rfl, rfl, rfl, rfl, rfl, rfl, trivial⟩; clear S17
      refine wlo 5 6 rfl rfl rfl (wo_run rfl rfl (run_fieldAddr rfl rfl Tryz.underlying24 rfl (ce22) (nf22)) (wlo 6 7 rfl rfl rfl (wo_storeB (i := 2) (us := [_]) (l' := [_, _]) (H' := [_, _, _, _, _, _, _]) rfl rfl S18 rfl rfl rfl (S18.cells1 (i := 1) rfl) sz22 rfl (ones_cons (S18.one (i := 1) rfl) rfl) rfl rfl ?_)))
      intro w17 S19; clear S18
      refine wl_end rfl (nmk [1, 2, 6, 7, 9, 10, 52, 53, 54] rfl (nm_thn (ws_exit rfl rfl (nm_thn (ws_region rfl (wlo 0 1 rfl rfl rfl (wo_run rfl rfl (run_add rfl rfl rfl (by first | omega | (simp only [lens]; omega))) ?_)))))))
      refine wlm 1 2 rfl rfl rfl rfl rfl rfl rfl (wl_end rfl (nm_lp ?_))
      intro ax_ hax_
      refine ⟨_, ?hq4m, ⟨c + 1, _, _, _, _, rfl, hax_.sub ⟨rfl, rfl, rfl, rfl, rfl, rfl, rfl, rfl, rfl, trivial⟩, S19.pick [1, 2, 3, 4, 5, 6] [_, _, _, _, _, _] (by decide) ⟨rfl, rfl, rfl, rfl, rfl, rfl, trivial⟩, ?hq4f0, ?hq4f1, ?hq4f2⟩⟩
      case hq4f0 => omega
      case hq4f1 => first | (rw [hcl]; by_cases h9 : c < k; (rw [if_pos (by omega), if_pos (by omega)]); (rw [if_neg (by omega), if_neg (by omega)])) | (obtain rfl : j = 2 := (by omega); rw [if_neg (by omega)]; exact hcj)
      case hq4f2 => first | (rw [remN, if_pos (by omega)]; exact hoc) | (rw [remN, if_neg (by omega), hoc])
      case hq4m => omega
     ·simp only [Bool.and_eq_true, Bool.or_eq_true, Bool.and_eq_false_iff, Bool.or_eq_false_iff, decide_eq_true_eq, decide_eq_false_iff_not, Bool.not_eq_true', Bool.not_eq_false'] at hb62
      have hck : c = k := by omega
      refine ws_skip rfl (nmk [1, 2, 6, 7, 9, 10, 52, 53, 54, 12] rfl (nm_thn (ws_seqN Without_n51 Without_n52 rfl rfl rfl (ws_region rfl (wlm 0 1 rfl rfl rfl rfl rfl rfl rfl (wlo 1 2 rfl rfl rfl (wo_run rfl rfl (run_loadN (us := [_, _, _, _, _]) rfl rfl Tryz.underlying77 rfl sz77 (S15.boxcs (i := 0) rfl ⟨rfl, rfl, rfl, rfl, rfl, trivial⟩)) (wlo 2 3 rfl rfl rfl (wo_cq rfl rfl rfl rfl rfl rfl rfl cf88 S15 (Along_q (ga d.crs c)  S15.lend) ?_)))))))))
      rintro _ w18 S20 rfl; clear S15
      refine wl_eq 71 (.agg [.int .i64 ((ga d.crs k).a), .int .i64 ((abv (ga d.crs k)).2), .int .i64 ((abv (ga d.crs k)).1), .int .i64 ((ga d.crs k).c)].toArray) rfl (by rw [hck]) ?_
      refine wlm 3 4 rfl rfl rfl rfl rfl rfl rfl (wl_end rfl (nmk [1, 2, 6, 7, 9, 10, 52, 53, 54, 71, 72] rfl (nm_thn (ws_blockN Without_n53 4 rfl rfl rfl ?_))))
      refine ws_loopE (fun mx_ ax_ wx_ => ∃ (j : Nat) (cj : List Int) (vrj : Value), mx_ = 2 - j ∧ Env 198 [(1, .func (.func 88) #[] #[]), (2, .slice goneA gone.length gonec), (6, .pointer (some ⟨gb1, 0, none⟩)), (7, .pointer (some ⟨gb2, 0, none⟩)), (9, .map (some gm2)), (10, .pointer (some ⟨gb3, 0, none⟩)), (52, .slice cA d.crs.length cc), (53, .int .i64 (d.crs.length : Int)), (54, .int .i64 (c : Int)), (71, .agg [.int .i64 ((ga d.crs k).a), .int .i64 ((abv (ga d.crs k)).2), .int .i64 ((abv (ga d.crs k)).1), .int .i64 ((ga d.crs k).c)].toArray), (72, .int .i64 (j : Int))] ax_ ∧ SH wx_ M X [Rs.row cdCr vro oc, Rs.box gb3 24 [vro, .int .i64 d.loops], Rs.mp (Value.int .i64) Value.bool gm2 ([]), Rs.box gb2 53 [vrj], Rs.row cdInt vrj cj, Rs.box gb1 24 [.slice none 0 0, .int .i64 0]] ∧ j ≤ 2 ∧ cj = smN d k j) rfl ?_ ?_
      ·intro ax_ hax_
       refine ⟨_, ⟨0, _, _, rfl, hax_.sub ⟨rfl, rfl, rfl, rfl, rfl, rfl, rfl, rfl, rfl, rfl, rfl, trivial⟩, S20.pick [1, 2, 3, 4, 5, 6] [_, _, _, _, _, _] (by decide) ⟨rfl, rfl, rfl, rfl, rfl, rfl, trivial⟩, ?hq5f0, ?hq5f1⟩⟩
       case hq5f0 => omega
       case hq5f1 => (rw [hcl, if_pos (by omega)])
      ·rintro m4 a3 w19 ⟨j, cj, vrj, rfl, he3, S21, hj, hcj⟩
       clear S20
       refine ws_in he3 (c := Without_n54) rfl ?_
       clear he3 a3
       have hlj : cj.length = 2 * d.crs.length + 1 := by rw [hcj]; exact smN_len _ _ _
       obtain ⟨⟨hb1, hb2⟩, ⟨hb3, hb4⟩⟩ := sE_bd hab hk j
       refine ws_seqN Without_n55 Without_n56 rfl rfl rfl (ws_region rfl (wlo 0 1 rfl rfl rfl (wo_run rfl rfl (run_lss rfl rfl rfl) (wl_end rfl (nm_thn (ws_seqN Without_n57 Without_n58 rfl rfl rfl ?_))))))
       refine ws_condN Without_n59 Without_n60 rfl rfl rfl rfl (fun hb73 => ?_) (fun hb73 => ?_)
       ·replace hb73 := of_decide_eq_true hb73
        refine ws_skip rfl (nmk [1, 2, 6, 7, 9, 10, 52, 53, 54, 71, 72] rfl (nm_thn (ws_seqN Without_n61 Without_n62 rfl rfl rfl (ws_blockN Without_n63 5 rfl rfl rfl (ws_seqN Without_n64 Without_n65 rfl rfl rfl (ws_region rfl (wlo 0 1 rfl rfl rfl (wo_run rfl rfl (run_indexA2 (e := j) rfl rfl rfl Tryz.underlying222 Tryz.underlying128 rfl sz128 (by first | rfl | omega) (by first | omega | (simp only [lens]; omega))) ?_))))))))
        refine wl_eq 74 (.agg [.int .i64 ((sE1 d k j : Nat) : Int), .int .i64 ((sE2 d k j : Nat) : Int)].toArray) rfl (sm_vals hab hk j) (wlo 1 2 rfl rfl rfl (wo_alloc (l := [_, _]) rfl rfl rfl zr128 rfl S21 ?_))
        intro gb6 w20 S22; clear S21
        refine wlo 2 3 rfl rfl rfl (wo_storeB (i := 0) (us := [_, _]) (l' := [_, _]) (H' := [_, _, _, _, _, _, _]) rfl rfl S22 rfl rfl rfl rfl sz128 rfl rfl rfl rfl ?_)
        intro w21 S23; clear S22
        refine wl_end rfl (nmk [1, 2, 6, 7, 9, 10, 52, 53, 54, 71, 72, 14] rfl (nm_thn (ws_seqN Without_n66 Without_n67 rfl rfl rfl (ws_draw rfl (by kernel_rfl) S23 24 rfl ?_))))
        clear S23
        refine wat 0 23 rfl (by kernel_rfl) rfl rfl rfl (fun M1 N1 w22 hle4 S24 => .inl (run_load1 rfl rfl Tryz.underlying53 rfl (S24.suf.boxc (i := 4) rfl rfl))) ?_
        refine wat 1 22 rfl (by kernel_rfl) rfl rfl rfl (fun M2 N2 w23 hle5 S25 => .inl (run_indexP (e := 0) (k := 1) rfl rfl rfl Tryz.underlying128 sz3 (by first | rfl | omega) (by first | omega | (simp only [lens]; omega)))) ?_
        refine wat 2 21 rfl (by kernel_rfl) rfl rfl rfl (fun M3 N3 w24 hle6 S26 => .inl (run_load1 rfl rfl Tryz.underlying3 rfl (S26.suf.boxc (i := 0) rfl rfl))) ?_
        refine wat 3 20 rfl (by kernel_rfl) rfl rfl rfl (fun M4 N4 w25 hle7 S27 => .inl (run_indexR (C := cdInt) (i := 5) (sE1 d k j) rfl rfl rfl sl53 S27.suf rfl (by first | rfl | omega) (by first | omega | (simp only [lens]; omega)))) ?_
        refine wat 4 19 rfl (by kernel_rfl) rfl rfl rfl (fun M5 N5 w26 hle8 S28 => .inl (run_load1 rfl rfl Tryz.underlying3 rfl (S28.suf.rowc (i := 5) (e := sE1 d k j) (j := 0) rfl (by first | omega | (simp only [lens]; omega)) rfl rfl))) ?_
        refine wat 5 18 rfl (by kernel_rfl) rfl rfl rfl (fun M6 N6 w27 hle9 S29 => .inl (run_load1 rfl rfl Tryz.underlying53 rfl (S29.suf.boxc (i := 4) rfl rfl))) ?_
        refine wat 6 17 rfl (by kernel_rfl) rfl rfl rfl (fun M7 N7 w28 hle10 S30 => .inl (run_indexP (e := 1) (k := 1) rfl rfl rfl Tryz.underlying128 sz3 (by first | rfl | omega) (by first | omega | (simp only [lens]; omega)))) ?_
        refine wat 7 16 rfl (by kernel_rfl) rfl rfl rfl (fun M8 N8 w29 hle11 S31 => .inl (run_load1 rfl rfl Tryz.underlying3 rfl (S31.suf.boxc (i := 0) rfl rfl))) ?_
        refine wat 8 15 rfl (by kernel_rfl) rfl rfl rfl (fun M9 N9 w30 hle12 S32 => .inl (run_indexR (C := cdInt) (i := 5) (sE2 d k j) rfl rfl rfl sl53 S32.suf rfl (by first | rfl | omega) (by first | omega | (simp only [lens]; omega)))) ?_
        refine wat 9 14 rfl (by kernel_rfl) rfl rfl rfl (fun M10 N10 w31 hle13 S33 => .inl (run_load1 rfl rfl Tryz.underlying3 rfl (S33.suf.rowc (i := 5) (e := sE2 d k j) (j := 0) rfl (by first | omega | (simp only [lens]; omega)) rfl rfl))) ?_
        refine wat 10 13 rfl (by kernel_rfl) rfl rfl rfl (fun M11 N11 w32 hle14 S34 => .inl (run_max rfl rfl rfl rfl rfl)) ?_
        refine wat 11 12 rfl (by kernel_rfl) rfl rfl rfl (fun M12 N12 w33 hle15 S35 => .inl (run_load1 rfl rfl Tryz.underlying53 rfl (S35.suf.boxc (i := 4) rfl rfl))) ?_
        refine wat 12 11 rfl (by kernel_rfl) rfl rfl rfl (fun M13 N13 w34 hle16 S36 => .inl (run_indexP (e := 0) (k := 1) rfl rfl rfl Tryz.underlying128 sz3 (by first | rfl | omega) (by first | omega | (simp only [lens]; omega)))) ?_
        refine wat 13 10 rfl (by kernel_rfl) rfl rfl rfl (fun M14 N14 w35 hle17 S37 => .inl (run_load1 rfl rfl Tryz.underlying3 rfl (S37.suf.boxc (i := 0) rfl rfl))) ?_
        refine wat 14 9 rfl (by kernel_rfl) rfl rfl rfl (fun M15 N15 w36 hle18 S38 => .inl (run_indexR (C := cdInt) (i := 5) (sE1 d k j) rfl rfl rfl sl53 S38.suf rfl (by first | rfl | omega) (by first | omega | (simp only [lens]; omega)))) ?_
        refine wat 15 8 rfl (by kernel_rfl) rfl rfl rfl (fun M16 N16 w37 hle19 S39 => .inl (run_load1 rfl rfl Tryz.underlying3 rfl (S39.suf.rowc (i := 5) (e := sE1 d k j) (j := 0) rfl (by first | omega | (simp only [lens]; omega)) rfl rfl))) ?_
        refine wat 16 7 rfl (by kernel_rfl) rfl rfl rfl (fun M17 N17 w38 hle20 S40 => .inl (run_load1 rfl rfl Tryz.underlying53 rfl (S40.suf.boxc (i := 4) rfl rfl))) ?_
        refine wat 17 6 rfl (by kernel_rfl) rfl rfl rfl (fun M18 N18 w39 hle21 S41 => .inl (run_indexP (e := 1) (k := 1) rfl rfl rfl Tryz.underlying128 sz3 (by first | rfl | omega) (by first | omega | (simp only [lens]; omega)))) ?_
        refine wat 18 5 rfl (by kernel_rfl) rfl rfl rfl (fun M19 N19 w40 hle22 S42 => .inl (run_load1 rfl rfl Tryz.underlying3 rfl (S42.suf.boxc (i := 0) rfl rfl))) ?_
        refine wat 19 4 rfl (by kernel_rfl) rfl rfl rfl (fun M20 N20 w41 hle23 S43 => .inl (run_indexR (C := cdInt) (i := 5) (sE2 d k j) rfl rfl rfl sl53 S43.suf rfl (by first | rfl | omega) (by first | omega | (simp only [lens]; omega)))) ?_
        refine wat 20 3 rfl (by kernel_rfl) rfl rfl rfl (fun M21 N21 w42 hle24 S44 => .inl (run_load1 rfl rfl Tryz.underlying3 rfl (S44.suf.rowc (i := 5) (e := sE2 d k j) (j := 0) rfl (by first | omega | (simp only [lens]; omega)) rfl rfl))) ?_
        refine wat 21 2 rfl (by kernel_rfl) rfl rfl rfl (fun M22 N22 w43 hle25 S45 => .inl (run_min rfl rfl rfl rfl rfl)) ?_
        refine wap 22 1 rfl (by kernel_rfl) rfl rfl rfl (fun w44 => run_assign rfl rfl) ?_
        refine wap 23 0 rfl (by kernel_rfl) rfl rfl rfl (fun w45 => run_assign rfl rfl) ?_
        refine wa_end (by kernel_rfl) (fun w46 S48 => ?_)
        refine nmk [1, 2, 6, 7, 9, 10, 52, 53, 54, 71, 72, 15, 16] rfl (nm_thn (ws_seqN Without_n68 Without_n69 rfl rfl rfl (ws_eq 15 (.int .i64 (frG (sE1 d k) (sE2 d k) cj j)) rfl (int_eq rfl) (ws_eq 16 (.int .i64 (toG (sE1 d k) (sE2 d k) cj j)) rfl (int_eq rfl) (ws_region rfl (wlo 0 1 rfl rfl rfl (wo_run rfl rfl (run_load1 rfl rfl Tryz.underlying53 rfl (S48.boxc (i := 4) rfl rfl)) (wlo 1 2 rfl rfl rfl (wo_run rfl rfl (run_lenR (C := cdInt) (i := 5) rfl rfl rfl rfl rfl rfl sl53 S48 rfl) (wl_eq 98 (.int .i64 ((2 * d.crs.length + 1 : Nat) : Int)) rfl (int_eq (by rw [hlj])) ?_))))))))))
        refine wlm 2 3 rfl rfl rfl rfl rfl rfl rfl (wl_end rfl (nmk [1, 2, 6, 7, 9, 10, 52, 53, 54, 71, 72, 15, 16, 98, 99] rfl (nm_thn (ws_blockN Without_n70 6 rfl rfl rfl ?_))))
        refine ws_loopE (fun mx_ ax_ wx_ => ∃ (a : Nat) (cl2 : List Int) (vrc2 : Value), mx_ = 2 * d.crs.length + 1 - a ∧ Env 198 [(1, .func (.func 88) #[] #[]), (2, .slice goneA gone.length gonec), (6, .pointer (some ⟨gb1, 0, none⟩)), (7, .pointer (some ⟨gb2, 0, none⟩)), (9, .map (some gm2)), (10, .pointer (some ⟨gb3, 0, none⟩)), (52, .slice cA d.crs.length cc), (53, .int .i64 (d.crs.length : Int)), (54, .int .i64 (c : Int)), (71, .agg [.int .i64 ((ga d.crs k).a), .int .i64 ((abv (ga d.crs k)).2), .int .i64 ((abv (ga d.crs k)).1), .int .i64 ((ga d.crs k).c)].toArray), (72, .int .i64 (j : Int)), (15, .int .i64 (frG (sE1 d k) (sE2 d k) cj j)), (16, .int .i64 (toG (sE1 d k) (sE2 d k) cj j)), (98, .int .i64 ((2 * d.crs.length + 1 : Nat) : Int)), (99, .int .i64 (a : Int))] ax_ ∧ SH wx_ M X [Rs.row cdCr vro oc, Rs.box gb3 24 [vro, .int .i64 d.loops], Rs.mp (Value.int .i64) Value.bool gm2 ([]), Rs.box gb2 53 [vrc2], Rs.row cdInt vrc2 cl2, Rs.box gb1 24 [.slice none 0 0, .int .i64 0]] ∧ a ≤ 2 * d.crs.length + 1 ∧ cl2 = relN cj (frG (sE1 d k) (sE2 d k) cj j) (toG (sE1 d k) (sE2 d k) cj j) a) rfl ?_ ?_
        ·intro ax_ hax_
         refine ⟨_, ⟨0, _, _, rfl, hax_.sub ⟨rfl, rfl, rfl, rfl, rfl, rfl, rfl, rfl, rfl, rfl, rfl, rfl, rfl, rfl, rfl, trivial⟩, S48.pick [1, 2, 3, 4, 5, 6] [_, _, _, _, _, _] (by decide) ⟨rfl, rfl, rfl, rfl, rfl, rfl, trivial⟩, ?hq6f0, ?hq6f1⟩⟩
         case hq6f0 => omega
         case hq6f1 => rfl
        ·rintro m5 a4 w47 ⟨a, cl2, vrc2, rfl, he4, S49, ha, hc2⟩
         clear S48
         refine ws_in he4 (c := Without_n71) rfl ?_
         clear he4 a4
         have hl2 : cl2.length = 2 * d.crs.length + 1 := by rw [hc2, relN_len, hlj]
         refine ws_seqN Without_n72 Without_n73 rfl rfl rfl (ws_region rfl (wlo 0 1 rfl rfl rfl (wo_run rfl rfl (run_lss rfl rfl rfl) (wl_end rfl (nm_thn (ws_seqN Without_n74 Without_n75 rfl rfl rfl ?_))))))
         refine ws_condN Without_n76 Without_n77 rfl rfl rfl rfl (fun hb100 => ?_) (fun hb100 => ?_)
         ·replace hb100 := of_decide_eq_true hb100
          refine ws_skip rfl (nmk [1, 2, 6, 7, 9, 10, 52, 53, 54, 71, 72, 15, 16, 98, 99] rfl (nm_thn (ws_seqN Without_n78 Without_n79 rfl rfl rfl (ws_blockN Without_n80 7 rfl rfl rfl (ws_seqN Without_n81 Without_n82 rfl rfl rfl (ws_region rfl (wlm 0 1 rfl rfl rfl rfl rfl rfl rfl (wla 1 2 rfl rfl rfl rfl rfl rfl rfl ?_))))))))
          refine wl_end rfl (nmk [1, 2, 6, 7, 9, 10, 52, 53, 54, 71, 72, 15, 16, 98, 99, 17] rfl (nm_thn (ws_seqN Without_n83 Without_n84 rfl rfl rfl (ws_region rfl (wlo 0 1 rfl rfl rfl (wo_run rfl rfl (run_load1 rfl rfl Tryz.underlying53 rfl (S49.boxc (i := 3) rfl rfl)) (wlm 1 2 rfl rfl rfl rfl rfl rfl rfl (wlo 2 3 rfl rfl rfl (wo_run rfl rfl (run_indexR (C := cdInt) (i := 4) a rfl rfl rfl sl53 S49 rfl (by first | rfl | omega) (by first | omega | (simp only [lens]; omega))) ?_)))))))))
          refine wlo 3 4 rfl rfl rfl (wo_run rfl rfl (run_load1 rfl rfl Tryz.underlying3 rfl (S49.rowc (i := 4) (e := a) (j := 0) rfl (by first | omega | (simp only [lens]; omega)) rfl rfl)) ?_)
          refine wlm 4 5 rfl rfl rfl rfl rfl rfl rfl (wlo 5 6 rfl rfl rfl (wo_run rfl rfl (run_eql rfl rfl rfl) (wl_end rfl (nmk [1, 2, 6, 7, 9, 10, 52, 53, 54, 71, 72, 15, 16, 98, 99, 17, 107] rfl (nm_thn ?_)))))
          refine ws_condN Without_n85 Without_n86 rfl rfl rfl rfl (fun hb107 => ?_) (fun hb107 => ?_)
          ·replace hb107 := of_decide_eq_true hb107
           refine ws_region rfl (wlo 0 1 rfl rfl rfl (wo_run rfl rfl (run_load1 rfl rfl Tryz.underlying53 rfl (S49.boxc (i := 3) rfl rfl)) (wlm 1 2 rfl rfl rfl rfl rfl rfl rfl (wlm 2 3 rfl rfl rfl rfl rfl rfl rfl (wlo 3 4 rfl rfl rfl (wo_run rfl rfl (run_indexR (C := cdInt) (i := 4) a rfl rfl rfl sl53 S49 rfl (by first | rfl | omega) (by first | omega | (simp only [lens]; omega))) ?_))))))
           refine wlo 4 5 rfl rfl rfl (wo_storeR (C := cdInt) (i := 4) (e := a) (j := 0) (us := [_]) (H' := [_, _, _, _, _, _]) (toG (sE1 d k) (sE2 d k) cj j) rfl rfl S49 rfl (by first | omega | (simp only [lens]; omega)) rfl rfl rfl sz3 rfl rfl rfl rfl ?_)
           intro w48 S50; clear S49
           refine wl_end rfl (nm_blk (nmk [1, 2, 6, 7, 9, 10, 52, 53, 54, 71, 72, 15, 16, 98, 99] rfl (nm_thn (ws_region rfl (wlo 0 1 rfl rfl rfl (wo_run rfl rfl (run_add rfl rfl rfl (by first | omega | (simp only [lens]; omega))) ?_))))))
           refine wlm 1 2 rfl rfl rfl rfl rfl rfl rfl (wl_end rfl (nm_lp ?_))
           intro ax_ hax_
           refine ⟨_, ?hq7m, ⟨a + 1, _, _, rfl, hax_.sub ⟨rfl, rfl, rfl, rfl, rfl, rfl, rfl, rfl, rfl, rfl, rfl, rfl, rfl, rfl, rfl, trivial⟩, S50.pick [0, 1, 2, 3, 4, 5] [_, _, _, _, _, _] (by decide) ⟨rfl, rfl, rfl, rfl, rfl, rfl, trivial⟩, ?hq7f0, ?hq7f1⟩⟩
           case hq7f0 => omega
           case hq7f1 => (rw [relN, ← hc2]; first | rw [if_pos hb107] | rw [if_neg hb107])
           case hq7m => omega
          ·replace hb107 := of_decide_eq_false hb107
           refine ws_skip rfl (nm_blk (nmk [1, 2, 6, 7, 9, 10, 52, 53, 54, 71, 72, 15, 16, 98, 99] rfl (nm_thn (ws_region rfl (wlo 0 1 rfl rfl rfl (wo_run rfl rfl (run_add rfl rfl rfl (by first | omega | (simp only [lens]; omega))) ?_))))))
           refine wlm 1 2 rfl rfl rfl rfl rfl rfl rfl (wl_end rfl (nm_lp ?_))
           intro ax_ hax_
           refine ⟨_, ?hq8m, ⟨a + 1, _, _, rfl, hax_.sub ⟨rfl, rfl, rfl, rfl, rfl, rfl, rfl, rfl, rfl, rfl, rfl, rfl, rfl, rfl, rfl, trivial⟩, S49.pick [0, 1, 2, 3, 4, 5] [_, _, _, _, _, _] (by decide) ⟨rfl, rfl, rfl, rfl, rfl, rfl, trivial⟩, ?hq8f0, ?hq8f1⟩⟩
           case hq8f0 => omega
           case hq8f1 => (rw [relN, ← hc2]; first | rw [if_pos hb107] | rw [if_neg hb107])
           case hq8m => omega
         ·replace hb100 := of_decide_eq_false hb100
          refine ws_exit rfl rfl (nm_blk (nmk [1, 2, 6, 7, 9, 10, 52, 53, 54, 71, 72] rfl (nm_thn (ws_region rfl (wlo 0 1 rfl rfl rfl (wo_run rfl rfl (run_add rfl rfl rfl (by first | omega | (simp only [lens]; omega))) ?_))))))
          refine wlm 1 2 rfl rfl rfl rfl rfl rfl rfl (wl_end rfl (nm_lp ?_))
          intro ax_ hax_
          refine ⟨_, ?hq9m, ⟨j + 1, _, _, rfl, hax_.sub ⟨rfl, rfl, rfl, rfl, rfl, rfl, rfl, rfl, rfl, rfl, rfl, trivial⟩, S49.pick [0, 1, 2, 3, 4, 5] [_, _, _, _, _, _] (by decide) ⟨rfl, rfl, rfl, rfl, rfl, rfl, trivial⟩, ?hq9f0, ?hq9f1⟩⟩
          case hq9f0 => omega
          case hq9f1 => (obtain rfl : a = 2 * d.crs.length + 1 := (by omega); rw [hc2, hcj]; rfl)
          case hq9m => omega
       ·replace hb73 := of_decide_eq_false hb73
        refine ws_exit rfl rfl (nm_blk (nmk [1, 2, 6, 7, 9, 10, 52, 53, 54] rfl (nm_thn (ws_region rfl (wlo 0 1 rfl rfl rfl (wo_run rfl rfl (run_add rfl rfl rfl (by first | omega | (simp only [lens]; omega))) ?_))))))
        refine wlm 1 2 rfl rfl rfl rfl rfl rfl rfl (wl_end rfl (nm_lp ?_))
        intro ax_ hax_
        refine ⟨_, ?hq10m, ⟨c + 1, _, _, _, _, rfl, hax_.sub ⟨rfl, rfl, rfl, rfl, rfl, rfl, rfl, rfl, rfl, trivial⟩, S21.pick [0, 1, 2, 3, 4, 5] [_, _, _, _, _, _] (by decide) ⟨rfl, rfl, rfl, rfl, rfl, rfl, trivial⟩, ?hq10f0, ?hq10f1, ?hq10f2⟩⟩
        case hq10f0 => omega
        case hq10f1 => first | (rw [hcl]; by_cases h9 : c < k; (rw [if_pos (by omega), if_pos (by omega)]); (rw [if_neg (by omega), if_neg (by omega)])) | (obtain rfl : j = 2 := (by omega); rw [if_neg (by omega)]; exact hcj)
        case hq10f2 => first | (rw [remN, if_pos (by omega)]; exact hoc) | (rw [remN, if_neg (by omega), hoc])
        case hq10m => omega
    ·replace hb55 := of_decide_eq_false hb55
     refine ws_exit rfl rfl (nmk [6, 7, 9, 10] rfl (nm_thn (ws_seqN Without_n87 Without_n88 rfl rfl rfl (ws_seqN Without_n89 Without_n90 rfl rfl rfl ?_))))
     obtain rfl : c = d.crs.length := by omega
     have hclf : cl = smC d k := by rw [hcl, if_neg (by omega)]
     have hocf : oc = remL d k := hoc
     refine ws_region rfl (wlo 0 1 rfl rfl rfl (wo_run rfl rfl (run_fieldAddr rfl rfl Tryz.underlying24 rfl (ce22) (nf22)) (wlo 1 2 rfl rfl rfl (wo_run rfl rfl (run_load1 rfl rfl Tryz.underlying22 rfl (S12.boxc (i := 1) rfl rfl)) (wlo 2 3 rfl rfl rfl (wo_run rfl rfl (run_lenR (C := cdCr) (i := 0) rfl rfl rfl rfl rfl rfl sl22 S12 rfl) (wlm 3 4 rfl rfl rfl rfl rfl rfl rfl (wl_end rfl (nmk [6, 7, 9, 10, 116, 117, 118] rfl (nm_thn (ws_blockN Without_n91 8 rfl rfl rfl ?_)))))))))))
     refine ws_loopE (fun mx_ ax_ wx_ => ∃ (i4 : Nat) (es : List (Int × Bool)), mx_ = oc.length - i4 ∧ Env 198 [(6, .pointer (some ⟨gb1, 0, none⟩)), (7, .pointer (some ⟨gb2, 0, none⟩)), (9, .map (some gm2)), (10, .pointer (some ⟨gb3, 0, none⟩)), (116, vro), (117, .int .i64 (oc.length : Int)), (118, .int .i64 (i4 : Int))] ax_ ∧ SH wx_ M X [Rs.row cdCr vro oc, Rs.box gb3 24 [vro, .int .i64 d.loops], Rs.mp (Value.int .i64) Value.bool gm2 es, Rs.box gb2 53 [vrc], Rs.row cdInt vrc cl, Rs.box gb1 24 [.slice none 0 0, .int .i64 0]] ∧ i4 ≤ oc.length ∧ (∀ x, (mg x es).getD false = lfL cl (oc.take i4) x)) rfl ?_ ?_
     ·intro ax_ hax_
      refine ⟨_, ⟨0, [], rfl, hax_.sub ⟨rfl, rfl, rfl, rfl, rfl, rfl, rfl, trivial⟩, S12.pick [0, 1, 2, 3, 4, 5] [_, _, _, _, _, _] (by decide) ⟨rfl, rfl, rfl, rfl, rfl, rfl, trivial⟩, ?hq11f0, ?hq11f1⟩⟩
      case hq11f0 => omega
      case hq11f1 => (intro x; rfl)
     ·rintro m6 a5 w49 ⟨i4, es, rfl, he5, S51, hi4, hes⟩
      clear S12
      refine ws_in he5 (c := Without_n92) rfl ?_
      clear he5 a5
      have hrm : i4 < oc.length → ∀ s, s < 4 → 1 ≤ crArc (ga oc i4) s ∧ crArc (ga oc i4) s ≤ 2 * (d.crs.length : Int) := fun h s hs => rem_arc hab (Nat.le_refl _) (v := ga oc i4) (k := k) (by rw [← show oc = remN d k d.crs.length from hoc]; exact ga_mem h) hs
      refine ws_seqN Without_n93 Without_n94 rfl rfl rfl (ws_region rfl (wlo 0 1 rfl rfl rfl (wo_run rfl rfl (run_lss rfl rfl rfl) (wl_end rfl (nm_thn (ws_seqN Without_n95 Without_n96 rfl rfl rfl ?_))))))
      refine ws_condN Without_n97 Without_n98 rfl rfl rfl rfl (fun hb119 => ?_) (fun hb119 => ?_)
      ·replace hb119 := of_decide_eq_true hb119
       refine ws_skip rfl (nmk [6, 7, 9, 10, 116, 117, 118] rfl (nm_thn (ws_seqN Without_n99 Without_n100 rfl rfl rfl (ws_blockN Without_n101 9 rfl rfl rfl (ws_seqN Without_n102 Without_n103 rfl rfl rfl (ws_region rfl (wlo 0 1 rfl rfl rfl (wo_run rfl rfl (run_indexR (C := cdCr) (i := 0) i4 rfl rfl rfl sl22 S51 rfl (by first | rfl | omega) (by first | omega | (simp only [lens]; omega))) ?_))))))))
       refine wlo 1 2 rfl rfl rfl (wo_run rfl rfl (run_loadN (us := [_, _, _, _, _]) rfl rfl Tryz.underlying77 rfl sz77 (S51.rowcs (i := 0) (e := i4) (j := 0) rfl (by first | omega | (simp only [lens]; omega)) ⟨rfl, rfl, rfl, rfl, rfl, trivial⟩)) ?_)
       refine wlo 2 3 rfl rfl rfl (wo_alloc (l := [_, _, _, _, _]) rfl rfl rfl zr77 rfl S51 ?_)
       intro gb7 w50 S52; clear S51
       refine wlo 3 4 rfl rfl rfl (wo_storeB (i := 0) (us := [_, _, _, _, _]) (l' := [_, _, _, _, _]) (H' := [_, _, _, _, _, _, _]) rfl rfl S52 rfl rfl rfl rfl sz77 rfl rfl rfl rfl ?_)
       intro w51 S53; clear S52
       refine wl_end rfl (nmk [6, 7, 9, 10, 116, 117, 118, 19] rfl (nm_thn (ws_seqN Without_n104 Without_n105 rfl rfl rfl (ws_region rfl (wlm 0 1 rfl rfl rfl rfl rfl rfl rfl (wl_end rfl (nm_thn (ws_blockN Without_n106 10 rfl rfl rfl ?_))))))))
       refine ws_loopE (fun mx_ ax_ wx_ => ∃ (s5 : Nat) (es5 : List (Int × Bool)), mx_ = 4 - s5 ∧ Env 198 [(6, .pointer (some ⟨gb1, 0, none⟩)), (7, .pointer (some ⟨gb2, 0, none⟩)), (9, .map (some gm2)), (10, .pointer (some ⟨gb3, 0, none⟩)), (116, vro), (117, .int .i64 (oc.length : Int)), (118, .int .i64 (i4 : Int)), (19, .pointer (some ⟨gb7, 0, none⟩)), (122, .int .i64 (s5 : Int))] ax_ ∧ SH wx_ M X [Rs.box gb7 77 [.int .i64 ((ga oc i4).a), .int .i64 ((ga oc i4).b), .int .i64 ((ga oc i4).c), .int .i64 ((ga oc i4).d), .bool ((ga oc i4).plus)], Rs.row cdCr vro oc, Rs.box gb3 24 [vro, .int .i64 d.loops], Rs.mp (Value.int .i64) Value.bool gm2 es5, Rs.box gb2 53 [vrc], Rs.row cdInt vrc cl, Rs.box gb1 24 [.slice none 0 0, .int .i64 0]] ∧ s5 ≤ 4 ∧ (∀ x, (mg x es5).getD false = (lfL cl (oc.take i4) x || lf1 cl (ga oc i4) s5 x))) rfl ?_ ?_
       ·intro ax_ hax_
        refine ⟨_, ⟨0, es, rfl, hax_.sub ⟨rfl, rfl, rfl, rfl, rfl, rfl, rfl, rfl, rfl, trivial⟩, S53.pick [0, 1, 2, 3, 4, 5, 6] [_, _, _, _, _, _, _] (by decide) ⟨rfl, rfl, rfl, rfl, rfl, rfl, rfl, trivial⟩, ?hq12f0, ?hq12f1⟩⟩
        case hq12f0 => omega
        case hq12f1 => (intro x; rw [hes, lf1, Bool.or_false])
       ·rintro m7 a6 w52 ⟨s5, es5, rfl, he6, S54, hs5, hes5⟩
        clear S53
        refine ws_in he6 (c := Without_n107) rfl ?_
        clear he6 a6
        have hr5 := fun h => hrm (by omega) s5 h
        refine ws_seqN Without_n108 Without_n109 rfl rfl rfl (ws_region rfl (wlo 0 1 rfl rfl rfl (wo_run rfl rfl (run_lss rfl rfl rfl) (wl_end rfl (nm_thn (ws_seqN Without_n110 Without_n111 rfl rfl rfl ?_))))))
        refine ws_condN Without_n112 Without_n113 rfl rfl rfl rfl (fun hb123 => ?_) (fun hb123 => ?_)
        ·replace hb123 := of_decide_eq_true hb123
         refine ws_skip rfl (nmk [6, 7, 9, 10, 116, 117, 118, 19, 122] rfl (nm_thn (ws_seqN Without_n114 Without_n115 rfl rfl rfl (ws_blockN Without_n116 11 rfl rfl rfl (ws_seqN Without_n117 Without_n118 rfl rfl rfl (ws_region rfl (wlm 0 1 rfl rfl rfl rfl rfl rfl rfl (wla 1 2 rfl rfl rfl rfl rfl rfl rfl ?_))))))))
         refine wl_end rfl (nmk [6, 7, 9, 10, 116, 117, 118, 19, 122, 20] rfl (nm_thn ?_))
         have hrr := hr5 (by omega)
         refine ws_draw rfl (by kernel_rfl) S54 8 rfl ?_
         clear S54
         refine wap 0 7 rfl (by kernel_rfl) rfl rfl rfl (fun w53 => run_move rfl rfl) ?_
         refine wat 1 6 rfl (by kernel_rfl) rfl rfl rfl (fun M26 N26 w54 hle32 S56 => .inl (run_load1 rfl rfl Tryz.underlying53 rfl (S56.suf.boxc (i := 4) rfl rfl))) ?_
         refine wat 2 5 rfl (by kernel_rfl) rfl rfl rfl (fun M27 N27 w55 hle33 S57 => .inl (run_loadN (us := [_, _, _, _, _]) rfl rfl Tryz.underlying77 rfl sz77 (S57.suf.boxcs (i := 0) rfl ⟨rfl, rfl, rfl, rfl, rfl, trivial⟩))) ?_
         refine wap 3 4 rfl (by kernel_rfl) rfl rfl rfl (fun w56 => run_move rfl rfl) ?_
         refine wat 4 3 rfl (by kernel_rfl) rfl rfl rfl (fun M29 N29 w57 hle35 S59 => yield_cq rfl rfl rfl rfl rfl cf115 S59 (Arc_q (ga oc i4) s5 (by omega) S59.lend)) ?_
         refine wat 5 2 rfl (by kernel_rfl) rfl rfl rfl (fun M30 N30 w58 hle36 S60 => .inl (run_indexR (C := cdInt) (i := 5) ((crArc (ga oc i4) s5).toNat) rfl rfl rfl sl53 S60.suf rfl (by first | rfl | omega) (by first | omega | (simp only [lens]; omega)))) ?_
         refine wat 6 1 rfl (by kernel_rfl) rfl rfl rfl (fun M31 N31 w59 hle37 S61 => .inl (run_load1 rfl rfl Tryz.underlying3 rfl (S61.suf.rowc (i := 5) (e := (crArc (ga oc i4) s5).toNat) (j := 0) rfl (by first | omega | (simp only [lens]; omega)) rfl rfl))) ?_
         refine wa_only (i := 7) 0 rfl (by kernel_rfl) rfl rfl (fun w61 S63 => ?_)
         refine (wo_mapUpdate (kc := Value.int .i64) (vc := Value.bool) (es := es5) (k := (ga cl ((crArc (ga oc i4) s5).toNat))) (e := true) (i := 3) (H' := [_, _, _, _, _, _, _]) (.inl rfl) rfl S63 rfl rfl rfl rfl Tryz.underlying180 mk3 rfl ?_)
         intro w62 S64; clear S63
         refine LeftW.turn (by kernel_rfl) S64 ?_; clear S64
         change WA _ _ _ _ _ _ _ _ _ _ _ _ [_, _, _, _, _, _, _]
         refine wa_end (by kernel_rfl) (fun w63 S65 => ?_)
         refine nm_blk (nmk [6, 7, 9, 10, 116, 117, 118, 19, 122] rfl (nm_thn (ws_region rfl (wlo 0 1 rfl rfl rfl (wo_run rfl rfl (run_add rfl rfl rfl (by first | omega | (simp only [lens]; omega))) ?_)))))
         refine wlm 1 2 rfl rfl rfl rfl rfl rfl rfl (wl_end rfl (nm_lp ?_))
         intro ax_ hax_
         refine ⟨_, ?hq13m, ⟨s5 + 1, _, rfl, hax_.sub ⟨rfl, rfl, rfl, rfl, rfl, rfl, rfl, rfl, rfl, trivial⟩, S65.pick [0, 1, 2, 3, 4, 5, 6] [_, _, _, _, _, _, _] (by decide) ⟨rfl, rfl, rfl, rfl, rfl, rfl, rfl, trivial⟩, ?hq13f0, ?hq13f1⟩⟩
         case hq13f0 => omega
         case hq13f1 => (intro x; rw [mg_mp, lf1]; by_cases h9 : x = ga cl (crArc (ga oc i4) s5).toNat; (rw [if_pos h9]; simp [h9]); (rw [if_neg h9, hes5]; simp [h9]))
         case hq13m => omega
        ·replace hb123 := of_decide_eq_false hb123
         refine ws_exit rfl rfl (nm_blk (nmk [6, 7, 9, 10, 116, 117, 118] rfl (nm_thn (ws_region rfl (wlo 0 1 rfl rfl rfl (wo_run rfl rfl (run_add rfl rfl rfl (by first | omega | (simp only [lens]; omega))) ?_))))))
         refine wlm 1 2 rfl rfl rfl rfl rfl rfl rfl (wl_end rfl (nm_lp ?_))
         intro ax_ hax_
         refine ⟨_, ?hq14m, ⟨i4 + 1, _, rfl, hax_.sub ⟨rfl, rfl, rfl, rfl, rfl, rfl, rfl, trivial⟩, S54.pick [1, 2, 3, 4, 5, 6] [_, _, _, _, _, _] (by decide) ⟨rfl, rfl, rfl, rfl, rfl, rfl, trivial⟩, ?hq14f0, ?hq14f1⟩⟩
         case hq14f0 => omega
         case hq14f1 => (intro x; rw [hes5, take_ga oc i4 (by omega), lfL_snoc, show s5 = 4 by omega])
         case hq14m => omega
      ·replace hb119 := of_decide_eq_false hb119
       refine ws_exit rfl rfl (nmk [6, 7, 9, 10] rfl (nm_thn (ws_seqN Without_n119 Without_n120 rfl rfl rfl ?_)))
       obtain rfl : i4 = oc.length := by omega
       have hlf : ∀ x, (mg x es).getD false = lfL cl oc x := fun x => by rw [hes x, List.take_length]
       have hok : ∀ x, x < 2 * d.crs.length + 1 → 0 ≤ ga cl x ∧ ga cl x ≤ x ∧ ga cl (ga cl x).toNat = ga cl x := by rw [hclf]; exact (smN_ok hab hk 2 (Nat.le_refl _)).2
       refine ws_region rfl (wlo 0 1 rfl rfl rfl (wo_run rfl rfl (run_load1 rfl rfl Tryz.underlying53 rfl (S51.boxc (i := 3) rfl rfl)) (wlo 1 2 rfl rfl rfl (wo_run rfl rfl (run_lenR (C := cdInt) (i := 4) rfl rfl rfl rfl rfl rfl sl53 S51 rfl) (wlo 2 3 rfl rfl rfl (wo_make (C := cdInt) cl.length rfl rfl rfl rfl rfl sl53 (by first | rfl | omega) (by show _ * 8 ≤ _; first | omega | (simp only [lens]; omega)) S51 ?_))))))
       intro vr3 w64 S66; clear S51
       refine wlo 3 4 rfl rfl rfl (wo_alloc (l := [_]) rfl rfl rfl zr53 rfl S66 ?_)
       intro gb8 w65 S67; clear S66
       refine wlo 4 5 rfl rfl rfl (wo_storeB (i := 0) (us := [_]) (l' := [_]) (H' := [_, _, _, _, _, _, _, _]) rfl rfl S67 rfl rfl rfl (S67.cells1 (i := 1) rfl) sz53 rfl (ones_cons (S67.one (i := 1) rfl) rfl) rfl rfl ?_)
       intro w66 S68; clear S67
       refine wl_end rfl (nmk [6, 7, 9, 10, 21] rfl (nm_thn (ws_seqN Without_n121 Without_n122 rfl rfl rfl (ws_region rfl (wla 0 1 rfl rfl rfl rfl rfl rfl rfl (wl_end rfl (nm_thn (ws_seqN Without_n123 Without_n124 rfl rfl rfl ?_))))))))
       refine ws_seqN Without_n125 Without_n126 rfl rfl rfl ?_
       have hz0 : d.loops + (cn (loB2 cl oc) (0 + 1) : Int) = d.loops := by rw [show cn (loB2 cl oc) (0 + 1) = 0 from rfl]; omega
       rw [← hz0] at S68
       refine ws_region rfl (wla 0 1 rfl rfl rfl rfl rfl rfl rfl (wl_end rfl (nm_thn (ws_blockN Without_n127 12 rfl rfl rfl ?_))))
       refine ws_loopE (fun mx_ ax_ wx_ => ∃ (a6 : Nat) (nu : List Int) (vrn : Value), mx_ = 2 * d.crs.length - a6 ∧ Env 198 [(6, .pointer (some ⟨gb1, 0, none⟩)), (7, .pointer (some ⟨gb2, 0, none⟩)), (9, .map (some gm2)), (10, .pointer (some ⟨gb3, 0, none⟩)), (21, .pointer (some ⟨gb8, 0, none⟩)), (22, .int .i64 (cn (rtB2 cl oc) (a6 + 1) : Int)), (23, .int .i64 ((a6 + 1 : Nat) : Int))] ax_ ∧ SH wx_ M X [Rs.box gb8 53 [vrn], Rs.row cdInt vrn nu, Rs.row cdCr vro oc, Rs.box gb3 24 [vro, .int .i64 (d.loops + (cn (loB2 cl oc) (a6 + 1) : Int))], Rs.mp (Value.int .i64) Value.bool gm2 es, Rs.box gb2 53 [vrc], Rs.row cdInt vrc cl, Rs.box gb1 24 [.slice none 0 0, .int .i64 0]] ∧ a6 ≤ 2 * d.crs.length ∧ nu.length = 2 * d.crs.length + 1 ∧ (∀ x, x < a6 + 1 → rtB2 cl oc x = true → ga nu x = (cn (rtB2 cl oc) (x + 1) : Int))) rfl ?_ ?_
       ·intro ax_ hax_
        refine ⟨_, ⟨0, _, _, rfl, hax_.sub ⟨rfl, rfl, rfl, rfl, rfl, rfl, rfl, trivial⟩, S68.pick [0, 1, 2, 3, 4, 5, 6, 7] [_, _, _, _, _, _, _, _] (by decide) ⟨rfl, rfl, rfl, rfl, rfl, rfl, rfl, rfl, trivial⟩, ?hq15f0, ?hq15f1, ?hq15f2⟩⟩
        case hq15f0 => omega
        case hq15f1 => (rw [List.length_replicate]; omega)
        case hq15f2 => (intro x hx h9; obtain rfl : x = 0 := (by omega); cases h9)
       ·rintro m8 a7 w67 ⟨a6, nu, vrn, rfl, he7, S69, ha6, hnl, hnu⟩
        clear S68
        refine ws_in he7 (c := Without_n128) rfl ?_
        clear he7 a7
        have hcn1 := cn_le (rtB2 cl oc) (a6 + 1)
        have hcn2 := cn_le (loB2 cl oc) (a6 + 1)
        have hok6 := fun h => hok (a6 + 1) h
        refine ws_seqN Without_n129 Without_n130 rfl rfl rfl (ws_seqN Without_n131 Without_n132 rfl rfl rfl (ws_region rfl (wlm 0 1 rfl rfl rfl rfl rfl rfl rfl (wlo 1 2 rfl rfl rfl (wo_run rfl rfl (run_load1 rfl rfl Tryz.underlying53 rfl (S69.boxc (i := 5) rfl rfl)) (wlo 2 3 rfl rfl rfl (wo_run rfl rfl (run_lenR (C := cdInt) (i := 6) rfl rfl rfl rfl rfl rfl sl53 S69 rfl) (wlo 3 4 rfl rfl rfl (wo_run rfl rfl (run_lss rfl rfl rfl) (wl_end rfl (nmk [6, 7, 9, 10, 21, 22, 23, 140] rfl ?_)))))))))))
        refine nm_thn ?_
        refine ws_condN Without_n133 Without_n134 rfl rfl rfl rfl (fun hb140 => ?_) (fun hb140 => ?_)
        ·replace hb140 := of_decide_eq_true hb140
         refine ws_skip rfl (nmk [6, 7, 9, 10, 21, 22, 23] rfl (nm_thn (ws_seqN Without_n135 Without_n136 rfl rfl rfl (ws_blockN Without_n137 13 rfl rfl rfl (ws_blockN Without_n138 14 rfl rfl rfl (ws_seqN Without_n139 Without_n140 rfl rfl rfl (ws_region rfl (wlo 0 1 rfl rfl rfl (wo_run rfl rfl (run_load1 rfl rfl Tryz.underlying53 rfl (S69.boxc (i := 5) rfl rfl)) ?_)))))))))
         refine wlm 1 2 rfl rfl rfl rfl rfl rfl rfl (wlo 2 3 rfl rfl rfl (wo_run rfl rfl (run_indexR (C := cdInt) (i := 6) (a6 + 1) rfl rfl rfl sl53 S69 rfl (by first | rfl | omega) (by first | omega | (simp only [lens]; omega))) ?_))
         refine wlo 3 4 rfl rfl rfl (wo_run rfl rfl (run_load1 rfl rfl Tryz.underlying3 rfl (S69.rowc (i := 6) (e := a6 + 1) (j := 0) rfl (by first | omega | (simp only [lens]; omega)) rfl rfl)) ?_)
         refine wlm 4 5 rfl rfl rfl rfl rfl rfl rfl (wlo 5 6 rfl rfl rfl (wo_run rfl rfl (run_neq rfl rfl rfl) (wla 6 7 rfl rfl rfl rfl rfl rfl rfl (wl_end rfl (nmk [6, 7, 9, 10, 21, 22, 23, 147] rfl (nm_thn ?_))))))
         refine ws_condN Without_n141 Without_n142 rfl rfl rfl rfl (fun hb147 => ?_) (fun hb147 => ?_)
         ·replace hb147 := of_decide_eq_true hb147
          have hrt : rtB2 cl oc (a6 + 1) = false := by unfold rtB2; rw [decide_eq_false (show ¬ ga cl (a6 + 1) = ((a6 + 1 : Nat) : Int) from hb147)]; simp
          have hlo : loB2 cl oc (a6 + 1) = false := by unfold loB2; rw [decide_eq_false (show ¬ ga cl (a6 + 1) = ((a6 + 1 : Nat) : Int) from hb147)]; simp
          refine ws_skip rfl (nm_blk (nm_blk (nmk [6, 7, 9, 10, 21, 22, 23] rfl (nm_thn (ws_eq 22 (.int .i64 (cn (rtB2 cl oc) (a6 + 1 + 1) : Int)) rfl (int_eq (by rw [cn_no hrt])) ?_)))))
          rw [← cn_no hlo] at S69
          refine ws_region rfl (wlm 0 1 rfl rfl rfl rfl rfl rfl rfl (wlo 1 2 rfl rfl rfl (wo_run rfl rfl (run_add rfl rfl rfl (by first | omega | (simp only [lens]; omega))) ?_)))
          refine wla 2 3 rfl rfl rfl rfl rfl rfl rfl (wl_end rfl (nm_lp ?_))
          intro ax_ hax_
          refine ⟨_, ?hq16m, ⟨a6 + 1, _, _, rfl, hax_.sub ⟨rfl, rfl, rfl, rfl, rfl, rfl, rfl, trivial⟩, S69.pick [0, 1, 2, 3, 4, 5, 6, 7] [_, _, _, _, _, _, _, _] (by decide) ⟨rfl, rfl, rfl, rfl, rfl, rfl, rfl, rfl, trivial⟩, ?hq16f0, ?hq16f1, ?hq16f2⟩⟩
          case hq16f0 => omega
          case hq16f1 => first | assumption | simpa using hnl
          case hq16f2 => first | (intro x hx h9; by_cases e : x = a6 + 1; (subst e; rw [ga_set _ _ _ _ (by omega), if_pos rfl]); (rw [ga_set _ _ _ _ (by omega), if_neg (fun h => e h.symm)]; exact hnu x (by omega) h9)) | (intro x hx h9; by_cases e : x = a6 + 1; (subst e; rw [hrt] at h9; cases h9); exact hnu x (by omega) h9)
          case hq16m => omega
         ·replace hb147 := of_decide_eq_false hb147
          refine ws_seqN Without_n143 Without_n144 rfl rfl rfl (ws_region rfl (wlm 0 1 rfl rfl rfl rfl rfl rfl rfl (wlm 1 2 rfl rfl rfl rfl rfl rfl rfl (wlo 2 3 rfl rfl rfl (wo_run rfl rfl (run_lookup (kc := Value.int .i64) (vc := Value.bool) (es := es) (k := ((a6 + 1 : Nat) : Int)) (zv := false) (i := 4) rfl rfl rfl Tryz.underlying180 mk3 zr4 S69 rfl) (wla 3 4 rfl rfl rfl rfl rfl rfl rfl (wl_end rfl (nmk [6, 7, 9, 10, 21, 22, 23, 154] rfl (nm_thn ?_)))))))))
          refine ws_condN Without_n145 Without_n146 rfl rfl rfl rfl (fun hb154 => ?_) (fun hb154 => ?_)
          ·have hlx := hlf ((a6 + 1 : Nat) : Int)
           have hrt : rtB2 cl oc (a6 + 1) = true := by unfold rtB2; rw [decide_eq_true (show ga cl (a6 + 1) = ((a6 + 1 : Nat) : Int) by omega), ← hlx]; simp; exact hb154
           have hlo : loB2 cl oc (a6 + 1) = false := by unfold loB2; rw [← hlx]; simp; intro _; exact hb154
           refine ws_seqN Without_n147 Without_n148 rfl rfl rfl (ws_region rfl (wlm 0 1 rfl rfl rfl rfl rfl rfl rfl (wlo 1 2 rfl rfl rfl (wo_run rfl rfl (run_add rfl rfl rfl (by first | omega | (simp only [lens]; omega))) ?_))))
           refine wla 2 3 rfl rfl rfl rfl rfl rfl rfl (wl_end rfl (nmk [6, 7, 9, 10, 21, 22, 23] rfl (nm_thn (ws_eq 22 (.int .i64 (cn (rtB2 cl oc) (a6 + 1 + 1) : Int)) rfl (int_eq (by rw [cn_yes hrt]; omega)) ?_))))
           refine ws_region rfl (wlo 0 1 rfl rfl rfl (wo_run rfl rfl (run_load1 rfl rfl Tryz.underlying53 rfl (S69.boxc (i := 0) rfl rfl)) (wlm 1 2 rfl rfl rfl rfl rfl rfl rfl (wlm 2 3 rfl rfl rfl rfl rfl rfl rfl (wlo 3 4 rfl rfl rfl (wo_run rfl rfl (run_indexR (C := cdInt) (i := 1) (a6 + 1) rfl rfl rfl sl53 S69 rfl (by first | rfl | omega) (by first | omega | (simp only [lens]; omega))) ?_))))))
           refine wlo 4 5 rfl rfl rfl (wo_storeR (C := cdInt) (i := 1) (e := a6 + 1) (j := 0) (us := [_]) (H' := [_, _, _, _, _, _, _, _]) (cn (rtB2 cl oc) (a6 + 1 + 1) : Int) rfl rfl S69 rfl (by first | omega | (simp only [lens]; omega)) rfl rfl rfl sz3 rfl rfl rfl rfl ?_)
           intro w68 S70; clear S69
           refine wl_end rfl (nm_blk (nm_blk (nmk [6, 7, 9, 10, 21, 22, 23] rfl (nm_thn ?_))))
           rw [← cn_no hlo] at S70
           refine ws_region rfl (wlm 0 1 rfl rfl rfl rfl rfl rfl rfl (wlo 1 2 rfl rfl rfl (wo_run rfl rfl (run_add rfl rfl rfl (by first | omega | (simp only [lens]; omega))) ?_)))
           refine wla 2 3 rfl rfl rfl rfl rfl rfl rfl (wl_end rfl (nm_lp ?_))
           intro ax_ hax_
           refine ⟨_, ?hq17m, ⟨a6 + 1, _, _, rfl, hax_.sub ⟨rfl, rfl, rfl, rfl, rfl, rfl, rfl, trivial⟩, S70.pick [0, 1, 2, 3, 4, 5, 6, 7] [_, _, _, _, _, _, _, _] (by decide) ⟨rfl, rfl, rfl, rfl, rfl, rfl, rfl, rfl, trivial⟩, ?hq17f0, ?hq17f1, ?hq17f2⟩⟩
           case hq17f0 => omega
           case hq17f1 => first | assumption | simpa using hnl
           case hq17f2 => first | (intro x hx h9; by_cases e : x = a6 + 1; (subst e; rw [ga_set _ _ _ _ (by omega), if_pos rfl]); (rw [ga_set _ _ _ _ (by omega), if_neg (fun h => e h.symm)]; exact hnu x (by omega) h9)) | (intro x hx h9; by_cases e : x = a6 + 1; (subst e; rw [hrt] at h9; cases h9); exact hnu x (by omega) h9)
           case hq17m => omega
          ·have hlx := hlf ((a6 + 1 : Nat) : Int)
           have hrt : rtB2 cl oc (a6 + 1) = false := by unfold rtB2; rw [← hlx]; simp; intro _; exact hb154
           have hlo : loB2 cl oc (a6 + 1) = true := by unfold loB2; rw [decide_eq_true (show ga cl (a6 + 1) = ((a6 + 1 : Nat) : Int) by omega), ← hlx]; simp; exact hb154
           refine ws_region rfl (wlo 0 1 rfl rfl rfl (wo_run rfl rfl (run_fieldAddr rfl rfl Tryz.underlying24 rfl (ce3) (nf3)) (wlo 1 2 rfl rfl rfl (wo_run rfl rfl (run_load1 rfl rfl Tryz.underlying3 rfl (S69.boxc (i := 3) rfl rfl)) (wlo 2 3 rfl rfl rfl (wo_run rfl rfl (run_add rfl rfl rfl (by first | omega | (simp only [lens]; omega))) ?_))))))
           refine wlo 3 4 rfl rfl rfl (wo_run rfl rfl (run_fieldAddr rfl rfl Tryz.underlying24 rfl (ce3) (nf3)) (wlo 4 5 rfl rfl rfl (wo_storeB (i := 3) (us := [_]) (l' := [_, _]) (H' := [_, _, _, _, _, _, _, _]) rfl rfl S69 rfl rfl rfl rfl sz3 rfl rfl rfl rfl ?_)))
           intro w69 S71; clear S69
           refine wl_end rfl (nm_blk (nm_blk (nmk [6, 7, 9, 10, 21, 22, 23] rfl (nm_thn (ws_eq 22 (.int .i64 (cn (rtB2 cl oc) (a6 + 1 + 1) : Int)) rfl (int_eq (by rw [cn_no hrt])) ?_)))))
           rw [cast_add, ← cn_yes hlo] at S71
           refine ws_region rfl (wlm 0 1 rfl rfl rfl rfl rfl rfl rfl (wlo 1 2 rfl rfl rfl (wo_run rfl rfl (run_add rfl rfl rfl (by first | omega | (simp only [lens]; omega))) ?_)))
           refine wla 2 3 rfl rfl rfl rfl rfl rfl rfl (wl_end rfl (nm_lp ?_))
           intro ax_ hax_
           refine ⟨_, ?hq18m, ⟨a6 + 1, _, _, rfl, hax_.sub ⟨rfl, rfl, rfl, rfl, rfl, rfl, rfl, trivial⟩, S71.pick [0, 1, 2, 3, 4, 5, 6, 7] [_, _, _, _, _, _, _, _] (by decide) ⟨rfl, rfl, rfl, rfl, rfl, rfl, rfl, rfl, trivial⟩, ?hq18f0, ?hq18f1, ?hq18f2⟩⟩
           case hq18f0 => omega
           case hq18f1 => first | assumption | simpa using hnl
           case hq18f2 => first | (intro x hx h9; by_cases e : x = a6 + 1; (subst e; rw [ga_set _ _ _ _ (by omega), if_pos rfl]); (rw [ga_set _ _ _ _ (by omega), if_neg (fun h => e h.symm)]; exact hnu x (by omega) h9)) | (intro x hx h9; by_cases e : x = a6 + 1; (subst e; rw [hrt] at h9; cases h9); exact hnu x (by omega) h9)
           case hq18m => omega
        ·replace hb140 := of_decide_eq_false hb140
         refine ws_exit rfl rfl (nmk [6, 7, 10, 21] rfl (nm_thn (ws_seqN Without_n149 Without_n150 rfl rfl rfl ?_)))
         obtain rfl : a6 = 2 * d.crs.length := by omega
         obtain ⟨M33, hle40, S72, ⟨A1, c1, e1, hr1⟩⟩ := S69.pubrow (i := 1) (H' := [_, _, _, _, _, _, _, _]) rfl rfl (by show _ * 8 ≤ _; first | omega | (simp only [lens]; omega))
         clear S69; subst e1
         replace hsb := hsb.mono (Hp.un_mono hle40 S72.mx)
         replace hsc := hsc.mono (Hp.un_mono hle40 S72.mx)
         replace hsi := hsi.mono (Hp.un_mono hle40 S72.mx)
         replace hso := hso.mono (Hp.un_mono hle40 S72.mx)
         replace hgone := hgone.mono (Hp.un_mono hle40 S72.mx)
         obtain ⟨M34, hle41, S73, ⟨A2, c2, e2, hr2⟩⟩ := S72.pubrow (i := 6) (H' := [_, _, _, _, _, _, _, _]) rfl rfl (by show _ * 8 ≤ _; first | omega | (simp only [lens]; omega))
         clear S72; subst e2
         replace hsb := hsb.mono (Hp.un_mono hle41 S73.mx)
         replace hsc := hsc.mono (Hp.un_mono hle41 S73.mx)
         replace hsi := hsi.mono (Hp.un_mono hle41 S73.mx)
         replace hso := hso.mono (Hp.un_mono hle41 S73.mx)
         replace hgone := hgone.mono (Hp.un_mono hle41 S73.mx)
         replace hr1 := hr1.mono hle41
         refine ws_region rfl (wlo 0 1 rfl rfl rfl (wo_run rfl rfl (run_makeFunc (vs := [_, _]) rfl rfl rfl rfl) (wla 1 2 rfl rfl rfl rfl rfl rfl rfl (wl_end rfl (nmk [6, 10, 24] rfl (nm_thn (ws_seqN Without_n151 Without_n152 rfl rfl rfl (ws_seqN Without_n153 Without_n154 rfl rfl rfl (ws_region rfl ?_)))))))))
         refine wlo 0 1 rfl rfl rfl (wo_run rfl rfl (run_fieldAddr rfl rfl Tryz.underlying24 rfl (ce22) (nf22)) (wlo 1 2 rfl rfl rfl (wo_run rfl rfl (run_load1 rfl rfl Tryz.underlying22 rfl (S73.boxc (i := 3) rfl rfl)) (wlo 2 3 rfl rfl rfl (wo_run rfl rfl (run_lenR (C := cdCr) (i := 2) rfl rfl rfl rfl rfl rfl sl22 S73 rfl) (wlm 3 4 rfl rfl rfl rfl rfl rfl rfl (wl_end rfl (nmk [6, 10, 24, 166, 167, 168] rfl (nm_thn (ws_blockN Without_n155 15 rfl rfl rfl ?_))))))))))
         refine ws_loopE (fun mx_ ax_ wx_ => ∃ (i7 : Nat) (c7 : List Cr) (vr7 : Value), mx_ = oc.length - i7 ∧ Env 198 [(6, .pointer (some ⟨gb1, 0, none⟩)), (10, .pointer (some ⟨gb3, 0, none⟩)), (24, .func (.func 137) #[] [.pointer (some ⟨gb8, 0, none⟩), .pointer (some ⟨gb2, 0, none⟩)].toArray), (166, vr7), (167, .int .i64 (oc.length : Int)), (168, .int .i64 (i7 : Int))] ax_ ∧ SH wx_ M34 X [Rs.box gb8 53 [.slice A1 nu.length c1], Rs.row cdCr vr7 c7, Rs.box gb3 24 [vr7, .int .i64 (d.loops + (cn (loB2 cl oc) (2 * d.crs.length + 1) : Int))], Rs.box gb2 53 [.slice A2 cl.length c2], Rs.box gb1 24 [.slice none 0 0, .int .i64 0]] ∧ i7 ≤ oc.length ∧ c7 = (oc.take i7).map (nuC cl oc) ++ oc.drop i7) rfl ?_ ?_
         ·intro ax_ hax_
          refine ⟨_, ⟨0, _, _, rfl, hax_.sub ⟨rfl, rfl, rfl, rfl, rfl, rfl, trivial⟩, S73.pick [0, 2, 3, 5, 7] [_, _, _, _, _] (by decide) ⟨rfl, rfl, rfl, rfl, rfl, trivial⟩, ?hq19f0, ?hq19f1⟩⟩
          case hq19f0 => omega
          case hq19f1 => simp
         ·rintro m9 a8 w70 ⟨i7, c7, vr7, rfl, he8, S74, hi7, hc7⟩
          clear S73
          refine ws_in he8 (c := Without_n156) rfl ?_
          clear he8 a8
          have hc7l : c7.length = oc.length := by rw [hc7]; simp; omega
          refine ws_seqN Without_n157 Without_n158 rfl rfl rfl (ws_region rfl (wlo 0 1 rfl rfl rfl (wo_run rfl rfl (run_lss rfl rfl rfl) (wl_end rfl (nm_thn (ws_seqN Without_n159 Without_n160 rfl rfl rfl ?_))))))
          refine ws_condN Without_n161 Without_n162 rfl rfl rfl rfl (fun hb169 => ?_) (fun hb169 => ?_)
          ·replace hb169 := of_decide_eq_true hb169
           have hmem7 : ga oc i7 ∈ remL d k := by rw [← hocf]; exact ga_mem (by omega)
           have hx7 := seven_ga hc7 (by omega)
           have hside0 : 1 ≤ (ga oc i7).a ∧ (ga oc i7).a ≤ 2 * (d.crs.length : Int) := rem_arc hab (Nat.le_refl _) hmem7 (s := 0) (by omega)
           obtain ⟨hoo0, hpp0, _⟩ := hok (ga oc i7).a.toNat (by omega)
           have hside1 : 1 ≤ (ga oc i7).b ∧ (ga oc i7).b ≤ 2 * (d.crs.length : Int) := rem_arc hab (Nat.le_refl _) hmem7 (s := 1) (by omega)
           obtain ⟨hoo1, hpp1, _⟩ := hok (ga oc i7).b.toNat (by omega)
           have hside2 : 1 ≤ (ga oc i7).c ∧ (ga oc i7).c ≤ 2 * (d.crs.length : Int) := rem_arc hab (Nat.le_refl _) hmem7 (s := 2) (by omega)
           obtain ⟨hoo2, hpp2, _⟩ := hok (ga oc i7).c.toNat (by omega)
           have hside3 : 1 ≤ (ga oc i7).d ∧ (ga oc i7).d ≤ 2 * (d.crs.length : Int) := rem_arc hab (Nat.le_refl _) hmem7 (s := 3) (by omega)
           obtain ⟨hoo3, hpp3, _⟩ := hok (ga oc i7).d.toNat (by omega)
           have hnv : ∀ s, s < 4 → ga nu (ga cl (crArc (ga oc i7) s).toNat).toNat = nuA cl oc (crArc (ga oc i7) s) := fun s hs => by
            have := rem_nu hab hk (nu := nu) (by rw [← hclf, ← hocf]; exact hnu) hmem7 hs
            rw [← hclf, ← hocf] at this
            exact this
           refine ws_skip rfl (nmk [6, 10, 24, 166, 167, 168] rfl (nm_thn (ws_seqN Without_n163 Without_n164 rfl rfl rfl (ws_blockN Without_n165 16 rfl rfl rfl (ws_seqN Without_n166 Without_n167 rfl rfl rfl (ws_region rfl (wlm 0 1 rfl rfl rfl rfl rfl rfl rfl (wlo 1 2 rfl rfl rfl (wo_run rfl rfl (run_indexR (C := cdCr) (i := 1) i7 rfl rfl rfl sl22 S74 rfl (by first | rfl | omega) (by first | omega | (simp only [lens]; omega))) ?_)))))))))
           refine wlo 2 3 rfl rfl rfl (wo_run rfl rfl (run_loadN (us := [_, _, _, _, _]) rfl rfl Tryz.underlying77 rfl sz77 (S74.rowcs (i := 1) (e := i7) (j := 0) rfl (by first | omega | (simp only [lens]; omega)) ⟨rfl, rfl, rfl, rfl, rfl, trivial⟩)) ?_)
           refine wl_eq 172 (.agg [.int .i64 ((ga oc i7).a), .int .i64 ((ga oc i7).b), .int .i64 ((ga oc i7).c), .int .i64 ((ga oc i7).d), .bool ((ga oc i7).plus)].toArray) rfl (by rw [hx7]) ?_
           refine wlo 3 4 rfl rfl rfl (wo_alloc (l := [_, _, _, _, _]) rfl rfl rfl zr77 rfl S74 ?_)
           intro gb9 w71 S75; clear S74
           refine wla 4 5 rfl rfl rfl rfl rfl rfl rfl (wlo 5 6 rfl rfl rfl (wo_storeB (i := 0) (us := [_, _, _, _, _]) (l' := [_, _, _, _, _]) (H' := [_, _, _, _, _, _]) rfl rfl S75 rfl rfl rfl rfl sz77 rfl rfl rfl rfl ?_))
           intro w72 S76; clear S75
           refine wl_end rfl (nmk [6, 10, 24, 166, 167, 168, 26, 25] rfl (nm_thn (ws_draw rfl (by kernel_rfl) S76 24 rfl ?_)))
           clear S76
           refine wap 0 23 rfl (by kernel_rfl) rfl rfl rfl (fun w73 => run_fieldAddr rfl rfl Tryz.underlying24 rfl (ce22) (nf22)) ?_
           refine wat 1 22 rfl (by kernel_rfl) rfl rfl rfl (fun M36 N34 w74 hle44 S78 => .inl (run_load1 rfl rfl Tryz.underlying22 rfl (S78.suf.boxc (i := 3) rfl rfl))) ?_
           refine wap 2 21 rfl (by kernel_rfl) rfl rfl rfl (fun w75 => run_move rfl rfl) ?_
           refine wap 3 20 rfl (by kernel_rfl) rfl rfl rfl (fun w76 => run_move rfl rfl) ?_
           refine wap 4 19 rfl (by kernel_rfl) rfl rfl rfl (fun w77 => run_fieldAddr rfl rfl Tryz.underlying77 rfl (ce3) (nf3)) ?_
           refine wat 5 18 rfl (by kernel_rfl) rfl rfl rfl (fun M40 N38 w78 hle48 S82 => .inl (run_load1 rfl rfl Tryz.underlying3 rfl (S82.suf.boxc (i := 0) rfl rfl))) ?_
           refine wat 6 17 rfl (by kernel_rfl) rfl rfl rfl (fun M41 N39 w79 hle49 S83 => yield_cqF rfl rfl rfl rfl rfl cf137 S83 (WAt_q ((ga oc i7).a) nu cl (SH.boxMs (i := 1) S83 rfl) ((hr1.mono hle49).mono (Hp.le_un _ _)) (SH.boxMs (i := 4) S83 rfl) ((hr2.mono hle49).mono (Hp.le_un _ _)) (by omega) (by omega) S83.lend)) ?_
           refine wap 7 16 rfl (by kernel_rfl) rfl rfl rfl (fun w80 => run_move rfl rfl) ?_
           refine wap 8 15 rfl (by kernel_rfl) rfl rfl rfl (fun w81 => run_fieldAddr rfl rfl Tryz.underlying77 rfl (ce3) (nf3)) ?_
           refine wat 9 14 rfl (by kernel_rfl) rfl rfl rfl (fun M44 N42 w82 hle52 S86 => .inl (run_load1 rfl rfl Tryz.underlying3 rfl (S86.suf.boxc (i := 0) rfl rfl))) ?_
           refine wat 10 13 rfl (by kernel_rfl) rfl rfl rfl (fun M45 N43 w83 hle53 S87 => yield_cqF rfl rfl rfl rfl rfl cf137 S87 (WAt_q ((ga oc i7).b) nu cl (SH.boxMs (i := 1) S87 rfl) ((hr1.mono hle53).mono (Hp.le_un _ _)) (SH.boxMs (i := 4) S87 rfl) ((hr2.mono hle53).mono (Hp.le_un _ _)) (by omega) (by omega) S87.lend)) ?_
           refine wap 11 12 rfl (by kernel_rfl) rfl rfl rfl (fun w84 => run_move rfl rfl) ?_
           refine wap 12 11 rfl (by kernel_rfl) rfl rfl rfl (fun w85 => run_fieldAddr rfl rfl Tryz.underlying77 rfl (ce3) (nf3)) ?_
           refine wat 13 10 rfl (by kernel_rfl) rfl rfl rfl (fun M48 N46 w86 hle56 S90 => .inl (run_load1 rfl rfl Tryz.underlying3 rfl (S90.suf.boxc (i := 0) rfl rfl))) ?_
           refine wat 14 9 rfl (by kernel_rfl) rfl rfl rfl (fun M49 N47 w87 hle57 S91 => yield_cqF rfl rfl rfl rfl rfl cf137 S91 (WAt_q ((ga oc i7).c) nu cl (SH.boxMs (i := 1) S91 rfl) ((hr1.mono hle57).mono (Hp.le_un _ _)) (SH.boxMs (i := 4) S91 rfl) ((hr2.mono hle57).mono (Hp.le_un _ _)) (by omega) (by omega) S91.lend)) ?_
           refine wap 15 8 rfl (by kernel_rfl) rfl rfl rfl (fun w88 => run_move rfl rfl) ?_
           refine wap 16 7 rfl (by kernel_rfl) rfl rfl rfl (fun w89 => run_fieldAddr rfl rfl Tryz.underlying77 rfl (ce3) (nf3)) ?_
           refine wat 17 6 rfl (by kernel_rfl) rfl rfl rfl (fun M52 N50 w90 hle60 S94 => .inl (run_load1 rfl rfl Tryz.underlying3 rfl (S94.suf.boxc (i := 0) rfl rfl))) ?_
           refine wat 18 5 rfl (by kernel_rfl) rfl rfl rfl (fun M53 N51 w91 hle61 S95 => yield_cqF rfl rfl rfl rfl rfl cf137 S95 (WAt_q ((ga oc i7).d) nu cl (SH.boxMs (i := 1) S95 rfl) ((hr1.mono hle61).mono (Hp.le_un _ _)) (SH.boxMs (i := 4) S95 rfl) ((hr2.mono hle61).mono (Hp.le_un _ _)) (by omega) (by omega) S95.lend)) ?_
           refine wap 19 4 rfl (by kernel_rfl) rfl rfl rfl (fun w92 => run_fieldAddr rfl rfl Tryz.underlying77 rfl (ce4) (nf4)) ?_
           refine wat 20 3 rfl (by kernel_rfl) rfl rfl rfl (fun M55 N53 w93 hle63 S97 => .inl (run_load1 rfl rfl Tryz.underlying4 rfl (S97.suf.boxc (i := 0) rfl rfl))) ?_
           refine wat 21 2 rfl (by kernel_rfl) rfl rfl rfl (fun M56 N54 w94 hle64 S98 => .inl (run_build (l := [_, _, _, _, _]) rfl rfl st77 rfl rfl)) ?_
           refine wat 22 1 rfl (by kernel_rfl) rfl rfl rfl (fun M57 N55 w95 hle65 S99 => .inl (run_indexR (C := cdCr) (i := 2) i7 rfl rfl rfl sl22 S99.suf rfl (by first | rfl | omega) (by first | omega | (simp only [lens]; omega)))) ?_
           refine wa_only (i := 23) 0 rfl (by kernel_rfl) rfl rfl (fun w97 S101 => ?_)
           refine (wo_storeR (C := cdCr) (i := 2) (e := i7) (j := 0) (us := [_, _, _, _, _]) (H' := [_, _, _, _, _, _]) (⟨ga nu (ga cl ((ga oc i7).a).toNat).toNat, ga nu (ga cl ((ga oc i7).b).toNat).toNat, ga nu (ga cl ((ga oc i7).c).toNat).toNat, ga nu (ga cl ((ga oc i7).d).toNat).toNat, (ga oc i7).plus⟩ : Cr) rfl rfl S101 rfl (by first | omega | (simp only [lens]; omega)) rfl rfl rfl sz77 rfl rfl rfl rfl ?_)
           intro w98 S102; clear S101
           refine LeftW.turn (by kernel_rfl) S102 ?_; clear S102
           change WA _ _ _ _ _ _ _ _ _ _ _ _ [_, _, _, _, _, _]
           refine wa_end (by kernel_rfl) (fun w99 S103 => ?_)
           refine nm_blk (nmk [6, 10, 24, 166, 167, 168] rfl (nm_thn (ws_region rfl (wlo 0 1 rfl rfl rfl (wo_run rfl rfl (run_add rfl rfl rfl (by first | omega | (simp only [lens]; omega))) ?_)))))
           refine wlm 1 2 rfl rfl rfl rfl rfl rfl rfl (wl_end rfl (nm_lp ?_))
           intro ax_ hax_
           refine ⟨_, ?hq20m, ⟨i7 + 1, _, _, rfl, hax_.sub ⟨rfl, rfl, rfl, rfl, rfl, rfl, trivial⟩, S103.pick [1, 2, 3, 4, 5] [_, _, _, _, _] (by decide) ⟨rfl, rfl, rfl, rfl, rfl, trivial⟩, ?hq20f0, ?hq20f1⟩⟩
           case hq20f0 => omega
           case hq20f1 => (refine seven hc7 (by omega) ?_; show (⟨ga nu (ga cl (crArc (ga oc i7) 0).toNat).toNat, ga nu (ga cl (crArc (ga oc i7) 1).toNat).toNat, ga nu (ga cl (crArc (ga oc i7) 2).toNat).toNat, ga nu (ga cl (crArc (ga oc i7) 3).toNat).toNat, (ga oc i7).plus⟩ : Cr) = _; rw [hnv 0 (by omega), hnv 1 (by omega), hnv 2 (by omega), hnv 3 (by omega)]; rfl)
           case hq20m => omega
          ·replace hb169 := of_decide_eq_false hb169
           refine ws_exit rfl rfl (nmk [6, 10] rfl (nm_thn (ws_seqN Without_n168 Without_n169 rfl rfl rfl (ws_region rfl (wlo 0 1 rfl rfl rfl (wo_run rfl rfl (run_loadN (us := [_, _]) rfl rfl Tryz.underlying24 rfl sz24 (S74.boxcs (i := 2) rfl ⟨rfl, rfl, trivial⟩)) (wlo 1 2 rfl rfl rfl (wo_storeB (i := 4) (us := [_, _]) (l' := [_, _]) (H' := [_, _, _, _, _]) rfl rfl S74 rfl rfl rfl rfl sz24 rfl (ones_cons (S74.one (i := 1) rfl) (ones_cons rfl rfl)) rfl rfl ?_))))))))
           intro w100 S104; clear S74
           refine wl_end rfl (nmk [6] rfl (nm_thn ?_))
           obtain ⟨M59, hle67, S105, ⟨A3, c3, e3, hr3⟩⟩ := S104.pubrow (i := 1) (H' := [_, _, _, _, _]) rfl rfl (by show _ * 40 ≤ _; first | omega | (simp only [lens]; omega))
           clear S104; subst e3
           replace hsb := hsb.mono (Hp.un_mono hle67 S105.mx)
           replace hsc := hsc.mono (Hp.un_mono hle67 S105.mx)
           replace hsi := hsi.mono (Hp.un_mono hle67 S105.mx)
           replace hso := hso.mono (Hp.un_mono hle67 S105.mx)
           replace hgone := hgone.mono (Hp.un_mono hle67 S105.mx)
           replace hr1 := hr1.mono hle67
           replace hr2 := hr2.mono hle67
           refine ws_ret hC [_] rfl rfl ⟨⟨_, rfl, loadVarN (us := [_, _]) Tryz.underlying24 rfl sz24 (S105.boxcs (i := 4) rfl ⟨rfl, rfl, trivial⟩)⟩, trivial⟩ ?_
           refine ⟨_, rfl, _, (hle40.trans hle41).trans hle67, (S105.pick [] [] (by decide) trivial), ?_⟩
           obtain rfl : i7 = oc.length := by omega
           have e9 : (smD d k).crs = c7 := by rw [hc7, List.take_length, List.drop_length, List.append_nil, hclf, hocf]; rfl
           have e8 : (smD d k).loops = d.loops + (cn (loB2 cl oc) (2 * d.crs.length + 1) : Int) := by rw [hclf, hocf]; rfl
           rw [e9, e8]
           exact ⟨_, _, rfl, hr3⟩
end Go.Proofs.YthppkofceancjaaGreat
