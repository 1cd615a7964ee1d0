/- Part 11 of the proof of the law MovesDo: the walks through its functions and the plain laws that they need. -/
import Derived.Test.YthppkofceancjaaGreatMvZ10
set_option linter.unusedSimpArgs false
set_option linter.unusedVariables false
noncomputable section
namespace Go.Proofs.YthppkofceancjaaGreat
open Go.ChangeShapes Go.WideShapes Go.ChangeAt Go.RowKit
def mvR (e : Int) (D : Dg) : Dg × Int := if e = 0 then (D, 0) else (⟨[], 0⟩, e)
theorem U26 {e c : Int} {D : Dg} (h : e = c) (hc : c ≠ 0) : mvR e D = (⟨[], 0⟩, c) := by unfold mvR; rw [h, if_neg hc]
theorem mvR_ok {e : Int} {D E : Dg} (h : e = 0) (hD : D = E) : mvR e D = (E, 0) := by unfold mvR; rw [if_pos h, hD]
theorem U1z {N : Hp} (c : Int) : DoR (⟨[], 0⟩, c) (.tuple [.agg [.slice none 0 0, .int .i64 0].toArray, .int .i64 c].toArray) N := ⟨none, 0, rfl, RdA.nil_⟩
def U3c (e n w s : Int) (north west standing : Bool) : Cr :=
 if standing = true then (if west = true then ⟨e, n, w, s, north⟩ else ⟨w, s, e, n, !north⟩) else (if north = true then ⟨s, e, n, w, !west⟩ else ⟨n, w, s, e, west⟩)
theorem pcross_1 (m : Mv) (e n w s : Int) : pcross m (fun k => ga ([e, n, w, s] : List Int) k) (eiN m.ub 3 1) = U3c e n w s (!m.ub) (!m.vb) m.ov := by
 unfold pcross U3c eiN
 cases m.ov <;> cases m.ub <;> cases m.vb <;> rfl
theorem pcross_2 (m : Mv) (e n w s : Int) : pcross m (fun k => ga ([e, n, w, s] : List Int) k) (eiN m.ub 1 3) = U3c e n w s m.ub (!m.vb) m.ov := by
 unfold pcross U3c eiN
 cases m.ov <;> cases m.ub <;> cases m.vb <;> rfl
noncomputable def Z165:=Tryz.f9.body.getD .skip
def Z166 := cL Z165
def Z167 := cR Z165
def Z168 := cL Z167
def Z169 := cR Z167
def Z16a := cL Z169
def Z16b := cR Z169
set_option maxRecDepth 10000 in
theorem DgOwn_o {w : World} {M : Hp} {X : Fr} (d : Dg) {dcrsA : Option Addr} {dcrsc : Nat} (hdcrs : RdA cdCr (M.un X.h) dcrsA dcrsc d.crs) (S : SH w M X []) : Co Tryz.prog 9 [.agg [.slice dcrsA d.crs.length dcrsc, .int .i64 d.loops].toArray] w M X (fun v N => ∃ vr, v = .agg [vr, .int .i64 d.loops].toArray ∧ N = [Rs.row cdCr vr d.crs]) := by
 unfold Co
 have rmhdcrs : d.crs.length * 40 ≤ 140737488355328 := hdcrs.room
 refine Uo (b := Z165) Tryz.func9 rfl Tryz.ntmps9 rfl (fun C hC => (U14 [(0, _)] ⟨rfl, trivial⟩ (U2 Z166 Z167 rfl rfl rfl (U1 rfl (wlo 0 1 rfl rfl rfl (U18 (l := [_, _]) rfl rfl rfl rfl rfl S ?_))))))
 intro gb1 w1 S1; clear S
 refine wlo 1 2 rfl rfl rfl (Uh (l := [_, _]) rfl rfl rfl zr24 rfl S1 ?_)
 intro gb2 w2 S2; clear S1
 refine U5 rfl (nmk [1, 2] rfl (U4 (U2 Z168 Z169 rfl rfl rfl (U1 rfl (wlr 0 rfl (U0 rfl rfl uT24 rfl (ce22) (nf22)) (wlr 1 rfl (U3 rfl rfl uT22 rfl (S2.boxc (i := 1) rfl rfl)) ?_))))))
 have S3 := S2.nilrow cdCr; clear S2
 refine wlo 2 3 rfl rfl rfl (wo_appendM (C := cdCr) (i := 0) rfl rfl rfl rfl rfl rfl rfl rfl sl22 S3 rfl hdcrs S3.um (by have h : _ * 40 ≤ _ := hdcrs.room; show (0 + _) * 40 ≤ _; first | omega | (simp only [ls]; omega)) ?_)
 intro vr2 w3 S4; clear S3
 change SH _ _ _ [Rs.row cdCr vr2 d.crs, _, _] at S4
 refine wlr 3 rfl (U0 rfl rfl uT24 rfl (ce22) (nf22)) (wlo 4 5 rfl rfl rfl (U7 (i := 2) (us := [_]) (l' := [_, _]) (H' := [_, _, _]) rfl rfl S4 rfl rfl rfl (S4.cells1 (i := 0) rfl) sz22 rfl (Uy (S4.one (i := 0) rfl) rfl) rfl rfl ?_))
 intro w4 S5; clear S4
 refine U5 rfl (nmk [1, 2] rfl (U4 (U2 Z16a Z16b rfl rfl rfl (U1 rfl (wlr 0 rfl (U8 (us := [_, _]) rfl rfl uT24 rfl sz24 (S5.boxcs (i := 2) rfl ⟨rfl, rfl, trivial⟩)) (wlo 1 2 rfl rfl rfl (U7 (i := 1) (us := [_, _]) (l' := [_, _]) (H' := [_, _, _]) rfl rfl S5 rfl rfl rfl rfl sz24 rfl (Uy (S5.one (i := 0) rfl) (Uy rfl rfl)) rfl rfl ?_)))))))
 intro w5 S6; clear S5
 refine U5 rfl (nmk [2] rfl (U4 (Uk hC [_] rfl rfl ⟨⟨_, rfl, Up (us := [_, _]) uT24 rfl sz24 (S6.boxcs (i := 1) rfl ⟨rfl, rfl, trivial⟩)⟩, trivial⟩ ?_)))
 exact ⟨_, rfl, _, S6.pick [0] [_] (by decide) ⟨rfl, trivial⟩, ⟨_, rfl, rfl⟩⟩
noncomputable def Z16c:=Tryz.f75.body.getD .skip
def Z16d := cL Z16c
def Z16e := cR Z16c
def Z16f := cL Z16e
def Z16g := cR Z16e
def Z16h := cL Z16g
def Z16i := cR Z16g
def Z16j := cL Z16h
def Z16k := cR Z16h
def Z16l := cL Z16k
def Z16m := cL Z16l
def Z16n := cR Z16l
def Z16o := cL Z16n
def Z16p := cR Z16n
def Z16q := cL Z16p
def Z16r := cR Z16p
def Z16s := cL Z16r
def Z16t := cR Z16r
def Z16u := cL Z16t
def Z16v := cR Z16t
def Z16w := cL Z16v
def Z16x := cR Z16v
def Z16y := cL Z16x
def Z16z := cR Z16x
def Z170 := cL Z16z
def Z171 := cR Z16z
set_option maxRecDepth 10000 in
theorem RSet_b {w : World} {M : Hp} {X : Fr} {vcr : Value} (xs : List Cr) (lo : Int) (c k : Nat) (a : Int) (hc : c < xs.length) (hk : k < 4) (S : SH w M X [Rs.bun [Rs.row cdCr vcr xs]]) : C1 Tryz.prog 75 [.agg [vcr, .int .i64 lo].toArray, .agg [.int .i64 (c : Int), .int .i64 (k : Int)].toArray, .int .i64 a] w M X (fun u M' r' => u = .tuple [].toArray ∧ M' = M ∧ r' = Rs.bun [Rs.row cdCr vcr (U1c xs c k a)]) := by
 unfold C1
 replace S := S.unbun
 refine Uo (b := Z16c) Tryz.func75 rfl Tryz.ntmps75 rfl (fun C hC => (U14 [(0, _), (1, _), (2, _)] ⟨rfl, rfl, rfl, trivial⟩ (U2 Z16d Z16e rfl rfl rfl (U1 rfl (wlo 0 1 rfl rfl rfl (U18 (l := [_, _]) rfl rfl rfl rfl rfl S ?_))))))
 intro gb1 w1 S1; clear S
 refine wlo 1 2 rfl rfl rfl (U18 (l := [_, _]) rfl rfl rfl rfl rfl S1 ?_)
 intro gb2 w2 S2; clear S1
 refine U5 rfl (nmk [2, 3, 4] rfl (U4 (U2 Z16f Z16g rfl rfl rfl (U1 rfl (wlr 0 rfl (U0 rfl rfl uT24 rfl (ce22) (nf22)) (wlr 1 rfl (U3 rfl rfl uT22 rfl (S2.boxc (i := 1) rfl rfl)) (wlr 2 rfl (U0 rfl rfl uT120 rfl (ce3) (nf3)) (wlr 3 rfl (U3 rfl rfl uT3 rfl (S2.boxc (i := 0) rfl rfl)) ?_))))))))
 refine wlr 4 rfl (Ui (C := cdCr) (i := 2) c rfl rfl rfl sl22 S2 rfl (by first | rfl | omega) (by first | omega | (simp only [ls]; omega))) ?_
 refine wlr 5 rfl (U8 (us := [_, _, _, _, _]) rfl rfl uT77 rfl sz77 (S2.rowcs (i := 2) (e := c) (j := 0) rfl (by first | omega | (simp only [ls]; omega)) ⟨rfl, rfl, rfl, rfl, rfl, trivial⟩)) ?_
 refine wlo 6 7 rfl rfl rfl (Uh (l := [_, _, _, _, _]) rfl rfl rfl zr77 rfl S2 ?_)
 intro gb3 w3 S3; clear S2
 refine wlo 7 8 rfl rfl rfl (U7 (i := 0) (us := [_, _, _, _, _]) (l' := [_, _, _, _, _]) (H' := [_, _, _, _]) rfl rfl S3 rfl rfl rfl rfl sz77 rfl rfl rfl rfl ?_)
 intro w4 S4; clear S3
 refine U5 rfl (nmk [2, 3, 4, 6] rfl (U4 (U2 Z16h Z16i rfl rfl rfl (U2 Z16j Z16k rfl rfl rfl (U1 rfl (wlr 0 rfl (U0 rfl rfl uT120 rfl (ce3) (nf3)) (wlr 1 rfl (U3 rfl rfl uT3 rfl (S4.boxc (i := 1) rfl rfl)) (U5 rfl ?_))))))))
 refine nmk [2, 3, 4, 6, 14] rfl (U4 (Uc Z16l 0 rfl rfl rfl (U2 Z16m Z16n rfl rfl rfl (U1 rfl (wlr 0 rfl (Uz rfl rfl rfl) (mvs 1 1 rfl rfl (U5 rfl (nmk [2, 3, 4, 6, 14, 15] rfl ?_))))))))
 refine U4 ?_
 refine Ue Z16o Z16p rfl rfl rfl rfl (fun hb15 => ?_) (fun hb15 => ?_)
 ·refine U1 rfl (mvs 0 1 rfl rfl (wlr 1 rfl (U0 rfl rfl uT77 rfl (ce3) (nf3)) (wlo 2 3 rfl rfl rfl (U7 (i := 0) (us := [_]) (l' := [_, _, _, _, _]) (H' := [_, _, _, _]) rfl rfl S4 rfl rfl rfl rfl sz3 rfl rfl rfl rfl ?_))))
  intro w5 S5; clear S4
  refine U5 rfl (U12 (nmk [3, 4, 6] rfl (U4 (U1 rfl (wlr 0 rfl (U0 rfl rfl uT24 rfl (ce22) (nf22)) (wlr 1 rfl (U3 rfl rfl uT22 rfl (S5.boxc (i := 2) rfl rfl)) (wlr 2 rfl (U0 rfl rfl uT120 rfl (ce3) (nf3)) (wlr 3 rfl (U3 rfl rfl uT3 rfl (S5.boxc (i := 1) rfl rfl)) ?_))))))))
  refine wlr 4 rfl (U8 (us := [_, _, _, _, _]) rfl rfl uT77 rfl sz77 (S5.boxcs (i := 0) rfl ⟨rfl, rfl, rfl, rfl, rfl, trivial⟩)) (wlr 5 rfl (Ui (C := cdCr) (i := 3) c rfl rfl rfl sl22 S5 rfl (by first | rfl | omega) (by first | omega | (simp only [ls]; omega))) ?_)
  refine wlo 6 7 rfl rfl rfl (U1i (C := cdCr) (i := 3) (e := c) (j := 0) (us := [_, _, _, _, _]) (H' := [_, _, _, _]) (⟨a, (ga xs c).b, (ga xs c).c, (ga xs c).d, (ga xs c).plus⟩ : Cr) rfl rfl S5 rfl (by first | omega | (simp only [ls]; omega)) rfl rfl rfl sz77 rfl rfl rfl rfl ?_)
  intro w6 S6; clear S5
  refine U5 rfl (U2j hC [] rfl trivial ?_)
  refine ⟨_, rfl, _, _, Hp.le_refl _, (S6.pick [3] [_] (by decide) ⟨rfl, trivial⟩).bun, ?_⟩
  obtain rfl | rfl | rfl | rfl : k = 0 ∨ k = 1 ∨ k = 2 ∨ k = 3 := by omega
  all_goals first | (exfalso; omega) | exact ⟨rfl, rfl, rfl⟩
 ·refine U2 Z16q Z16r rfl rfl rfl (U1 rfl (wlr 0 rfl (Uz rfl rfl rfl) (mvs 1 1 rfl rfl (U5 rfl (nmk [2, 3, 4, 6, 14, 19] rfl (U4 ?_))))))
  refine Ue Z16s Z16t rfl rfl rfl rfl (fun hb19 => ?_) (fun hb19 => ?_)
  ·refine U1 rfl (mvs 0 1 rfl rfl (wlr 1 rfl (U0 rfl rfl uT77 rfl (ce3) (nf3)) (wlo 2 3 rfl rfl rfl (U7 (i := 0) (us := [_]) (l' := [_, _, _, _, _]) (H' := [_, _, _, _]) rfl rfl S4 rfl rfl rfl rfl sz3 rfl rfl rfl rfl ?_))))
   intro w7 S7; clear S4
   refine U5 rfl (U12 (nmk [3, 4, 6] rfl (U4 (U1 rfl (wlr 0 rfl (U0 rfl rfl uT24 rfl (ce22) (nf22)) (wlr 1 rfl (U3 rfl rfl uT22 rfl (S7.boxc (i := 2) rfl rfl)) (wlr 2 rfl (U0 rfl rfl uT120 rfl (ce3) (nf3)) (wlr 3 rfl (U3 rfl rfl uT3 rfl (S7.boxc (i := 1) rfl rfl)) ?_))))))))
   refine wlr 4 rfl (U8 (us := [_, _, _, _, _]) rfl rfl uT77 rfl sz77 (S7.boxcs (i := 0) rfl ⟨rfl, rfl, rfl, rfl, rfl, trivial⟩)) (wlr 5 rfl (Ui (C := cdCr) (i := 3) c rfl rfl rfl sl22 S7 rfl (by first | rfl | omega) (by first | omega | (simp only [ls]; omega))) ?_)
   refine wlo 6 7 rfl rfl rfl (U1i (C := cdCr) (i := 3) (e := c) (j := 0) (us := [_, _, _, _, _]) (H' := [_, _, _, _]) (⟨(ga xs c).a, a, (ga xs c).c, (ga xs c).d, (ga xs c).plus⟩ : Cr) rfl rfl S7 rfl (by first | omega | (simp only [ls]; omega)) rfl rfl rfl sz77 rfl rfl rfl rfl ?_)
   intro w8 S8; clear S7
   refine U5 rfl (U2j hC [] rfl trivial ?_)
   refine ⟨_, rfl, _, _, Hp.le_refl _, (S8.pick [3] [_] (by decide) ⟨rfl, trivial⟩).bun, ?_⟩
   obtain rfl | rfl | rfl | rfl : k = 0 ∨ k = 1 ∨ k = 2 ∨ k = 3 := by omega
   all_goals first | (exfalso; omega) | exact ⟨rfl, rfl, rfl⟩
  ·refine U2 Z16u Z16v rfl rfl rfl (U1 rfl (wlr 0 rfl (Uz rfl rfl rfl) (mvs 1 1 rfl rfl (U5 rfl (nmk [2, 3, 4, 6, 14, 23] rfl (U4 ?_))))))
   refine Ue Z16w Z16x rfl rfl rfl rfl (fun hb23 => ?_) (fun hb23 => ?_)
   ·refine U1 rfl (mvs 0 1 rfl rfl (wlr 1 rfl (U0 rfl rfl uT77 rfl (ce3) (nf3)) (wlo 2 3 rfl rfl rfl (U7 (i := 0) (us := [_]) (l' := [_, _, _, _, _]) (H' := [_, _, _, _]) rfl rfl S4 rfl rfl rfl rfl sz3 rfl rfl rfl rfl ?_))))
    intro w9 S9; clear S4
    refine U5 rfl (U12 (nmk [3, 4, 6] rfl (U4 (U1 rfl (wlr 0 rfl (U0 rfl rfl uT24 rfl (ce22) (nf22)) (wlr 1 rfl (U3 rfl rfl uT22 rfl (S9.boxc (i := 2) rfl rfl)) (wlr 2 rfl (U0 rfl rfl uT120 rfl (ce3) (nf3)) (wlr 3 rfl (U3 rfl rfl uT3 rfl (S9.boxc (i := 1) rfl rfl)) ?_))))))))
    refine wlr 4 rfl (U8 (us := [_, _, _, _, _]) rfl rfl uT77 rfl sz77 (S9.boxcs (i := 0) rfl ⟨rfl, rfl, rfl, rfl, rfl, trivial⟩)) (wlr 5 rfl (Ui (C := cdCr) (i := 3) c rfl rfl rfl sl22 S9 rfl (by first | rfl | omega) (by first | omega | (simp only [ls]; omega))) ?_)
    refine wlo 6 7 rfl rfl rfl (U1i (C := cdCr) (i := 3) (e := c) (j := 0) (us := [_, _, _, _, _]) (H' := [_, _, _, _]) (⟨(ga xs c).a, (ga xs c).b, a, (ga xs c).d, (ga xs c).plus⟩ : Cr) rfl rfl S9 rfl (by first | omega | (simp only [ls]; omega)) rfl rfl rfl sz77 rfl rfl rfl rfl ?_)
    intro w10 S10; clear S9
    refine U5 rfl (U2j hC [] rfl trivial ?_)
    refine ⟨_, rfl, _, _, Hp.le_refl _, (S10.pick [3] [_] (by decide) ⟨rfl, trivial⟩).bun, ?_⟩
    obtain rfl | rfl | rfl | rfl : k = 0 ∨ k = 1 ∨ k = 2 ∨ k = 3 := by omega
    all_goals first | (exfalso; omega) | exact ⟨rfl, rfl, rfl⟩
   ·refine U2 Z16y Z16z rfl rfl rfl (U1 rfl (wlr 0 rfl (Uz rfl rfl rfl) (mvs 1 1 rfl rfl (U5 rfl (nmk [2, 3, 4, 6, 27] rfl (U4 ?_))))))
    refine Ue Z170 Z171 rfl rfl rfl rfl (fun hb27 => ?_) (fun hb27 => ?_)
    ·refine U1 rfl (mvs 0 1 rfl rfl (wlr 1 rfl (U0 rfl rfl uT77 rfl (ce3) (nf3)) (wlo 2 3 rfl rfl rfl (U7 (i := 0) (us := [_]) (l' := [_, _, _, _, _]) (H' := [_, _, _, _]) rfl rfl S4 rfl rfl rfl rfl sz3 rfl rfl rfl rfl ?_))))
     intro w11 S11; clear S4
     refine U5 rfl (U12 (nmk [3, 4, 6] rfl (U4 (U1 rfl (wlr 0 rfl (U0 rfl rfl uT24 rfl (ce22) (nf22)) (wlr 1 rfl (U3 rfl rfl uT22 rfl (S11.boxc (i := 2) rfl rfl)) (wlr 2 rfl (U0 rfl rfl uT120 rfl (ce3) (nf3)) (wlr 3 rfl (U3 rfl rfl uT3 rfl (S11.boxc (i := 1) rfl rfl)) ?_))))))))
     refine wlr 4 rfl (U8 (us := [_, _, _, _, _]) rfl rfl uT77 rfl sz77 (S11.boxcs (i := 0) rfl ⟨rfl, rfl, rfl, rfl, rfl, trivial⟩)) (wlr 5 rfl (Ui (C := cdCr) (i := 3) c rfl rfl rfl sl22 S11 rfl (by first | rfl | omega) (by first | omega | (simp only [ls]; omega))) ?_)
     refine wlo 6 7 rfl rfl rfl (U1i (C := cdCr) (i := 3) (e := c) (j := 0) (us := [_, _, _, _, _]) (H' := [_, _, _, _]) (⟨(ga xs c).a, (ga xs c).b, (ga xs c).c, a, (ga xs c).plus⟩ : Cr) rfl rfl S11 rfl (by first | omega | (simp only [ls]; omega)) rfl rfl rfl sz77 rfl rfl rfl rfl ?_)
     intro w12 S12; clear S11
     refine U5 rfl (U2j hC [] rfl trivial ?_)
     refine ⟨_, rfl, _, _, Hp.le_refl _, (S12.pick [3] [_] (by decide) ⟨rfl, trivial⟩).bun, ?_⟩
     obtain rfl | rfl | rfl | rfl : k = 0 ∨ k = 1 ∨ k = 2 ∨ k = 3 := by omega
     all_goals first | (exfalso; omega) | exact ⟨rfl, rfl, rfl⟩
    ·refine Uf rfl (U12 (nmk [3, 4, 6] rfl (U4 (U1 rfl (wlr 0 rfl (U0 rfl rfl uT24 rfl (ce22) (nf22)) (wlr 1 rfl (U3 rfl rfl uT22 rfl (S4.boxc (i := 2) rfl rfl)) (wlr 2 rfl (U0 rfl rfl uT120 rfl (ce3) (nf3)) (wlr 3 rfl (U3 rfl rfl uT3 rfl (S4.boxc (i := 1) rfl rfl)) ?_))))))))
     refine wlr 4 rfl (U8 (us := [_, _, _, _, _]) rfl rfl uT77 rfl sz77 (S4.boxcs (i := 0) rfl ⟨rfl, rfl, rfl, rfl, rfl, trivial⟩)) (wlr 5 rfl (Ui (C := cdCr) (i := 3) c rfl rfl rfl sl22 S4 rfl (by first | rfl | omega) (by first | omega | (simp only [ls]; omega))) ?_)
     refine wlo 6 7 rfl rfl rfl (U1i (C := cdCr) (i := 3) (e := c) (j := 0) (us := [_, _, _, _, _]) (H' := [_, _, _, _]) (⟨(ga xs c).a, (ga xs c).b, (ga xs c).c, (ga xs c).d, (ga xs c).plus⟩ : Cr) rfl rfl S4 rfl (by first | omega | (simp only [ls]; omega)) rfl rfl rfl sz77 rfl rfl rfl rfl ?_)
     intro w13 S13; clear S4
     refine U5 rfl (U2j hC [] rfl trivial ?_)
     refine ⟨_, rfl, _, _, Hp.le_refl _, (S13.pick [3] [_] (by decide) ⟨rfl, trivial⟩).bun, ?_⟩
     obtain rfl | rfl | rfl | rfl : k = 0 ∨ k = 1 ∨ k = 2 ∨ k = 3 := by omega
     all_goals first | (exfalso; omega) | exact ⟨rfl, rfl, rfl⟩
noncomputable def Z172:=Tryz.f79.body.getD .skip
def Z173 := cL Z172
def Z174 := cR Z172
def Z175 := cL Z174
def Z176 := cR Z174
def Z177 := cL Z176
def Z178 := cR Z176
def Z179 := cL Z177
def Z17a := cR Z177
def Z17b := cL Z17a
def Z17c := cR Z17a
def Z17d := cL Z17b
def Z17e := cR Z17b
def Z17f := cL Z178
def Z17g := cR Z178
set_option maxRecDepth 10000 in
theorem cutIn_b {w : World} {M : Hp} {X : Fr} (d : Dg) {dcrsA : Option Addr} {dcrsc : Nat} {vcr : Value} (xs : List Cr) (lo : Int) (x : Da) (n : Int) (hdcrs : RdA cdCr (M.un X.h) dcrsA dcrsc d.crs) (hn : 0 ≤ n ∧ n ≤ 1000) (hE : (Ud d x.a false).1 < xs.length ∧ (Ud d x.a false).2 < 4) (S : SH w M X [Rs.bun [Rs.row cdCr vcr xs]]) : C1 Tryz.prog 79 [.agg [.slice dcrsA d.crs.length dcrsc, .int .i64 d.loops].toArray, .agg [vcr, .int .i64 lo].toArray, .agg [.int .i64 x.a, .bool x.b].toArray, .int .i64 n] w M X (fun u M' r' => u = .tuple [.int .i64 (cutN x n 0), .int .i64 (cutN x n 1), .int .i64 (cutN x n 2)].toArray ∧ M' = M ∧ r' = Rs.bun [Rs.row cdCr vcr (U1c xs (Ud d x.a false).1 (Ud d x.a false).2 (n + 1))]) := by
 unfold C1
 replace S := S.unbun
 have rmhdcrs : d.crs.length * 40 ≤ 140737488355328 := hdcrs.room
 refine Uo (b := Z172) Tryz.func79 rfl Tryz.ntmps79 rfl (fun C hC => (U14 [(0, _), (1, _), (2, _), (3, _)] ⟨rfl, rfl, rfl, rfl, trivial⟩ (U2 Z173 Z174 rfl rfl rfl (U1 rfl (wlo 0 1 rfl rfl rfl (U18 (l := [_, _]) rfl rfl rfl rfl rfl S ?_))))))
 intro gb1 w1 S1; clear S
 refine wlo 1 2 rfl rfl rfl (U18 (l := [_, _]) rfl rfl rfl rfl rfl S1 ?_)
 intro gb2 w2 S2; clear S1
 refine wlo 2 3 rfl rfl rfl (U18 (l := [_, _]) rfl rfl rfl rfl rfl S2 ?_)
 intro gb3 w3 S3; clear S2
 refine mvs 3 3 rfl rfl (U5 rfl (nmk [3, 4, 5, 6] rfl (U4 (U2 Z175 Z176 rfl rfl rfl (Ux rfl (by kernel_rfl) S3 8 rfl ?_)))))
 clear S3
 refine wat 0 7 rfl (by kernel_rfl) (fun _ _ _ hz Sz => .inl (U8 (us := [_, _]) rfl rfl uT24 rfl sz24 (Sz.suf.boxcs (i := 1) rfl ⟨rfl, rfl, trivial⟩))) ?_
 refine wat 1 6 rfl (by kernel_rfl) (fun _ _ _ hz Sz => .inl (U8 (us := [_, _]) rfl rfl uT24 rfl sz24 (Sz.suf.boxcs (i := 2) rfl ⟨rfl, rfl, trivial⟩))) ?_
 refine wap 2 5 rfl (by kernel_rfl) (fun _ => U0 rfl rfl uT26 rfl (ce3) (nf3)) ?_
 refine wat 3 4 rfl (by kernel_rfl) (fun _ _ _ hz Sz => .inl (U3 rfl rfl uT3 rfl (Sz.suf.boxc (i := 0) rfl rfl))) ?_
 refine wat 4 3 rfl (by kernel_rfl) (fun _ _ _ hz Sz => Uq rfl rfl rfl rfl rfl cf60 Sz (U33 d x.a false ((hdcrs.mono (Hp.Ua hz Sz.mx)).mono Sz.Uw) Sz.lend)) ?_
 refine wap 5 2 rfl (by kernel_rfl) (fun _ => run_move rfl rfl) ?_
 refine wap 6 1 rfl (by kernel_rfl) (fun _ => Ug rfl rfl rfl (by first | omega | (simp only [ls]; omega))) ?_
 refine Um (i := 7) 0 rfl (by kernel_rfl) rfl rfl (fun w12 S12 => ?_)
 have S13 := S12.pick [3, 0, 1, 2] [_, _, _, _] (by decide) ⟨rfl, rfl, rfl, rfl, trivial⟩; clear S12
 have S14 : SH _ _ _ (Rs.bun [_] :: [_, _, _]) := SH.bunC (A := [_]) (B := [_, _, _]) S13; clear S13
 have S15 : SH _ _ _ [_, _, _, _] := S14.less (i := 0) rfl
 have hcall1 := RSet_b xs lo ((Ud d x.a false).1) ((Ud d x.a false).2) (n + 1) (by exact hE.1) (by exact hE.2) (S14.lend1 (i := 0) rfl); clear S15
 refine (wo_c1 (i := 0) rfl rfl rfl rfl rfl rfl rfl cf75 S14 rfl hcall1 ?_)
 intro vw13 w13 M9 rw13 hle9 S16 hR1; clear S14
 obtain ⟨huhMX1, hMX1, hR2⟩ := hR1
 rw [hMX1] at S16
 clear hMX1
 subst huhMX1
 subst hR2
 replace S16 : SH _ _ _ (Rs.bun [_] :: [_, _, _]) := S16
 have S17 : SH _ _ _ [_, _, _, _] := SH.U2y (A := [_]) (B := [_, _, _]) S16; clear S16
 refine U10.turn (by kernel_rfl) S17 ?_; clear S17
 change WA _ _ _ _ _ _ _ _ _ _ _ _ [_, _, _, _]
 refine Uu (by kernel_rfl) (fun w14 S18 => ?_)
 refine nmk [3, 6] rfl (U4 (U2 Z177 Z178 rfl rfl rfl (U2 Z179 Z17a rfl rfl rfl (U1 rfl (wlr 0 rfl (U0 rfl rfl uT26 rfl (ce4) (nf4)) (wlr 1 rfl (U3 rfl rfl uT4 rfl (S18.boxc (i := 1) rfl rfl)) (U5 rfl (nmk [3, 6, 20] rfl ?_))))))))
 refine U4 ?_
 refine U19 Z17b Z17c rfl rfl rfl rfl (fun hb20 => ?_) (fun hb20 => ?_)
 ·refine U2 Z17d Z17e rfl rfl rfl (Ux rfl (by kernel_rfl) S18 8 rfl ?_)
  clear S18
  refine wap 0 7 rfl (by kernel_rfl) (fun _ => run_move rfl rfl) ?_
  refine wap 1 6 rfl (by kernel_rfl) (fun _ => Ug rfl rfl rfl (by first | omega | (simp only [ls]; omega))) ?_
  refine wap 2 5 rfl (by kernel_rfl) (fun _ => run_move rfl rfl) ?_
  refine wap 3 4 rfl (by kernel_rfl) (fun _ => U0 rfl rfl uT26 rfl (ce3) (nf3)) ?_
  refine wat 4 3 rfl (by kernel_rfl) (fun _ _ _ hz Sz => .inl (U3 rfl rfl uT3 rfl (Sz.suf.boxc (i := 1) rfl rfl))) ?_
  refine wap 5 2 rfl (by kernel_rfl) (fun _ => run_assign rfl rfl) ?_
  refine wap 6 1 rfl (by kernel_rfl) (fun _ => run_assign rfl rfl) ?_
  refine wap 7 0 rfl (by kernel_rfl) (fun _ => run_assign rfl rfl) ?_
  refine Uu (by kernel_rfl) (fun w23 S27 => ?_)
  refine nmk [8, 9, 10] rfl (U4 (Uk hC [_, _, _] rfl rfl ⟨rfl, rfl, rfl, trivial⟩ ?_))
  refine ⟨_, rfl, _, _, Hp.le_refl _, (S27.pick [0] [_] (by decide) ⟨rfl, trivial⟩).bun, ?_⟩
  refine ⟨?_, rfl, rfl⟩
  show Value.tuple [_, _, _].toArray = _
  unfold cutN
  first | (rw [if_pos (by assumption)]; rfl) | (rw [if_neg (by simp [*])]; rfl)
 ·refine Uf rfl (nmk [3, 6] rfl (U4 (U2 Z17f Z17g rfl rfl rfl (U1 rfl (wlr 0 rfl (U0 rfl rfl uT26 rfl (ce3) (nf3)) (wlr 1 rfl (U3 rfl rfl uT3 rfl (S18.boxc (i := 1) rfl rfl)) (mvs 2 2 rfl rfl (wlr 4 rfl (Ug rfl rfl rfl (by first | omega | (simp only [ls]; omega))) ?_))))))))
  refine mvs 5 3 rfl rfl (U5 rfl (nmk [8, 9, 10] rfl (U4 (Uk hC [_, _, _] rfl rfl ⟨rfl, rfl, rfl, trivial⟩ ?_))))
  refine ⟨_, rfl, _, _, Hp.le_refl _, (S18.pick [0] [_] (by decide) ⟨rfl, trivial⟩).bun, ?_⟩
  refine ⟨?_, rfl, rfl⟩
  show Value.tuple [_, _, _].toArray = _
  unfold cutN
  first | (rw [if_pos (by assumption)]; rfl) | (rw [if_neg (by simp [*])]; rfl)
noncomputable def Z17h:=Tryz.f80.body.getD .skip
def Z17i := cL Z17h
def Z17j := cR Z17h
def Z17k := cL Z17j
def Z17l := cR Z17j
def Z17m := cL Z17l
def Z17n := cR Z17l
def Z17o := cL Z17n
def Z17p := cR Z17n
def Z17q := cL Z17o
def Z17r := cR Z17o
def Z17s := cL Z17r
def Z17t := cR Z17r
def Z17u := cL Z17s
def Z17v := cR Z17s
def Z17w := cL Z17v
def Z17x := cR Z17v
def Z17y := cL Z17w
def Z17z := cR Z17w
def Z180 := cL Z17z
def Z181 := cR Z17z
def Z182 := cL Z181
def Z183 := cR Z181
def Z184 := cL Z183
def Z185 := cR Z183
def Z186 := cL Z17x
def Z187 := cR Z17x
def Z188 := cL Z187
def Z189 := cR Z187
def Z18a := cL Z189
def Z18b := cR Z189
def Z18c := cL Z18b
def Z18d := cR Z18b
def Z18e := cL Z17t
def Z18f := cR Z17t
def Z18g := cL Z18f
def Z18h := cR Z18f
def Z18i := cL Z18g
def Z18j := cR Z18g
def Z18k := cL Z18j
def Z18l := cR Z18j
def Z18m := cL Z18l
def Z18n := cR Z18l
def Z18o := cL Z18n
def Z18p := cR Z18n
def Z18q := cL Z18h
def Z18r := cR Z18h
def Z18s := cL Z18r
def Z18t := cR Z18r
def Z18u := cL Z18t
def Z18v := cR Z18t
def Z18w := cL Z18v
def Z18x := cR Z18v
def Z18y := cL Z17p
def Z18z := cR Z17p
set_option maxRecDepth 10000 in
theorem laid_q {w : World} {M : Hp} {X : Fr} (e : Int) (n : Int) (w0 : Int) (s0 : Int) (north : Bool) (west : Bool) (standing : Bool) (S : SH w M X []) : Cq Tryz.prog 80 [.int .i64 e, .int .i64 n, .int .i64 w0, .int .i64 s0, .bool north, .bool west, .bool standing] w M X (fun u => u = .agg (crF (U3c e n w0 s0 north west standing)).toArray) := by
 unfold Cq
 refine Uo (b := Z17h) Tryz.func80 rfl Tryz.ntmps80 rfl (fun C hC => (U14 [(0, _), (1, _), (2, _), (3, _), (4, _), (5, _), (6, _)] ⟨rfl, rfl, rfl, rfl, rfl, rfl, rfl, trivial⟩ (U2 Z17i Z17j rfl rfl rfl (U1 rfl (wlo 0 1 rfl rfl rfl (Uh (l := [_, _, _, _, _]) rfl rfl rfl zr77 rfl S ?_))))))
 intro gb1 w1 S1; clear S
 refine U5 rfl (U4 (U2 Z17k Z17l rfl rfl rfl (U1 rfl (mvs 0 1 rfl rfl (U5 rfl (nmk [0, 1, 2, 3, 4, 5, 6, 14] rfl (U4 (U2 Z17m Z17n rfl rfl rfl ?_))))))))
 refine U1 rfl (mvs 0 1 rfl rfl (U5 rfl (nmk [0, 1, 2, 3, 4, 5, 6, 14] rfl (U4 (U2 Z17o Z17p rfl rfl rfl ?_)))))
 refine ws_cut (fun ax_ wx_ => ∃ (l0 : Int) (l1 : Int) (l2 : Int) (l3 : Int) (co : Int) (glb : Nat), Env 63 [(14, .pointer (some ⟨gb1, 0, none⟩)), (15, .slice (some ⟨glb, 0, none⟩) 4 4), (16, .int .i64 co)] ax_ ∧ SH wx_ M X [Rs.box glb 3 [.int .i64 l0, .int .i64 l1, .int .i64 l2, .int .i64 l3], Rs.box gb1 77 [.int .i64 0, .int .i64 0, .int .i64 0, .int .i64 0, .bool false]] ∧ U3c e n w0 s0 north west standing = ⟨l0, l1, l2, l3, decide (co = 3)⟩) ?_ ?_
 ·refine U2 Z17q Z17r rfl rfl rfl (U1 rfl (mvs 0 1 rfl rfl (U5 rfl (nmk [0, 1, 2, 3, 4, 5, 14, 17] rfl (U4 ?_)))))
  refine U19 Z17s Z17t rfl rfl rfl rfl (fun hb17 => ?_) (fun hb17 => ?_)
  ·subst hb17
   refine U2 Z17u Z17v rfl rfl rfl (U1 rfl (mvs 0 1 rfl rfl (U5 rfl (nmk [0, 1, 2, 3, 4, 14, 18] rfl (U4 ?_)))))
   refine U19 Z17w Z17x rfl rfl rfl rfl (fun hb18 => ?_) (fun hb18 => ?_)
   ·subst hb18
    refine U2 Z17y Z17z rfl rfl rfl (U1 rfl (mvs 0 4 rfl rfl (wlo 4 5 rfl rfl rfl (U2g (C := Uv) (l := [_, _, _, _]) (pl := [(0, 1), (1, 1), (2, 1), (3, 1)]) rfl rfl rfl rfl sl53 rfl rfl rfl rfl rfl S1 ?_))))
    intro gb2 w4 S4; clear S1
    refine mvs 5 1 rfl rfl (U5 rfl (nmk [4, 14, 15] rfl (U4 (U2 Z180 Z181 rfl rfl rfl (U1 rfl (mvs 0 1 rfl rfl (U5 rfl (U4 ?_))))))))
    refine U2 Z182 Z183 rfl rfl rfl (U1 rfl (mvs 0 1 rfl rfl (wlr 1 rfl (U1j rfl rfl) (U5 rfl (nmk [14, 15, 16, 25] rfl (U4 ?_))))))
    refine U19 Z184 Z185 rfl rfl rfl rfl (fun hb25 => ?_) (fun hb25 => ?_)
    ·simp only [Bool.and_eq_true, Bool.or_eq_true, Bool.and_eq_false_iff, Bool.or_eq_false_iff, decide_eq_true_eq, decide_eq_false_iff_not, Bool.not_eq_true', Bool.not_eq_false'] at hb25
     subst hb25
     refine U1 rfl (mvs 0 1 rfl rfl (U5 rfl (U15 ?_)))
     intro ax_ hax_
     refine ⟨e, n, w0, s0, 1, _, hax_.sub ⟨rfl, rfl, rfl, trivial⟩, S4.pick [0, 1] [_, _] (by decide) ⟨rfl, rfl, trivial⟩, ?hq1f0⟩
     case hq1f0 => rfl
    ·simp only [Bool.and_eq_true, Bool.or_eq_true, Bool.and_eq_false_iff, Bool.or_eq_false_iff, decide_eq_true_eq, decide_eq_false_iff_not, Bool.not_eq_true', Bool.not_eq_false'] at hb25
     subst hb25
     refine Uf rfl (U15 ?_)
     intro ax_ hax_
     refine ⟨e, n, w0, s0, 3, _, hax_.sub ⟨rfl, rfl, rfl, trivial⟩, S4.pick [0, 1] [_, _] (by decide) ⟨rfl, rfl, trivial⟩, ?hq2f0⟩
     case hq2f0 => rfl
   ·subst hb18
    refine U2 Z186 Z187 rfl rfl rfl (U1 rfl (mvs 0 4 rfl rfl (wlo 4 5 rfl rfl rfl (U2g (C := Uv) (l := [_, _, _, _]) (pl := [(0, 1), (1, 1), (2, 1), (3, 1)]) rfl rfl rfl rfl sl53 rfl rfl rfl rfl rfl S1 ?_))))
    intro gb3 w6 S6; clear S1
    refine mvs 5 1 rfl rfl (U5 rfl (nmk [4, 14, 15] rfl (U4 (U2 Z188 Z189 rfl rfl rfl (U1 rfl (mvs 0 1 rfl rfl (U5 rfl (U4 ?_))))))))
    refine U2 Z18a Z18b rfl rfl rfl (U1 rfl (mvs 0 1 rfl rfl (wlr 1 rfl (U1j rfl rfl) (U5 rfl (nmk [14, 15, 16, 32] rfl (U4 ?_))))))
    refine U19 Z18c Z18d rfl rfl rfl rfl (fun hb32 => ?_) (fun hb32 => ?_)
    ·simp only [Bool.and_eq_true, Bool.or_eq_true, Bool.and_eq_false_iff, Bool.or_eq_false_iff, decide_eq_true_eq, decide_eq_false_iff_not, Bool.not_eq_true', Bool.not_eq_false'] at hb32
     subst hb32
     refine U1 rfl (mvs 0 1 rfl rfl (U5 rfl (U15 ?_)))
     intro ax_ hax_
     refine ⟨w0, s0, e, n, 3, _, hax_.sub ⟨rfl, rfl, rfl, trivial⟩, S6.pick [0, 1] [_, _] (by decide) ⟨rfl, rfl, trivial⟩, ?hq3f0⟩
     case hq3f0 => rfl
    ·simp only [Bool.and_eq_true, Bool.or_eq_true, Bool.and_eq_false_iff, Bool.or_eq_false_iff, decide_eq_true_eq, decide_eq_false_iff_not, Bool.not_eq_true', Bool.not_eq_false'] at hb32
     subst hb32
     refine Uf rfl (U15 ?_)
     intro ax_ hax_
     refine ⟨w0, s0, e, n, 1, _, hax_.sub ⟨rfl, rfl, rfl, trivial⟩, S6.pick [0, 1] [_, _] (by decide) ⟨rfl, rfl, trivial⟩, ?hq4f0⟩
     case hq4f0 => rfl
  ·subst hb17
   refine U2 Z18e Z18f rfl rfl rfl (U1 rfl (mvs 0 1 rfl rfl (U5 rfl (nmk [0, 1, 2, 3, 5, 14, 33] rfl (U4 ?_)))))
   refine U19 Z18g Z18h rfl rfl rfl rfl (fun hb33 => ?_) (fun hb33 => ?_)
   ·subst hb33
    refine U2 Z18i Z18j rfl rfl rfl (U1 rfl (mvs 0 4 rfl rfl (wlo 4 5 rfl rfl rfl (U2g (C := Uv) (l := [_, _, _, _]) (pl := [(0, 1), (1, 1), (2, 1), (3, 1)]) rfl rfl rfl rfl sl53 rfl rfl rfl rfl rfl S1 ?_))))
    intro gb4 w8 S8; clear S1
    refine mvs 5 1 rfl rfl (U5 rfl (nmk [5, 14, 15] rfl (U4 (U2 Z18k Z18l rfl rfl rfl (U1 rfl (mvs 0 1 rfl rfl (U5 rfl (U4 ?_))))))))
    refine U2 Z18m Z18n rfl rfl rfl (U1 rfl (mvs 0 1 rfl rfl (wlr 1 rfl (U1j rfl rfl) (U5 rfl (nmk [14, 15, 16, 40] rfl (U4 ?_))))))
    refine U19 Z18o Z18p rfl rfl rfl rfl (fun hb40 => ?_) (fun hb40 => ?_)
    ·simp only [Bool.and_eq_true, Bool.or_eq_true, Bool.and_eq_false_iff, Bool.or_eq_false_iff, decide_eq_true_eq, decide_eq_false_iff_not, Bool.not_eq_true', Bool.not_eq_false'] at hb40
     subst hb40
     refine U1 rfl (mvs 0 1 rfl rfl (U5 rfl (U15 ?_)))
     intro ax_ hax_
     refine ⟨s0, e, n, w0, 3, _, hax_.sub ⟨rfl, rfl, rfl, trivial⟩, S8.pick [0, 1] [_, _] (by decide) ⟨rfl, rfl, trivial⟩, ?hq5f0⟩
     case hq5f0 => rfl
    ·simp only [Bool.and_eq_true, Bool.or_eq_true, Bool.and_eq_false_iff, Bool.or_eq_false_iff, decide_eq_true_eq, decide_eq_false_iff_not, Bool.not_eq_true', Bool.not_eq_false'] at hb40
     subst hb40
     refine Uf rfl (U15 ?_)
     intro ax_ hax_
     refine ⟨s0, e, n, w0, 1, _, hax_.sub ⟨rfl, rfl, rfl, trivial⟩, S8.pick [0, 1] [_, _] (by decide) ⟨rfl, rfl, trivial⟩, ?hq6f0⟩
     case hq6f0 => rfl
   ·subst hb33
    refine U2 Z18q Z18r rfl rfl rfl (U1 rfl (mvs 0 4 rfl rfl (wlo 4 5 rfl rfl rfl (U2g (C := Uv) (l := [_, _, _, _]) (pl := [(0, 1), (1, 1), (2, 1), (3, 1)]) rfl rfl rfl rfl sl53 rfl rfl rfl rfl rfl S1 ?_))))
    intro gb5 w10 S10; clear S1
    refine mvs 5 1 rfl rfl (U5 rfl (nmk [5, 14, 15] rfl (U4 (U2 Z18s Z18t rfl rfl rfl (U1 rfl (mvs 0 1 rfl rfl (U5 rfl (U4 ?_))))))))
    refine U2 Z18u Z18v rfl rfl rfl (U1 rfl (mvs 0 1 rfl rfl (wlr 1 rfl (U1j rfl rfl) (U5 rfl (nmk [14, 15, 16, 47] rfl (U4 ?_))))))
    refine U19 Z18w Z18x rfl rfl rfl rfl (fun hb47 => ?_) (fun hb47 => ?_)
    ·simp only [Bool.and_eq_true, Bool.or_eq_true, Bool.and_eq_false_iff, Bool.or_eq_false_iff, decide_eq_true_eq, decide_eq_false_iff_not, Bool.not_eq_true', Bool.not_eq_false'] at hb47
     subst hb47
     refine U1 rfl (mvs 0 1 rfl rfl (U5 rfl (U15 ?_)))
     intro ax_ hax_
     refine ⟨n, w0, s0, e, 1, _, hax_.sub ⟨rfl, rfl, rfl, trivial⟩, S10.pick [0, 1] [_, _] (by decide) ⟨rfl, rfl, trivial⟩, ?hq7f0⟩
     case hq7f0 => rfl
    ·simp only [Bool.and_eq_true, Bool.or_eq_true, Bool.and_eq_false_iff, Bool.or_eq_false_iff, decide_eq_true_eq, decide_eq_false_iff_not, Bool.not_eq_true', Bool.not_eq_false'] at hb47
     subst hb47
     refine Uf rfl (U15 ?_)
     intro ax_ hax_
     refine ⟨n, w0, s0, e, 3, _, hax_.sub ⟨rfl, rfl, rfl, trivial⟩, S10.pick [0, 1] [_, _] (by decide) ⟨rfl, rfl, trivial⟩, ?hq8f0⟩
     case hq8f0 => rfl
 ·rintro a1 w2 ⟨l0, l1, l2, l3, co, glb, he1, S2, hlc⟩
  clear S1
  refine nm_in he1 ?_
  clear he1 a1
  refine U4 (U2 Z18y Z18z rfl rfl rfl (Ux rfl (by kernel_rfl) S2 16 rfl ?_))
  clear S2
  refine wap 0 15 rfl (by kernel_rfl) (fun _ => run_move rfl rfl) ?_
  refine wat 1 14 rfl (by kernel_rfl) (fun _ _ _ hz Sz => .inl (U1q (e := 0) (k := 1) rfl rfl rfl uT53 sz3 (by first | rfl | omega) (by decide) rfl)) ?_
  refine wat 2 13 rfl (by kernel_rfl) (fun _ _ _ hz Sz => .inl (U3 rfl rfl uT3 rfl (Sz.suf.boxc (i := 0) rfl rfl))) ?_
  refine wap 3 12 rfl (by kernel_rfl) (fun _ => run_move rfl rfl) ?_
  refine wat 4 11 rfl (by kernel_rfl) (fun _ _ _ hz Sz => .inl (U1q (e := 1) (k := 1) rfl rfl rfl uT53 sz3 (by first | rfl | omega) (by decide) rfl)) ?_
  refine wat 5 10 rfl (by kernel_rfl) (fun _ _ _ hz Sz => .inl (U3 rfl rfl uT3 rfl (Sz.suf.boxc (i := 0) rfl rfl))) ?_
  refine wap 6 9 rfl (by kernel_rfl) (fun _ => run_move rfl rfl) ?_
  refine wat 7 8 rfl (by kernel_rfl) (fun _ _ _ hz Sz => .inl (U1q (e := 2) (k := 1) rfl rfl rfl uT53 sz3 (by first | rfl | omega) (by decide) rfl)) ?_
  refine wat 8 7 rfl (by kernel_rfl) (fun _ _ _ hz Sz => .inl (U3 rfl rfl uT3 rfl (Sz.suf.boxc (i := 0) rfl rfl))) ?_
  refine wap 9 6 rfl (by kernel_rfl) (fun _ => run_move rfl rfl) ?_
  refine wat 10 5 rfl (by kernel_rfl) (fun _ _ _ hz Sz => .inl (U1q (e := 3) (k := 1) rfl rfl rfl uT53 sz3 (by first | rfl | omega) (by decide) rfl)) ?_
  refine wat 11 4 rfl (by kernel_rfl) (fun _ _ _ hz Sz => .inl (U3 rfl rfl uT3 rfl (Sz.suf.boxc (i := 0) rfl rfl))) ?_
  refine wap 12 3 rfl (by kernel_rfl) (fun _ => run_move rfl rfl) ?_
  refine wap 13 2 rfl (by kernel_rfl) (fun _ => Uz rfl rfl rfl) ?_
  refine wat 14 1 rfl (by kernel_rfl) (fun _ _ _ hz Sz => .inl (run_build (l := [_, _, _, _, _]) rfl rfl st77 rfl rfl)) ?_
  refine Um (i := 15) 0 rfl (by kernel_rfl) rfl rfl (fun w27 S27 => ?_)
  refine (U7 (i := 1) (us := [_, _, _, _, _]) (l' := [_, _, _, _, _]) (H' := [_, _]) rfl rfl S27 rfl rfl rfl rfl sz77 rfl rfl rfl rfl ?_)
  intro w28 S28; clear S27
  refine U10.turn (by kernel_rfl) S28 ?_; clear S28
  change WA _ _ _ _ _ _ _ _ _ _ _ _ [_, _]
  refine Uu (by kernel_rfl) (fun w29 S29 => ?_)
  refine nmk [14] rfl (U4 (Uk hC [_] rfl rfl ⟨⟨_, rfl, Up (us := [_, _, _, _, _]) uT77 rfl sz77 (S29.boxcs (i := 1) rfl ⟨rfl, rfl, rfl, rfl, rfl, trivial⟩)⟩, trivial⟩ ?_))
  exact ⟨_, rfl, (S29.pick [] [] (by decide) trivial), (by rw [hlc]; rfl)⟩
noncomputable def Z190:=Tryz.f81.body.getD .skip
def Z191 := cL Z190
def Z192 := cR Z190
def Z193 := cL Z192
def Z194 := cR Z192
set_option maxRecDepth 10000 in
theorem heightOf_q {w : World} {M : Hp} {X : Fr} (d : Dg) {dcrsA : Option Addr} {dcrsc : Nat} (a : Int) (hdcrs : RdA cdCr (M.un X.h) dcrsA dcrsc d.crs) (hab : U1b d = true) (ha : 1 ≤ a ∧ a ≤ 2 * (d.crs.length : Int)) (S : SH w M X []) : Cq Tryz.prog 81 [.agg [.slice dcrsA d.crs.length dcrsc, .int .i64 d.loops].toArray, .int .i64 a] w M X (fun u => u = .int .i64 (hgt d a : Int)) := by
 unfold Cq
 have rmhdcrs : d.crs.length * 40 ≤ 140737488355328 := hdcrs.room
 obtain ⟨_, hx1, _⟩ := endD hab ha false
 obtain ⟨_, hx2, _⟩ := endD hab ha true
 refine Uo (b := Z190) Tryz.func81 rfl Tryz.ntmps81 rfl (fun C hC => (U14 [(0, _), (1, _)] ⟨rfl, rfl, trivial⟩ (U2 Z191 Z192 rfl rfl rfl (U1 rfl (wlo 0 1 rfl rfl rfl (U18 (l := [_, _]) rfl rfl rfl rfl rfl S ?_))))))
 intro gb1 w1 S1; clear S
 refine mvs 1 1 rfl rfl (U5 rfl (nmk [1, 2] rfl (U4 (U2 Z193 Z194 rfl rfl rfl (Ux rfl (by kernel_rfl) S1 12 rfl ?_)))))
 clear S1
 refine wat 0 11 rfl (by kernel_rfl) (fun _ _ _ hz Sz => .inl (U8 (us := [_, _]) rfl rfl uT24 rfl sz24 (Sz.suf.boxcs (i := 0) rfl ⟨rfl, rfl, trivial⟩))) ?_
 refine wap 1 10 rfl (by kernel_rfl) (fun _ => run_move rfl rfl) ?_
 refine wat 2 9 rfl (by kernel_rfl) (fun _ _ _ hz Sz => Uq rfl rfl rfl rfl rfl cf60 Sz (U33 d a false ((hdcrs.mono (Hp.Ua hz Sz.mx)).mono Sz.Uw) Sz.lend)) ?_
 refine wap 3 8 rfl (by kernel_rfl) (fun _ => U23 rfl rfl uT120 rfl uT3 rfl rfl) ?_
 refine wap 4 7 rfl (by kernel_rfl) (fun _ => U2i rfl rfl rfl (by first | omega | (simp only [ls]; omega))) ?_
 refine wat 5 6 rfl (by kernel_rfl) (fun _ _ _ hz Sz => .inl (U8 (us := [_, _]) rfl rfl uT24 rfl sz24 (Sz.suf.boxcs (i := 0) rfl ⟨rfl, rfl, trivial⟩))) ?_
 refine wap 6 5 rfl (by kernel_rfl) (fun _ => run_move rfl rfl) ?_
 refine wat 7 4 rfl (by kernel_rfl) (fun _ _ _ hz Sz => Uq rfl rfl rfl rfl rfl cf60 Sz (U33 d a true ((hdcrs.mono (Hp.Ua hz Sz.mx)).mono Sz.Uw) Sz.lend)) ?_
 refine wap 8 3 rfl (by kernel_rfl) (fun _ => U23 rfl rfl uT120 rfl uT3 rfl rfl) ?_
 refine wap 9 2 rfl (by kernel_rfl) (fun _ => U2i rfl rfl rfl (by first | omega | (simp only [ls]; omega))) ?_
 refine wap 10 1 rfl (by kernel_rfl) (fun _ => Ug rfl rfl rfl (by first | omega | (simp only [ls]; omega))) ?_
 refine wap 11 0 rfl (by kernel_rfl) (fun _ => run_assign rfl rfl) ?_
 refine Uu (by kernel_rfl) (fun w14 S14 => ?_)
 refine nmk [4] rfl (U4 (Uk hC [_] rfl rfl ⟨rfl, trivial⟩ ?_))
 exact ⟨_, rfl, (S14.pick [] [] (by decide) trivial), (by show Value.int _ _ = _; unfold hgt; rfl)⟩
theorem curlN_up {x : Cr} {k : Nat} (hk : k < 4) (h : decide (U24 x k = U24 x ((k + 1) % 4)) = true) : curlN x 4 = true := by
 obtain rfl | rfl | rfl | rfl : k = 0 ∨ k = 1 ∨ k = 2 ∨ k = 3 := by omega
 all_goals simp only [curlN, h, Bool.or_true, Bool.true_or]
noncomputable def Z195:=Tryz.f34.body.getD .skip
def Z196 := cL Z195
def Z197 := cR Z195
def Z198 := cL Z197
def Z199 := cR Z197
def Z19a := cL Z198
def Z19b := cR Z198
def Z19c := cL Z19b
def Z19d := cL Z19c
def Z19e := cL Z19d
def Z19f := cR Z19d
def Z19g := cL Z19e
def Z19h := cR Z19e
def Z19i := cL Z19h
def Z19j := cR Z19h
def Z19k := cL Z19f
def Z19l := cR Z19f
def Z19m := cL Z19k
def Z19n := cL Z19m
def Z19o := cR Z19m
def Z19p := cL Z19o
def Z19q := cR Z19o
def Z19r := cL Z19p
def Z19s := cR Z19p
def Z19t := cL Z199
def Z19u := cR Z199
set_option maxRecDepth 10000 in
theorem curlAt_q {w : World} {M : Hp} {X : Fr} (d : Dg) {dcrsA : Option Addr} {dcrsc : Nat} (i : Nat) (hdcrs : RdA cdCr (M.un X.h) dcrsA dcrsc d.crs) (hi : i < d.crs.length) (S : SH w M X []) : Cq Tryz.prog 34 [.agg [.slice dcrsA d.crs.length dcrsc, .int .i64 d.loops].toArray, .int .i64 (i : Int)] w M X (fun u => u = .bool (curlN (ga d.crs i) 4)) := by
 unfold Cq
 have rmhdcrs : d.crs.length * 40 ≤ 140737488355328 := hdcrs.room
 refine Uo (b := Z195) Tryz.func34 rfl Tryz.ntmps34 rfl (fun C hC => (U14 [(0, _), (1, _)] ⟨rfl, rfl, trivial⟩ (U2 Z196 Z197 rfl rfl rfl (U1 rfl (wlo 0 1 rfl rfl rfl (U18 (l := [_, _]) rfl rfl rfl rfl rfl S ?_))))))
 intro gb1 w1 S1; clear S
 refine mvs 1 1 rfl rfl (U5 rfl (nmk [1, 2] rfl (U4 (U2 Z198 Z199 rfl rfl rfl (U2 Z19a Z19b rfl rfl rfl (U1 rfl (mvs 0 1 rfl rfl (U5 rfl ?_))))))))
 refine U4 (Uc Z19c 0 rfl rfl rfl ?_)
 refine U11 (fun mx_ ax_ wx_ => ∃ (k : Nat), mx_ = 4 - k ∧ Env 23 [(1, .int .i64 (i : Int)), (2, .pointer (some ⟨gb1, 0, none⟩)), (5, .int .i64 (k : Int))] ax_ ∧ SH wx_ M X [Rs.box gb1 24 [.slice dcrsA d.crs.length dcrsc, .int .i64 d.loops]] ∧ k ≤ 4 ∧ curlN (ga d.crs i) k = false) rfl ?_ ?_
 ·intro ax_ hax_
  refine ⟨_, ⟨0, rfl, hax_.sub ⟨rfl, rfl, rfl, trivial⟩, S1.pick [0] [_] (by decide) ⟨rfl, trivial⟩, ?hq1f0, ?hq1f1⟩⟩
  case hq1f0 => omega
  case hq1f1 => rfl
 ·rintro m1 a1 w2 ⟨k, rfl, he1, S2, hk, hno⟩
  clear S1
  refine U1u he1 (c := Z19d) rfl ?_
  clear he1 a1
  refine U2 Z19e Z19f rfl rfl rfl (U2 Z19g Z19h rfl rfl rfl (U1 rfl (mvs 0 1 rfl rfl (wlr 1 rfl (U17 rfl rfl rfl) (U5 rfl (nmk [1, 2, 5, 7] rfl (U4 ?_)))))))
  refine Ue Z19i Z19j rfl rfl rfl rfl (fun hb7 => ?_) (fun hb7 => ?_)
  ·refine Uf rfl (nmk [1, 2, 5] rfl (U4 (U2 Z19k Z19l rfl rfl rfl (Uc Z19m 1 rfl rfl rfl (U2 Z19n Z19o rfl rfl rfl (Ux rfl (by kernel_rfl) S2 13 rfl ?_))))))
   clear S2
   refine wat 0 12 rfl (by kernel_rfl) (fun _ _ _ hz Sz => .inl (U8 (us := [_, _]) rfl rfl uT24 rfl sz24 (Sz.suf.boxcs (i := 0) rfl ⟨rfl, rfl, trivial⟩))) ?_
   refine wap 1 11 rfl (by kernel_rfl) (fun _ => run_move rfl rfl) ?_
   refine wap 2 10 rfl (by kernel_rfl) (fun _ => run_move rfl rfl) ?_
   refine wat 3 9 rfl (by kernel_rfl) (fun _ _ _ hz Sz => .inl (run_build (l := [_, _]) rfl rfl st120 rfl rfl)) ?_
   refine wat 4 8 rfl (by kernel_rfl) (fun _ _ _ hz Sz => Uq rfl rfl rfl rfl rfl cf72 Sz (ArcAt_q d i k ((hdcrs.mono (Hp.Ua hz Sz.mx)).mono Sz.Uw) (by omega) (by omega) Sz.lend)) ?_
   refine wat 5 7 rfl (by kernel_rfl) (fun _ _ _ hz Sz => .inl (U8 (us := [_, _]) rfl rfl uT24 rfl sz24 (Sz.suf.boxcs (i := 0) rfl ⟨rfl, rfl, trivial⟩))) ?_
   refine wap 6 6 rfl (by kernel_rfl) (fun _ => run_move rfl rfl) ?_
   refine wap 7 5 rfl (by kernel_rfl) (fun _ => run_move rfl rfl) ?_
   refine wap 8 4 rfl (by kernel_rfl) (fun _ => Ug rfl rfl rfl (by first | omega | (simp only [ls]; omega))) ?_
   refine wap 9 3 rfl (by kernel_rfl) (fun _ => U2i rfl rfl rfl (by first | omega | (simp only [ls]; omega))) ?_
   refine wa_eq 19 (.int .i64 (((k + 1) % 4 : Nat) : Int)) rfl (int_eq (by omega)) ?_
   refine wat 10 2 rfl (by kernel_rfl) (fun _ _ _ hz Sz => .inl (run_build (l := [_, _]) rfl rfl st120 rfl rfl)) ?_
   refine wat 11 1 rfl (by kernel_rfl) (fun _ _ _ hz Sz => Uq rfl rfl rfl rfl rfl cf72 Sz (ArcAt_q d i ((k + 1) % 4) ((hdcrs.mono (Hp.Ua hz Sz.mx)).mono Sz.Uw) (by omega) (by omega) Sz.lend)) ?_
   refine wap 12 0 rfl (by kernel_rfl) (fun _ => Uz rfl rfl rfl) ?_
   refine Uu (by kernel_rfl) (fun w16 S16 => ?_)
   refine nmk [1, 2, 5, 22] rfl (U4 ?_)
   refine Ue Z19p Z19q rfl rfl rfl rfl (fun hb22 => ?_) (fun hb22 => ?_)
   ·refine U2 Z19r Z19s rfl rfl rfl (U1 rfl (mvs 0 1 rfl rfl (U5 rfl (nmk [4] rfl (U4 (Uk hC [_] rfl rfl ⟨rfl, trivial⟩ ?_))))))
    exact ⟨_, rfl, (S16.pick [] [] (by decide) trivial), (by show Value.bool _ = Value.bool _; rw [curlN_up (k := k) (by omega) (decide_eq_true hb22)])⟩
   ·refine Uf rfl (U12 (nmk [1, 2, 5] rfl (U4 (U1 rfl (mvs 0 1 rfl rfl (wlr 1 rfl (Ug rfl rfl rfl (by first | omega | (simp only [ls]; omega))) ?_))))))
    refine mvs 2 1 rfl rfl (U5 rfl (U15 ?_))
    intro ax_ hax_
    refine ⟨_, ?hq2m, ⟨k + 1, rfl, hax_.sub ⟨rfl, rfl, rfl, trivial⟩, S16.pick [0] [_] (by decide) ⟨rfl, trivial⟩, ?hq2f0, ?hq2f1⟩⟩
    case hq2f0 => omega
    case hq2f1 => (rw [curlN, hno]; exact decide_eq_false hb22)
    case hq2m => omega
  ·refine U16 rfl rfl (U1a [] trivial (U4 (U2 Z19t Z19u rfl rfl rfl (U1 rfl (mvs 0 1 rfl rfl (U5 rfl (U4 (Uk hC [_] rfl rfl ⟨rfl, trivial⟩ ?_))))))))
   exact ⟨_, rfl, (S2.pick [] [] (by decide) trivial), (by obtain rfl : k = 4 := (by omega); show Value.bool _ = Value.bool _; rw [hno])⟩
noncomputable def Z19v:=Tryz.f35.body.getD .skip
def Z19w := cL Z19v
def Z19x := cR Z19v
def Z19y := cL Z19x
def Z19z := cR Z19x
def Z1a0 := cL Z19y
def Z1a1 := cR Z19y
def Z1a2 := cL Z1a1
def Z1a3 := cR Z1a1
def Z1a4 := cL Z1a2
def Z1a5 := cR Z1a2
def Z1a6 := cL Z19z
def Z1a7 := cR Z19z
set_option maxRecDepth 10000 in
theorem fewLoops_t {w : World} {M : Hp} {X : Fr} (d : Dg) {dcrsA : Option Addr} {dcrsc : Nat} (hdcrs : RdA cdCr M dcrsA dcrsc d.crs) (S : SH w M X []) : Ct Tryz.prog 35 [.agg [.slice dcrsA d.crs.length dcrsc, .int .i64 d.loops].toArray] w M X (DoR (mvR (if d.loops ≤ 16 then 0 else 2) d)) := by
 unfold Ct
 have rmhdcrs : d.crs.length * 40 ≤ 140737488355328 := hdcrs.room
 refine Uo (b := Z19v) Tryz.func35 rfl Tryz.ntmps35 rfl (fun C hC => (U14 [(0, _)] ⟨rfl, trivial⟩ (U2 Z19w Z19x rfl rfl rfl (U1 rfl (wlo 0 1 rfl rfl rfl (U18 (l := [_, _]) rfl rfl rfl rfl rfl S ?_))))))
 intro gb1 w1 S1; clear S
 refine wlo 1 2 rfl rfl rfl (Uh (l := [_, _]) rfl rfl rfl zr24 rfl S1 ?_)
 intro gb2 w2 S2; clear S1
 refine mvs 2 1 rfl rfl (U5 rfl (nmk [1, 2] rfl (U4 (U2 Z19y Z19z rfl rfl rfl (U2 Z1a0 Z1a1 rfl rfl rfl (U1 rfl (wlr 0 rfl (U0 rfl rfl uT24 rfl (ce3) (nf3)) (wlr 1 rfl (U3 rfl rfl uT3 rfl (S2.boxc (i := 1) rfl rfl)) ?_))))))))
 refine wlr 2 rfl (run_gtr rfl rfl rfl) (U5 rfl (nmk [1, 2, 6] rfl (U4 ?_)))
 refine Ue Z1a2 Z1a3 rfl rfl rfl rfl (fun hb6 => ?_) (fun hb6 => ?_)
 ·refine U2 Z1a4 Z1a5 rfl rfl rfl (U1 rfl (wlr 0 rfl (run_build (l := [_, _]) rfl rfl st24 rfl rfl) (wlo 1 2 rfl rfl rfl (U7 (i := 0) (us := [_, _]) (l' := [_, _]) (H' := [_, _]) rfl rfl S2 rfl rfl rfl rfl sz24 rfl rfl rfl rfl ?_))))
  intro w3 S3; clear S2
  refine mvs 2 1 rfl rfl (U5 rfl (nmk [2, 3] rfl (U4 (Uk hC [_, _] rfl rfl ⟨⟨_, rfl, Up (us := [_, _]) uT24 rfl sz24 (S3.boxcs (i := 0) rfl ⟨rfl, rfl, trivial⟩)⟩, rfl, trivial⟩ ?_))))
  refine ⟨_, rfl, _, Hp.le_refl _, (S3.pick [] [] (by decide) trivial), ?_⟩
  rw [U26 (c := 2) (by rw [if_neg (by omega)]) (by decide)]
  exact U1z 2
 ·refine Uf rfl (nmk [1, 2] rfl (U4 (U2 Z1a6 Z1a7 rfl rfl rfl (U1 rfl (wlr 0 rfl (U8 (us := [_, _]) rfl rfl uT24 rfl sz24 (S2.boxcs (i := 1) rfl ⟨rfl, rfl, trivial⟩)) (wlo 1 2 rfl rfl rfl (U7 (i := 0) (us := [_, _]) (l' := [_, _]) (H' := [_, _]) rfl rfl S2 rfl rfl rfl rfl sz24 rfl rfl rfl rfl ?_)))))))
  intro w4 S4; clear S2
  refine mvs 2 1 rfl rfl (U5 rfl (nmk [2, 3] rfl (U4 (Uk hC [_, _] rfl rfl ⟨⟨_, rfl, Up (us := [_, _]) uT24 rfl sz24 (S4.boxcs (i := 0) rfl ⟨rfl, rfl, trivial⟩)⟩, rfl, trivial⟩ ?_))))
  refine ⟨_, rfl, _, Hp.le_refl _, (S4.pick [] [] (by decide) trivial), ?_⟩
  rw [mvR_ok (E := d) (by rw [if_pos (by omega)]) rfl]
  exact ⟨_, _, rfl, hdcrs⟩
theorem U3x (x y : Da) : decide (y.a = x.a ∧ y.b = x.b) = daE x y := by
 unfold daE
 refine decide_eq_decide.2 ⟨fun h => ⟨h.1.symm, h.2.symm⟩, fun h => ⟨h.1.symm, h.2.symm⟩⟩
theorem U3z {α : Type} [Inhabited α] (p : α → Bool) (xs : List α) {i : Nat} (hi : i < xs.length) : (xs.take (i + 1)).any p = ((xs.take i).any p || p (ga xs i)) := by
 rw [take_ga xs i hi, List.any_append]
 simp
noncomputable def Z1a8:=Tryz.f78.body.getD .skip
def Z1a9 := cL Z1a8
def Z1aa := cR Z1a8
def Z1ab := cL Z1aa
def Z1ac := cR Z1aa
def Z1ad := cL Z1ac
def Z1ae := cR Z1ac
def Z1af := cL Z1ad
def Z1ag := cR Z1ad
def Z1ah := cL Z1ag
def Z1ai := cL Z1ah
def Z1aj := cL Z1ai
def Z1ak := cR Z1ai
def Z1al := cL Z1aj
def Z1am := cR Z1aj
def Z1an := cL Z1am
def Z1ao := cR Z1am
def Z1ap := cL Z1ak
def Z1aq := cR Z1ak
def Z1ar := cL Z1ap
def Z1as := cL Z1ar
def Z1at := cR Z1ar
def Z1au := cL Z1at
def Z1av := cR Z1at
def Z1aw := cL Z1au
def Z1ax := cR Z1au
def Z1ay := cL Z1ax
def Z1az := cL Z1ay
def Z1b0 := cL Z1az
def Z1b1 := cR Z1az
def Z1b2 := cL Z1b0
def Z1b3 := cR Z1b0
def Z1b4 := cL Z1b3
def Z1b5 := cR Z1b3
def Z1b6 := cL Z1b1
def Z1b7 := cR Z1b1
def Z1b8 := cL Z1b6
def Z1b9 := cL Z1b8
def Z1ba := cR Z1b8
def Z1bb := cL Z1av
def Z1bc := cR Z1av
def Z1bd := cL Z1bc
def Z1be := cR Z1bc
def Z1bf := cL Z1bd
def Z1bg := cR Z1bd
def Z1bh := cL Z1ae
def Z1bi := cR Z1ae
set_option maxRecDepth 10000 in
theorem onOneFace_t {w : World} {M : Hp} {X : Fr} (d : Dg) {dcrsA : Option Addr} {dcrsc : Nat} (u : Da) (v : Da) (hdcrs : RdA cdCr (M.un X.h) dcrsA dcrsc d.crs) (hn : d.crs.length ≤ 16) (hab : U1b d = true) (S : SH w M X []) : Ct Tryz.prog 78 [.agg [.slice dcrsA d.crs.length dcrsc, .int .i64 d.loops].toArray, .agg [.int .i64 u.a, .bool u.b].toArray, .agg [.int .i64 v.a, .bool v.b].toArray] w M X (fun x _ => x = .bool ((U6 d).any (onP u v))) := by
 unfold Ct
 have rmhdcrs : d.crs.length * 40 ≤ 140737488355328 := hdcrs.room
 refine Uo (b := Z1a8) Tryz.func78 rfl Tryz.ntmps78 rfl (fun C hC => (U14 [(0, _), (1, _), (2, _)] ⟨rfl, rfl, rfl, trivial⟩ (U2 Z1a9 Z1aa rfl rfl rfl (U1 rfl (wlo 0 1 rfl rfl rfl (U18 (l := [_, _]) rfl rfl rfl rfl rfl S ?_))))))
 intro gb1 w1 S1; clear S
 refine wlo 1 2 rfl rfl rfl (U18 (l := [_, _]) rfl rfl rfl rfl rfl S1 ?_)
 intro gb2 w2 S2; clear S1
 refine wlo 2 3 rfl rfl rfl (U18 (l := [_, _]) rfl rfl rfl rfl rfl S2 ?_)
 intro gb3 w3 S3; clear S2
 refine mvs 3 1 rfl rfl (U5 rfl (nmk [3, 4, 5] rfl (U4 (U2 Z1ab Z1ac rfl rfl rfl (U1 rfl (wlr 0 rfl (U8 (us := [_, _]) rfl rfl uT24 rfl sz24 (S3.boxcs (i := 2) rfl ⟨rfl, rfl, trivial⟩)) (wlo 1 2 rfl rfl rfl (U2w rfl rfl rfl rfl rfl rfl rfl cf74 S3 (FacesOf_t d (hdcrs.mono S3.Uw) (hn) (hab) S3.lend) ?_))))))))
 intro vw4 w4 M1 hle1 S4 hRw4; clear S3
 replace hdcrs := hdcrs.mono (Hp.Ua hle1 S4.mx)
 obtain ⟨A1, c1, vs1, rfl, hr1, hd1⟩ := hRw4
 have hflA1 := hd1.1
 refine mvs 2 1 rfl rfl (U5 rfl (nmk [4, 5, 7] rfl (U4 (U2 Z1ad Z1ae rfl rfl rfl (U2 Z1af Z1ag rfl rfl rfl (U1 rfl (mvs 0 1 rfl rfl (U5 rfl ?_))))))))
 refine U4 (Uc Z1ah 0 rfl rfl rfl ?_)
 refine U11 (fun mx_ ax_ wx_ => ∃ (i : Nat), mx_ = (U6 d).length - i ∧ Env 57 [(4, .pointer (some ⟨gb2, 0, none⟩)), (5, .pointer (some ⟨gb3, 0, none⟩)), (7, .slice A1 vs1.length c1), (8, .int .i64 (i : Int))] ax_ ∧ SH wx_ M1 X [Rs.box gb3 26 [.int .i64 v.a, .bool v.b], Rs.box gb2 26 [.int .i64 u.a, .bool u.b]] ∧ i ≤ (U6 d).length ∧ (∀ j, j < i → onP u v (ga (U6 d) j) = false)) rfl ?_ ?_
 ·intro ax_ hax_
  refine ⟨_, ⟨0, rfl, hax_.sub ⟨rfl, rfl, rfl, rfl, trivial⟩, S4.pick [0, 1] [_, _] (by decide) ⟨rfl, rfl, trivial⟩, ?hq1f0, ?hq1f1⟩⟩
  case hq1f0 => omega
  case hq1f1 => (intro j hj; omega)
 ·rintro m1 a1 w5 ⟨i, rfl, he1, S5, hi, hno⟩
  clear S4
  refine U1u he1 (c := Z1ai) rfl ?_
  clear he1 a1
  have hrmF := facesL_many d
  refine U2 Z1aj Z1ak rfl rfl rfl (U2 Z1al Z1am rfl rfl rfl (U1 rfl (mvs 0 2 rfl rfl (wlr 2 rfl (U1f rfl rfl rfl rfl rfl rfl uT65) (wlr 3 rfl (U17 rfl rfl rfl) (U5 rfl (nmk [4, 5, 7, 8, 17] rfl (U4 ?_))))))))
  refine Ue Z1an Z1ao rfl rfl rfl rfl (fun hb17 => ?_) (fun hb17 => ?_)
  ·refine Uf rfl (nmk [4, 5, 7, 8] rfl (U4 (U2 Z1ap Z1aq rfl rfl rfl (Uc Z1ar 1 rfl rfl rfl (U2 Z1as Z1at rfl rfl rfl (U1 rfl (mvs 0 2 rfl rfl (U5 rfl ?_))))))))
   refine U4 (U2 Z1au Z1av rfl rfl rfl (U2 Z1aw Z1ax rfl rfl rfl (U1 rfl (mvs 0 1 rfl rfl (U5 rfl (U4 (Uc Z1ay 2 rfl rfl rfl ?_)))))))
   refine U11 (fun mx_ ax_ wx_ => ∃ (k : Nat) (a : Bool) (b : Bool), mx_ = (ga (U6 d) i).length - k ∧ Env 57 [(4, .pointer (some ⟨gb2, 0, none⟩)), (5, .pointer (some ⟨gb3, 0, none⟩)), (7, .slice A1 vs1.length c1), (8, .int .i64 (i : Int)), (9, .bool a), (10, .bool b), (11, .int .i64 (k : Int))] ax_ ∧ SH wx_ M1 X [Rs.box gb3 26 [.int .i64 v.a, .bool v.b], Rs.box gb2 26 [.int .i64 u.a, .bool u.b]] ∧ k ≤ (ga (U6 d) i).length ∧ a = ((ga (U6 d) i).take k).any (daE u) ∧ b = ((ga (U6 d) i).take k).any (daE v)) rfl ?_ ?_
   ·intro ax_ hax_
    refine ⟨_, ⟨0, false, false, rfl, hax_.sub ⟨rfl, rfl, rfl, rfl, rfl, rfl, rfl, trivial⟩, S5.pick [0, 1] [_, _] (by decide) ⟨rfl, rfl, trivial⟩, ?hq2f0, ?hq2f1, ?hq2f2⟩⟩
    case hq2f0 => omega
    case hq2f1 => rfl
    case hq2f2 => rfl
   ·rintro m2 a2 w6 ⟨k, a, b, rfl, he2, S6, hk, ha, hb⟩
    clear S5
    refine U1u he2 (c := Z1az) rfl ?_
    clear he2 a2
    refine U2 Z1b0 Z1b1 rfl rfl rfl (U2 Z1b2 Z1b3 rfl rfl rfl (U1 rfl (mvs 0 3 rfl rfl (wlr 3 rfl (Uj (C := (cdV 141)) i rfl rfl rfl sl65 (by first | rfl | omega) hr1 (by first | omega | (simp only [ls]; omega))) ?_))))
    obtain ⟨hn1, hr2⟩ := hd1.2 i (by first | omega | (simp only [ls]; omega))
    have rmhr2 : (ga (U6 d) i).length * 16 ≤ 140737488355328 := hr2.room
    refine wlr 4 rfl (U3 rfl rfl uT141 rfl (hr1.cell S6.m (i := i) (by first | omega | (simp only [ls]; omega)) 0 rfl (congrArg (fun n => some (Value.slice _ n _)) hn1))) ?_
    refine wlr 5 rfl (U1f rfl rfl rfl rfl rfl rfl uT141) (wlr 6 rfl (U17 rfl rfl rfl) (U5 rfl (nmk [4, 5, 7, 8, 9, 10, 11, 26] rfl (U4 ?_))))
    refine Ue Z1b4 Z1b5 rfl rfl rfl rfl (fun hb26 => ?_) (fun hb26 => ?_)
    ·refine Uf rfl (nmk [4, 5, 7, 8, 9, 10, 11] rfl (U4 (U2 Z1b6 Z1b7 rfl rfl rfl (Uc Z1b8 3 rfl rfl rfl (U2 Z1b9 Z1ba rfl rfl rfl (Ux rfl (by kernel_rfl) S6 13 rfl ?_))))))
     clear S6
     refine wap 0 12 rfl (by kernel_rfl) (fun _ => run_move rfl rfl) ?_
     refine wap 1 11 rfl (by kernel_rfl) (fun _ => run_move rfl rfl) ?_
     refine wa_split (t := 30) rfl (fun hg30 => ?_) (fun hg30 => ?_)
     ·refine Ur (i := 2) (d := 31) 10 rfl (by kernel_rfl) (by kernel_rfl) (by kernel_rfl) ⟨_, _, _, rfl, rfl, rfl, rfl⟩ rfl rfl ?_
      refine Ur (i := 3) (d := 32) 9 rfl (by kernel_rfl) (by kernel_rfl) (by kernel_rfl) ⟨_, _, _, rfl, rfl, rfl, rfl⟩ rfl rfl ?_
      refine Ur (i := 4) (d := 33) 8 rfl (by kernel_rfl) (by kernel_rfl) (by kernel_rfl) ⟨_, _, _, rfl, rfl, rfl, rfl⟩ rfl rfl ?_
      refine Ur (i := 5) (d := 34) 7 rfl (by kernel_rfl) (by kernel_rfl) (by kernel_rfl) ⟨_, _, _, rfl, rfl, rfl, rfl⟩ rfl rfl ?_
      refine Ur (i := 6) (d := 35) 6 rfl (by kernel_rfl) (by kernel_rfl) (by kernel_rfl) ⟨_, _, _, rfl, rfl, rfl, rfl⟩ rfl rfl ?_
      refine Ur (i := 7) (d := 36) 5 rfl (by kernel_rfl) (by kernel_rfl) (by kernel_rfl) ⟨_, _, _, rfl, rfl, rfl, rfl⟩ rfl rfl ?_
      refine Ur (i := 8) (d := 37) 4 rfl (by kernel_rfl) (by kernel_rfl) (by kernel_rfl) ⟨_, _, _, rfl, rfl, rfl, rfl⟩ rfl rfl ?_
      refine Ur (i := 9) (d := 38) 3 rfl (by kernel_rfl) (by kernel_rfl) (by kernel_rfl) ⟨_, _, _, rfl, rfl, rfl, rfl⟩ rfl rfl ?_
      refine Ur (i := 10) (d := 39) 2 rfl (by kernel_rfl) (by kernel_rfl) (by kernel_rfl) ⟨_, _, _, rfl, rfl, rfl, rfl⟩ rfl rfl ?_
      refine wap 11 1 rfl (by kernel_rfl) (fun _ => U1e rfl rfl rfl) ?_
      refine wap 12 0 rfl (by kernel_rfl) (fun _ => run_assign rfl rfl) ?_
      refine Uu (by kernel_rfl) (fun w11 S11 => ?_)
      refine nmk [4, 5, 7, 8, 9, 10, 11] rfl (U4 (Ux rfl (by kernel_rfl) S11 13 rfl ?_))
      clear S11
      refine wap 0 12 rfl (by kernel_rfl) (fun _ => run_move rfl rfl) ?_
      refine wap 1 11 rfl (by kernel_rfl) (fun _ => run_move rfl rfl) ?_
      refine wa_split (t := 42) rfl (fun hg42 => ?_) (fun hg42 => ?_)
      ·refine Ur (i := 2) (d := 43) 10 rfl (by kernel_rfl) (by kernel_rfl) (by kernel_rfl) ⟨_, _, _, rfl, rfl, rfl, rfl⟩ rfl rfl ?_
       refine Ur (i := 3) (d := 44) 9 rfl (by kernel_rfl) (by kernel_rfl) (by kernel_rfl) ⟨_, _, _, rfl, rfl, rfl, rfl⟩ rfl rfl ?_
       refine Ur (i := 4) (d := 45) 8 rfl (by kernel_rfl) (by kernel_rfl) (by kernel_rfl) ⟨_, _, _, rfl, rfl, rfl, rfl⟩ rfl rfl ?_
       refine Ur (i := 5) (d := 46) 7 rfl (by kernel_rfl) (by kernel_rfl) (by kernel_rfl) ⟨_, _, _, rfl, rfl, rfl, rfl⟩ rfl rfl ?_
       refine Ur (i := 6) (d := 47) 6 rfl (by kernel_rfl) (by kernel_rfl) (by kernel_rfl) ⟨_, _, _, rfl, rfl, rfl, rfl⟩ rfl rfl ?_
       refine Ur (i := 7) (d := 48) 5 rfl (by kernel_rfl) (by kernel_rfl) (by kernel_rfl) ⟨_, _, _, rfl, rfl, rfl, rfl⟩ rfl rfl ?_
       refine Ur (i := 8) (d := 49) 4 rfl (by kernel_rfl) (by kernel_rfl) (by kernel_rfl) ⟨_, _, _, rfl, rfl, rfl, rfl⟩ rfl rfl ?_
       refine Ur (i := 9) (d := 50) 3 rfl (by kernel_rfl) (by kernel_rfl) (by kernel_rfl) ⟨_, _, _, rfl, rfl, rfl, rfl⟩ rfl rfl ?_
       refine Ur (i := 10) (d := 51) 2 rfl (by kernel_rfl) (by kernel_rfl) (by kernel_rfl) ⟨_, _, _, rfl, rfl, rfl, rfl⟩ rfl rfl ?_
       refine wap 11 1 rfl (by kernel_rfl) (fun _ => U1e rfl rfl rfl) ?_
       refine wap 12 0 rfl (by kernel_rfl) (fun _ => run_assign rfl rfl) ?_
       refine Uu (by kernel_rfl) (fun w16 S16 => ?_)
       refine U12 (nmk [4, 5, 7, 8, 9, 10, 11] rfl (U4 (U1 rfl (mvs 0 1 rfl rfl (wlr 1 rfl (Ug rfl rfl rfl (by first | omega | (simp only [ls]; omega))) ?_)))))
       refine mvs 2 1 rfl rfl (U5 rfl (U15 ?_))
       intro ax_ hax_
       refine ⟨_, ?hq3m, ⟨k + 1, _, _, rfl, hax_.sub ⟨rfl, rfl, rfl, rfl, rfl, rfl, rfl, trivial⟩, S16.pick [0, 1] [_, _] (by decide) ⟨rfl, rfl, trivial⟩, ?hq3f0, ?hq3f1, ?hq3f2⟩⟩
       case hq3f0 => omega
       case hq3f1 => (rw [U3z _ _ (by omega), ← ha, ← U3x]; (try rw [hg30]); rfl)
       case hq3f2 => (rw [U3z _ _ (by omega), ← hb, ← U3x]; (try rw [hg42]); rfl)
       case hq3m => omega
      ·refine wap 2 10 rfl (by kernel_rfl) (fun _ => run_move rfl rfl) ?_
       refine wap 3 9 rfl (by kernel_rfl) (fun _ => run_move rfl rfl) ?_
       refine wat 4 8 rfl (by kernel_rfl) (fun _ _ _ hz Sz => .inl (Uj (C := (cdV 141)) i rfl rfl rfl sl65 (by first | rfl | omega) (hr1.mono hz) (by first | omega | (simp only [ls]; omega)))) ?_
       obtain ⟨hn2, hr3⟩ := hd1.2 i (by first | omega | (simp only [ls]; omega))
       have rmhr3 : (ga (U6 d) i).length * 16 ≤ 140737488355328 := hr3.room
       refine wat 5 7 rfl (by kernel_rfl) (fun _ _ _ hz Sz => .inl (U3 rfl rfl uT141 rfl ((hr1.mono hz).cell Sz.m (i := i) (by first | omega | (simp only [ls]; omega)) 0 rfl (congrArg (fun n => some (Value.slice _ n _)) hn2)))) ?_
       refine wap 6 6 rfl (by kernel_rfl) (fun _ => run_move rfl rfl) ?_
       refine wat 7 5 rfl (by kernel_rfl) (fun _ _ _ hz Sz => .inl (Uj (C := cdDa) k rfl rfl rfl sl141 (by first | rfl | omega) (hr3.mono hz) (by first | omega | (simp only [ls]; omega)))) ?_
       refine wat 8 4 rfl (by kernel_rfl) (fun _ _ _ hz Sz => .inl (U8 (us := [_, _]) rfl rfl uT26 rfl sz26 ((hr3.mono hz).U1x Sz.m (e := k) (by first | omega | (simp only [ls]; omega)) (j := 0) ⟨rfl, rfl, trivial⟩))) ?_
       refine wat 9 3 rfl (by kernel_rfl) (fun _ _ _ hz Sz => .inl (U8 (us := [_, _]) rfl rfl uT26 rfl sz26 (Sz.suf.boxcs (i := 0) rfl ⟨rfl, rfl, trivial⟩))) ?_
       refine wap 10 2 rfl (by kernel_rfl) (fun _ => run_eqSt (Q := ((ga (ga (U6 d) i) k).a) = v.a ∧ ((ga (ga (U6 d) i) k).b) = v.b) rfl rfl rfl se26 ⟨_, _, _, _, rfl, rfl, ⟨_, _, rfl, rfl, rfl⟩, rfl⟩) ?_
       refine wap 11 1 rfl (by kernel_rfl) (fun _ => U1r rfl rfl rfl) ?_
       refine wap 12 0 rfl (by kernel_rfl) (fun _ => run_assign rfl rfl) ?_
       refine Uu (by kernel_rfl) (fun w28 S28 => ?_)
       refine U12 (nmk [4, 5, 7, 8, 9, 10, 11] rfl (U4 (U1 rfl (mvs 0 1 rfl rfl (wlr 1 rfl (Ug rfl rfl rfl (by first | omega | (simp only [ls]; omega))) ?_)))))
       refine mvs 2 1 rfl rfl (U5 rfl (U15 ?_))
       intro ax_ hax_
       refine ⟨_, ?hq4m, ⟨k + 1, _, _, rfl, hax_.sub ⟨rfl, rfl, rfl, rfl, rfl, rfl, rfl, trivial⟩, S28.pick [0, 1] [_, _] (by decide) ⟨rfl, rfl, trivial⟩, ?hq4f0, ?hq4f1, ?hq4f2⟩⟩
       case hq4f0 => omega
       case hq4f1 => (rw [U3z _ _ (by omega), ← ha, ← U3x]; (try rw [hg30]); rfl)
       case hq4f2 => (rw [U3z _ _ (by omega), ← hb, ← U3x]; (try rw [hg42]); rfl)
       case hq4m => omega
     ·refine wap 2 10 rfl (by kernel_rfl) (fun _ => run_move rfl rfl) ?_
      refine wap 3 9 rfl (by kernel_rfl) (fun _ => run_move rfl rfl) ?_
      refine wat 4 8 rfl (by kernel_rfl) (fun _ _ _ hz Sz => .inl (Uj (C := (cdV 141)) i rfl rfl rfl sl65 (by first | rfl | omega) (hr1.mono hz) (by first | omega | (simp only [ls]; omega)))) ?_
      obtain ⟨hn3, hr4⟩ := hd1.2 i (by first | omega | (simp only [ls]; omega))
      have rmhr4 : (ga (U6 d) i).length * 16 ≤ 140737488355328 := hr4.room
      refine wat 5 7 rfl (by kernel_rfl) (fun _ _ _ hz Sz => .inl (U3 rfl rfl uT141 rfl ((hr1.mono hz).cell Sz.m (i := i) (by first | omega | (simp only [ls]; omega)) 0 rfl (congrArg (fun n => some (Value.slice _ n _)) hn3)))) ?_
      refine wap 6 6 rfl (by kernel_rfl) (fun _ => run_move rfl rfl) ?_
      refine wat 7 5 rfl (by kernel_rfl) (fun _ _ _ hz Sz => .inl (Uj (C := cdDa) k rfl rfl rfl sl141 (by first | rfl | omega) (hr4.mono hz) (by first | omega | (simp only [ls]; omega)))) ?_
      refine wat 8 4 rfl (by kernel_rfl) (fun _ _ _ hz Sz => .inl (U8 (us := [_, _]) rfl rfl uT26 rfl sz26 ((hr4.mono hz).U1x Sz.m (e := k) (by first | omega | (simp only [ls]; omega)) (j := 0) ⟨rfl, rfl, trivial⟩))) ?_
      refine wat 9 3 rfl (by kernel_rfl) (fun _ _ _ hz Sz => .inl (U8 (us := [_, _]) rfl rfl uT26 rfl sz26 (Sz.suf.boxcs (i := 1) rfl ⟨rfl, rfl, trivial⟩))) ?_
      refine wap 10 2 rfl (by kernel_rfl) (fun _ => run_eqSt (Q := ((ga (ga (U6 d) i) k).a) = u.a ∧ ((ga (ga (U6 d) i) k).b) = u.b) rfl rfl rfl se26 ⟨_, _, _, _, rfl, rfl, ⟨_, _, rfl, rfl, rfl⟩, rfl⟩) ?_
      refine wap 11 1 rfl (by kernel_rfl) (fun _ => U1r rfl rfl rfl) ?_
      refine wap 12 0 rfl (by kernel_rfl) (fun _ => run_assign rfl rfl) ?_
      refine Uu (by kernel_rfl) (fun w40 S40 => ?_)
      refine nmk [4, 5, 7, 8, 9, 10, 11] rfl (U4 (Ux rfl (by kernel_rfl) S40 13 rfl ?_))
      clear S40
      refine wap 0 12 rfl (by kernel_rfl) (fun _ => run_move rfl rfl) ?_
      refine wap 1 11 rfl (by kernel_rfl) (fun _ => run_move rfl rfl) ?_
      refine wa_split (t := 42) rfl (fun hg42 => ?_) (fun hg42 => ?_)
      ·refine Ur (i := 2) (d := 43) 10 rfl (by kernel_rfl) (by kernel_rfl) (by kernel_rfl) ⟨_, _, _, rfl, rfl, rfl, rfl⟩ rfl rfl ?_
       refine Ur (i := 3) (d := 44) 9 rfl (by kernel_rfl) (by kernel_rfl) (by kernel_rfl) ⟨_, _, _, rfl, rfl, rfl, rfl⟩ rfl rfl ?_
       refine Ur (i := 4) (d := 45) 8 rfl (by kernel_rfl) (by kernel_rfl) (by kernel_rfl) ⟨_, _, _, rfl, rfl, rfl, rfl⟩ rfl rfl ?_
       refine Ur (i := 5) (d := 46) 7 rfl (by kernel_rfl) (by kernel_rfl) (by kernel_rfl) ⟨_, _, _, rfl, rfl, rfl, rfl⟩ rfl rfl ?_
       refine Ur (i := 6) (d := 47) 6 rfl (by kernel_rfl) (by kernel_rfl) (by kernel_rfl) ⟨_, _, _, rfl, rfl, rfl, rfl⟩ rfl rfl ?_
       refine Ur (i := 7) (d := 48) 5 rfl (by kernel_rfl) (by kernel_rfl) (by kernel_rfl) ⟨_, _, _, rfl, rfl, rfl, rfl⟩ rfl rfl ?_
       refine Ur (i := 8) (d := 49) 4 rfl (by kernel_rfl) (by kernel_rfl) (by kernel_rfl) ⟨_, _, _, rfl, rfl, rfl, rfl⟩ rfl rfl ?_
       refine Ur (i := 9) (d := 50) 3 rfl (by kernel_rfl) (by kernel_rfl) (by kernel_rfl) ⟨_, _, _, rfl, rfl, rfl, rfl⟩ rfl rfl ?_
       refine Ur (i := 10) (d := 51) 2 rfl (by kernel_rfl) (by kernel_rfl) (by kernel_rfl) ⟨_, _, _, rfl, rfl, rfl, rfl⟩ rfl rfl ?_
       refine wap 11 1 rfl (by kernel_rfl) (fun _ => U1e rfl rfl rfl) ?_
       refine wap 12 0 rfl (by kernel_rfl) (fun _ => run_assign rfl rfl) ?_
       refine Uu (by kernel_rfl) (fun w45 S45 => ?_)
       refine U12 (nmk [4, 5, 7, 8, 9, 10, 11] rfl (U4 (U1 rfl (mvs 0 1 rfl rfl (wlr 1 rfl (Ug rfl rfl rfl (by first | omega | (simp only [ls]; omega))) ?_)))))
       refine mvs 2 1 rfl rfl (U5 rfl (U15 ?_))
       intro ax_ hax_
       refine ⟨_, ?hq5m, ⟨k + 1, _, _, rfl, hax_.sub ⟨rfl, rfl, rfl, rfl, rfl, rfl, rfl, trivial⟩, S45.pick [0, 1] [_, _] (by decide) ⟨rfl, rfl, trivial⟩, ?hq5f0, ?hq5f1, ?hq5f2⟩⟩
       case hq5f0 => omega
       case hq5f1 => (rw [U3z _ _ (by omega), ← ha, ← U3x]; (try rw [hg30]); rfl)
       case hq5f2 => (rw [U3z _ _ (by omega), ← hb, ← U3x]; (try rw [hg42]); rfl)
       case hq5m => omega
      ·refine wap 2 10 rfl (by kernel_rfl) (fun _ => run_move rfl rfl) ?_
       refine wap 3 9 rfl (by kernel_rfl) (fun _ => run_move rfl rfl) ?_
       refine wat 4 8 rfl (by kernel_rfl) (fun _ _ _ hz Sz => .inl (Uj (C := (cdV 141)) i rfl rfl rfl sl65 (by first | rfl | omega) (hr1.mono hz) (by first | omega | (simp only [ls]; omega)))) ?_
       obtain ⟨hn4, hr5⟩ := hd1.2 i (by first | omega | (simp only [ls]; omega))
       have rmhr5 : (ga (U6 d) i).length * 16 ≤ 140737488355328 := hr5.room
       refine wat 5 7 rfl (by kernel_rfl) (fun _ _ _ hz Sz => .inl (U3 rfl rfl uT141 rfl ((hr1.mono hz).cell Sz.m (i := i) (by first | omega | (simp only [ls]; omega)) 0 rfl (congrArg (fun n => some (Value.slice _ n _)) hn4)))) ?_
       refine wap 6 6 rfl (by kernel_rfl) (fun _ => run_move rfl rfl) ?_
       refine wat 7 5 rfl (by kernel_rfl) (fun _ _ _ hz Sz => .inl (Uj (C := cdDa) k rfl rfl rfl sl141 (by first | rfl | omega) (hr5.mono hz) (by first | omega | (simp only [ls]; omega)))) ?_
       refine wat 8 4 rfl (by kernel_rfl) (fun _ _ _ hz Sz => .inl (U8 (us := [_, _]) rfl rfl uT26 rfl sz26 ((hr5.mono hz).U1x Sz.m (e := k) (by first | omega | (simp only [ls]; omega)) (j := 0) ⟨rfl, rfl, trivial⟩))) ?_
       refine wat 9 3 rfl (by kernel_rfl) (fun _ _ _ hz Sz => .inl (U8 (us := [_, _]) rfl rfl uT26 rfl sz26 (Sz.suf.boxcs (i := 0) rfl ⟨rfl, rfl, trivial⟩))) ?_
       refine wap 10 2 rfl (by kernel_rfl) (fun _ => run_eqSt (Q := ((ga (ga (U6 d) i) k).a) = v.a ∧ ((ga (ga (U6 d) i) k).b) = v.b) rfl rfl rfl se26 ⟨_, _, _, _, rfl, rfl, ⟨_, _, rfl, rfl, rfl⟩, rfl⟩) ?_
       refine wap 11 1 rfl (by kernel_rfl) (fun _ => U1r rfl rfl rfl) ?_
       refine wap 12 0 rfl (by kernel_rfl) (fun _ => run_assign rfl rfl) ?_
       refine Uu (by kernel_rfl) (fun w57 S57 => ?_)
       refine U12 (nmk [4, 5, 7, 8, 9, 10, 11] rfl (U4 (U1 rfl (mvs 0 1 rfl rfl (wlr 1 rfl (Ug rfl rfl rfl (by first | omega | (simp only [ls]; omega))) ?_)))))
       refine mvs 2 1 rfl rfl (U5 rfl (U15 ?_))
       intro ax_ hax_
       refine ⟨_, ?hq6m, ⟨k + 1, _, _, rfl, hax_.sub ⟨rfl, rfl, rfl, rfl, rfl, rfl, rfl, trivial⟩, S57.pick [0, 1] [_, _] (by decide) ⟨rfl, rfl, trivial⟩, ?hq6f0, ?hq6f1, ?hq6f2⟩⟩
       case hq6f0 => omega
       case hq6f1 => (rw [U3z _ _ (by omega), ← ha, ← U3x]; (try rw [hg30]); rfl)
       case hq6f2 => (rw [U3z _ _ (by omega), ← hb, ← U3x]; (try rw [hg42]); rfl)
       case hq6m => omega
    ·refine U16 rfl rfl (nmk [4, 5, 7, 8, 9, 10] rfl (U4 (U2 Z1bb Z1bc rfl rfl rfl ?_)))
     obtain rfl : k = (ga (U6 d) i).length := by omega
     rw [List.take_length] at ha hb
     refine U1 rfl (mvs 0 2 rfl rfl ?_)
     refine U2x (t := 54) rfl (fun hg54 => ?_) (fun hg54 => ?_)
     ·refine mvs 2 2 rfl rfl (U5 rfl (nmk [4, 5, 7, 8, 56] rfl (U4 ?_)))
      refine U19 Z1bd Z1be rfl rfl rfl rfl (fun hb56 => ?_) (fun hb56 => ?_)
      ·have honT : onP u v (ga (U6 d) i) = true := by unfold onP; rw [← ha, ← hb, hg54, hb56]; rfl
       refine U2 Z1bf Z1bg rfl rfl rfl (U1 rfl (mvs 0 1 rfl rfl (U5 rfl (nmk [6] rfl (U4 (Uk hC [_] rfl rfl ⟨rfl, trivial⟩ ?_))))))
       refine ⟨_, rfl, _, hle1, (S6.pick [] [] (by decide) trivial), ?_⟩
       have := U2m (show i < (U6 d).length by omega)
       show Value.bool _ = Value.bool _
       rw [List.any_eq_true.2 ⟨_, this, honT⟩]
      ·refine Uf rfl (U12 (nmk [4, 5, 7, 8] rfl (U4 (U1 rfl (mvs 0 1 rfl rfl (wlr 1 rfl (Ug rfl rfl rfl (by first | omega | (simp only [ls]; omega))) ?_))))))
       refine mvs 2 1 rfl rfl (U5 rfl (U15 ?_))
       have honF : onP u v (ga (U6 d) i) = false := by unfold onP; rw [← ha, ← hb]; first | (rw [hg54]; rfl) | (rw [hb56, Bool.and_false])
       intro ax_ hax_
       refine ⟨_, ?hq7m, ⟨i + 1, rfl, hax_.sub ⟨rfl, rfl, rfl, rfl, trivial⟩, S6.pick [0, 1] [_, _] (by decide) ⟨rfl, rfl, trivial⟩, ?hq7f0, ?hq7f1⟩⟩
       case hq7f0 => omega
       case hq7f1 => (intro j hj; by_cases e : j = i; (subst e; exact honF); exact hno j (by omega))
       case hq7m => omega
     ·refine mvs 2 2 rfl rfl (U5 rfl (nmk [4, 5, 7, 8, 56] rfl (U4 (U2c Z1be rfl rfl rfl (Uf rfl (U12 (nmk [4, 5, 7, 8] rfl (U4 ?_))))))))
      refine U1 rfl (mvs 0 1 rfl rfl (wlr 1 rfl (Ug rfl rfl rfl (by first | omega | (simp only [ls]; omega))) ?_))
      refine mvs 2 1 rfl rfl (U5 rfl (U15 ?_))
      have honF : onP u v (ga (U6 d) i) = false := by unfold onP; rw [← ha, ← hb]; first | (rw [hg54]; rfl) | (rw [hb56, Bool.and_false])
      intro ax_ hax_
      refine ⟨_, ?hq8m, ⟨i + 1, rfl, hax_.sub ⟨rfl, rfl, rfl, rfl, trivial⟩, S6.pick [0, 1] [_, _] (by decide) ⟨rfl, rfl, trivial⟩, ?hq8f0, ?hq8f1⟩⟩
      case hq8f0 => omega
      case hq8f1 => (intro j hj; by_cases e : j = i; (subst e; exact honF); exact hno j (by omega))
      case hq8m => omega
  ·refine U16 rfl rfl (U1a [] trivial (U4 (U2 Z1bh Z1bi rfl rfl rfl (U1 rfl (mvs 0 1 rfl rfl (U5 rfl (U4 (Uk hC [_] rfl rfl ⟨rfl, trivial⟩ ?_))))))))
   refine ⟨_, rfl, _, hle1, (S5.pick [] [] (by decide) trivial), ?_⟩
   show Value.bool _ = Value.bool _
   rw [List.any_eq_false.2 (fun x hx => by obtain ⟨j, hj, rfl⟩ := List.mem_iff_getElem.1 hx; rw [← U36 hj, hno j (by omega)]; decide)]
end Go.Proofs.YthppkofceancjaaGreat
