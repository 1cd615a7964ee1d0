/- Part 12 of the proof of the law MovesDo: the walks through its functions and the plain laws that they need. -/
import Derived.Test.YthppkofceancjaaGreatMvZ11
set_option linter.unusedSimpArgs false
set_option linter.unusedVariables false
noncomputable section
namespace Go.Proofs.YthppkofceancjaaGreat
open Go.ChangeShapes Go.WideShapes Go.ChangeAt Go.RowKit
noncomputable def Z1bj:=Tryz.f33.body.getD .skip
def Z1bk := cL Z1bj
def Z1bl := cR Z1bj
def Z1bm := cL Z1bl
def Z1bn := cR Z1bl
def Z1bo := cL Z1bn
def Z1bp := cR Z1bn
def Z1bq := cL Z1bo
def Z1br := cR Z1bo
def Z1bs := cL Z1br
def Z1bt := cR Z1br
def Z1bu := cL Z1bs
def Z1bv := cR Z1bs
def Z1bw := cL Z1bp
def Z1bx := cR Z1bp
def Z1by := cL Z1bw
def Z1bz := cR Z1bw
def Z1c0 := cL Z1bz
def Z1c1 := cR Z1bz
def Z1c2 := cL Z1c0
def Z1c3 := cR Z1c0
def Z1c4 := cL Z1bx
def Z1c5 := cR Z1bx
def Z1c6 := cL Z1c5
def Z1c7 := cR Z1c5
def Z1c8 := cL Z1c7
def Z1c9 := cR Z1c7
def Z1ca := cL Z1c8
def Z1cb := cR Z1c8
def Z1cc := cL Z1cb
def Z1cd := cR Z1cb
def Z1ce := cL Z1cc
def Z1cf := cR Z1cc
def Z1cg := cL Z1c9
def Z1ch := cR Z1c9
def Z1ci := cL Z1ch
def Z1cj := cR Z1ch
def Z1ck := cL Z1cj
def Z1cl := cR Z1cj
def Z1cm := cL Z1ck
def Z1cn := cR Z1ck
def Z1co := cL Z1cn
def Z1cp := cR Z1cn
def Z1cq := cL Z1co
def Z1cr := cR Z1co
def Z1cs := cL Z1cr
def Z1ct := cR Z1cr
def Z1cu := cL Z1ct
def Z1cv := cR Z1ct
def Z1cw := cL Z1cp
def Z1cx := cR Z1cp
def Z1cy := cL Z1cx
def Z1cz := cR Z1cx
def Z1d0 := cL Z1cz
def Z1d1 := cR Z1cz
def Z1d2 := cL Z1cl
def Z1d3 := cR Z1cl
def Z1d4 := cL Z1d3
def Z1d5 := cR Z1d3
set_option maxHeartbeats 1000000 in
set_option maxRecDepth 10000 in
theorem curlOf_t {w : World} {M : Hp} {X : Fr} (d : Dg) {dcrsA : Option Addr} {dcrsc : Nat} (m : Mv) (hdcrs : RdA cdCr (M.un X.h) dcrsA dcrsc d.crs) (hn : d.crs.length ≤ 16) (hab : U1b d = true) (hlo : 0 ≤ d.loops ∧ d.loops ≤ 16) (S : SH w M X []) : Ct Tryz.prog 33 [.agg [.slice dcrsA d.crs.length dcrsc, .int .i64 d.loops].toArray, .agg [.int .i64 m.kd, .int .i64 m.at_, .int .i64 m.by_, .int .i64 m.ua, .bool m.ub, .int .i64 m.va, .bool m.vb, .bool m.ov].toArray] w M X (DoR (mvR (curE d m) (curD d m))) := by
 unfold Ct
 have rmhdcrs : d.crs.length * 40 ≤ 140737488355328 := hdcrs.room
 refine Uo (b := Z1bj) Tryz.func33 rfl Tryz.ntmps33 rfl (fun C hC => (U14 [(0, _), (1, _)] ⟨rfl, rfl, trivial⟩ (U2 Z1bk Z1bl rfl rfl rfl (U1 rfl (wlo 0 1 rfl rfl rfl (U18 (l := [_, _]) rfl rfl rfl rfl rfl S ?_))))))
 intro gb1 w1 S1; clear S
 refine wlo 1 2 rfl rfl rfl (U18 (l := [_, _, _, _, _, _, _, _]) rfl rfl rfl rfl rfl S1 ?_)
 intro gb2 w2 S2; clear S1
 refine wlo 2 3 rfl rfl rfl (Uh (l := [_, _]) rfl rfl rfl zr24 rfl S2 ?_)
 intro gb3 w3 S3; clear S2
 refine mvs 3 1 rfl rfl (U5 rfl (nmk [2, 3, 4] rfl (U4 (U2 Z1bm Z1bn rfl rfl rfl (U1 rfl (wlr 0 rfl (U0 rfl rfl uT24 rfl (ce22) (nf22)) (wlr 1 rfl (U3 rfl rfl uT22 rfl (S3.boxc (i := 2) rfl rfl)) (wlr 2 rfl (U1f rfl rfl rfl rfl rfl rfl uT22) ?_))))))))
 refine mvs 3 1 rfl rfl (U5 rfl (nmk [2, 3, 4, 6] rfl (U4 (U2 Z1bo Z1bp rfl rfl rfl (U2 Z1bq Z1br rfl rfl rfl (U1 rfl (wlr 0 rfl (U0 rfl rfl uT28 rfl (ce3) (nf3)) (wlr 1 rfl (U3 rfl rfl uT3 rfl (S3.boxc (i := 1) rfl rfl)) ?_))))))))
 refine wlr 2 rfl (U17 rfl rfl rfl) (mvs 3 1 rfl rfl ?_)
 refine U27 (k' := 8) (d := 23) (decide ((m.by_ < 0) ∨ (3 < m.by_))) [(2, _), (3, _), (4, _), (6, _)] ⟨rfl, rfl, rfl, rfl, trivial⟩ (fun hJ23 => ?_) ?_
 ·refine Ut (t := 19) rfl (fun hg19 => ?_) (fun hg19 => ?_)
  ·refine mvs 4 4 rfl rfl ?_
   exact U1t 23 (.bool (decide ((m.by_ < 0) ∨ (3 < m.by_)))) rfl (congrArg Value.bool (decide_eq_true (.inl hg19)).symm) (U22 [(23, _), (2, _), (3, _), (4, _), (6, _)] ⟨rfl, rfl, rfl, rfl, rfl, trivial⟩ hJ23)
  ·refine wlg 4 5 rfl rfl rfl rfl rfl rfl rfl rfl (Ub rfl rfl (U0 rfl rfl uT28 rfl (ce3) (nf3)) (wlg 5 6 rfl rfl rfl rfl rfl rfl rfl rfl (Ub rfl rfl (U3 rfl rfl uT3 rfl (S3.boxc (i := 1) rfl rfl)) (wlg 6 7 rfl rfl rfl rfl rfl rfl rfl rfl (Ub rfl rfl (run_gtr rfl rfl rfl) (mvs 7 1 rfl rfl ?_))))))
   exact U1t 23 (.bool (decide ((m.by_ < 0) ∨ (3 < m.by_)))) rfl (congrArg Value.bool (decide_eq_decide.2 ⟨.inr, fun h => h.resolve_left hg19⟩)) (U22 [(23, _), (2, _), (3, _), (4, _), (6, _)] ⟨rfl, rfl, rfl, rfl, rfl, trivial⟩ hJ23)
 ·refine mvs 8 1 rfl rfl ?_
  refine U27 (k' := 13) (d := 28) (decide (((m.by_ < 0) ∨ (3 < m.by_)) ∨ (m.at_ < 0))) [(2, _), (3, _), (4, _), (6, _)] ⟨rfl, rfl, rfl, rfl, trivial⟩ (fun hJ28 => ?_) ?_
  ·refine Ut (t := 24) rfl (fun hg24 => ?_) (fun hg24 => ?_)
   ·refine mvs 9 4 rfl rfl ?_
    exact U1t 28 (.bool (decide (((m.by_ < 0) ∨ (3 < m.by_)) ∨ (m.at_ < 0)))) rfl (congrArg Value.bool (decide_eq_true (.inl hg24)).symm) (U22 [(28, _), (2, _), (3, _), (4, _), (6, _)] ⟨rfl, rfl, rfl, rfl, rfl, trivial⟩ hJ28)
   ·refine wlg 9 10 rfl rfl rfl rfl rfl rfl rfl rfl (Ub rfl rfl (U0 rfl rfl uT28 rfl (ce3) (nf3)) (wlg 10 11 rfl rfl rfl rfl rfl rfl rfl rfl (Ub rfl rfl (U3 rfl rfl uT3 rfl (S3.boxc (i := 1) rfl rfl)) (wlg 11 12 rfl rfl rfl rfl rfl rfl rfl rfl (Ub rfl rfl (U17 rfl rfl rfl) (mvs 12 1 rfl rfl ?_))))))
    exact U1t 28 (.bool (decide (((m.by_ < 0) ∨ (3 < m.by_)) ∨ (m.at_ < 0)))) rfl (congrArg Value.bool (decide_eq_decide.2 ⟨.inr, fun h => h.resolve_left hg24⟩)) (U22 [(28, _), (2, _), (3, _), (4, _), (6, _)] ⟨rfl, rfl, rfl, rfl, rfl, trivial⟩ hJ28)
  ·refine mvs 13 1 rfl rfl ?_
   refine U27 (k' := 20) (d := 35) (decide ((((m.by_ < 0) ∨ (3 < m.by_)) ∨ (m.at_ < 0)) ∨ ((2 * (d.crs.length : Int)) < m.at_))) [(2, _), (3, _), (4, _), (6, _)] ⟨rfl, rfl, rfl, rfl, trivial⟩ (fun hJ35 => ?_) ?_
   ·refine Ut (t := 29) rfl (fun hg29 => ?_) (fun hg29 => ?_)
    ·refine mvs 14 6 rfl rfl ?_
     exact U1t 35 (.bool (decide ((((m.by_ < 0) ∨ (3 < m.by_)) ∨ (m.at_ < 0)) ∨ ((2 * (d.crs.length : Int)) < m.at_)))) rfl (congrArg Value.bool (decide_eq_true (.inl hg29)).symm) (U22 [(35, _), (2, _), (3, _), (4, _), (6, _)] ⟨rfl, rfl, rfl, rfl, rfl, trivial⟩ hJ35)
    ·refine wlg 14 15 rfl rfl rfl rfl rfl rfl rfl rfl (Ub rfl rfl (U0 rfl rfl uT28 rfl (ce3) (nf3)) (wlg 15 16 rfl rfl rfl rfl rfl rfl rfl rfl (Ub rfl rfl (U3 rfl rfl uT3 rfl (S3.boxc (i := 1) rfl rfl)) (mvs 16 1 rfl rfl (wlg 17 18 rfl rfl rfl rfl rfl rfl rfl rfl (Ub rfl rfl (U28 rfl rfl rfl (by first | omega | (simp only [ls]; omega))) ?_))))))
     refine wlg 18 19 rfl rfl rfl rfl rfl rfl rfl rfl (Ub rfl rfl (run_gtr rfl rfl rfl) (mvs 19 1 rfl rfl ?_))
     exact U1t 35 (.bool (decide ((((m.by_ < 0) ∨ (3 < m.by_)) ∨ (m.at_ < 0)) ∨ ((2 * (d.crs.length : Int)) < m.at_)))) rfl (congrArg Value.bool (decide_eq_decide.2 ⟨.inr, fun h => h.resolve_left hg29⟩)) (U22 [(35, _), (2, _), (3, _), (4, _), (6, _)] ⟨rfl, rfl, rfl, rfl, rfl, trivial⟩ hJ35)
   ·refine mvs 20 1 rfl rfl ?_
    refine U27 (k' := 30) (d := 45) (decide (((((m.by_ < 0) ∨ (3 < m.by_)) ∨ (m.at_ < 0)) ∨ ((2 * (d.crs.length : Int)) < m.at_)) ∨ ((m.at_ = 0) ∧ (d.loops = 0)))) [(2, _), (3, _), (4, _), (6, _)] ⟨rfl, rfl, rfl, rfl, trivial⟩ (fun hJ45 => ?_) ?_
    ·refine Ut (t := 36) rfl (fun hg36 => ?_) (fun hg36 => ?_)
     ·refine mvs 21 6 rfl rfl (mvs 27 3 rfl rfl (U5 rfl (nmk [2, 3, 4, 6, 45] rfl (U4 (U1h Z1bs rfl rfl rfl (U2 Z1bu Z1bv rfl rfl rfl (U1 rfl (wlr 0 rfl (run_build (l := [_, _]) rfl rfl st24 rfl rfl) ?_))))))))
      refine wlo 1 2 rfl rfl rfl (U7 (i := 0) (us := [_, _]) (l' := [_, _]) (H' := [_, _, _]) rfl rfl S3 rfl rfl rfl rfl sz24 rfl rfl rfl rfl ?_)
      intro w4 S4; clear S3
      refine mvs 2 1 rfl rfl (U5 rfl (nmk [4, 5] rfl (U4 (Uk hC [_, _] rfl rfl ⟨⟨_, rfl, Up (us := [_, _]) uT24 rfl sz24 (S4.boxcs (i := 0) rfl ⟨rfl, rfl, trivial⟩)⟩, rfl, trivial⟩ ?_))))
      refine ⟨_, rfl, _, Hp.le_refl _, (S4.pick [] [] (by decide) trivial), ?_⟩
      rw [U26 (c := 3) (by unfold curE; rw [if_neg (by omega)]) (by decide)]
      exact U1z 3
     ·refine wlg 21 22 rfl rfl rfl rfl rfl rfl rfl rfl (Ub rfl rfl (U0 rfl rfl uT28 rfl (ce3) (nf3)) (wlg 22 23 rfl rfl rfl rfl rfl rfl rfl rfl (Ub rfl rfl (U3 rfl rfl uT3 rfl (S3.boxc (i := 1) rfl rfl)) (wlg 23 24 rfl rfl rfl rfl rfl rfl rfl rfl (Ub rfl rfl (Uz rfl rfl rfl) (mvs 24 1 rfl rfl ?_))))))
      refine U27 (k' := 29) (d := 44) (decide ((m.at_ = 0) ∧ (d.loops = 0))) [(2, _), (3, _), (4, _), (6, _), (36, _)] ⟨rfl, rfl, rfl, rfl, rfl, trivial⟩ (fun hJ44 => ?_) ?_
      ·refine Ut (t := 40) rfl (fun hg40 => ?_) (fun hg40 => ?_)
       ·refine wlg 25 26 rfl rfl rfl rfl rfl rfl rfl rfl (Ub rfl rfl (U0 rfl rfl uT24 rfl (ce3) (nf3)) (wlg 26 27 rfl rfl rfl rfl rfl rfl rfl rfl (Ub rfl rfl (U3 rfl rfl uT3 rfl (S3.boxc (i := 2) rfl rfl)) (wlg 27 28 rfl rfl rfl rfl rfl rfl rfl rfl (Ub rfl rfl (Uz rfl rfl rfl) (mvs 28 1 rfl rfl ?_))))))
        exact U1t 44 (.bool (decide ((m.at_ = 0) ∧ (d.loops = 0)))) rfl (congrArg Value.bool (decide_eq_decide.2 ⟨fun h => ⟨hg40, h⟩, fun h => h.2⟩)) (U22 [(44, _), (2, _), (3, _), (4, _), (6, _), (36, _)] ⟨rfl, rfl, rfl, rfl, rfl, rfl, trivial⟩ hJ44)
       ·refine mvs 25 4 rfl rfl ?_
        exact U1t 44 (.bool (decide ((m.at_ = 0) ∧ (d.loops = 0)))) rfl (congrArg Value.bool (decide_eq_false (fun h => hg40 h.1)).symm) (U22 [(44, _), (2, _), (3, _), (4, _), (6, _), (36, _)] ⟨rfl, rfl, rfl, rfl, rfl, rfl, trivial⟩ hJ44)
      ·refine mvs 29 1 rfl rfl (U5 rfl (nmk [2, 3, 4, 6, 45] rfl (U4 ?_)))
       refine Ue Z1bs Z1bt rfl rfl rfl rfl (fun hb45 => ?_) (fun hb45 => ?_)
       ·refine U2 Z1bu Z1bv rfl rfl rfl (U1 rfl (wlr 0 rfl (run_build (l := [_, _]) rfl rfl st24 rfl rfl) (wlo 1 2 rfl rfl rfl (U7 (i := 0) (us := [_, _]) (l' := [_, _]) (H' := [_, _, _]) rfl rfl S3 rfl rfl rfl rfl sz24 rfl rfl rfl rfl ?_))))
        intro w5 S5; clear S3
        refine mvs 2 1 rfl rfl (U5 rfl (nmk [4, 5] rfl (U4 (Uk hC [_, _] rfl rfl ⟨⟨_, rfl, Up (us := [_, _]) uT24 rfl sz24 (S5.boxcs (i := 0) rfl ⟨rfl, rfl, trivial⟩)⟩, rfl, trivial⟩ ?_))))
        refine ⟨_, rfl, _, Hp.le_refl _, (S5.pick [] [] (by decide) trivial), ?_⟩
        rw [U26 (c := 3) (by unfold curE; rw [if_neg (by omega)]) (by decide)]
        exact U1z 3
       ·refine Uf rfl (nmk [2, 3, 4, 6] rfl (U4 (U2 Z1bw Z1bx rfl rfl rfl (U2 Z1by Z1bz rfl rfl rfl (U1 rfl (mvs 0 1 rfl rfl (wlr 1 rfl (Uz rfl rfl rfl) (U5 rfl ?_))))))))
        refine nmk [2, 3, 4, 6, 48] rfl (U4 ?_)
        refine Ue Z1c0 Z1c1 rfl rfl rfl rfl (fun hb48 => ?_) (fun hb48 => ?_)
        ·refine U2 Z1c2 Z1c3 rfl rfl rfl (U1 rfl (wlr 0 rfl (run_build (l := [_, _]) rfl rfl st24 rfl rfl) (wlo 1 2 rfl rfl rfl (U7 (i := 0) (us := [_, _]) (l' := [_, _]) (H' := [_, _, _]) rfl rfl S3 rfl rfl rfl rfl sz24 rfl rfl rfl rfl ?_))))
         intro w6 S6; clear S3
         refine mvs 2 1 rfl rfl (U5 rfl (nmk [4, 5] rfl (U4 (Uk hC [_, _] rfl rfl ⟨⟨_, rfl, Up (us := [_, _]) uT24 rfl sz24 (S6.boxcs (i := 0) rfl ⟨rfl, rfl, trivial⟩)⟩, rfl, trivial⟩ ?_))))
         refine ⟨_, rfl, _, Hp.le_refl _, (S6.pick [] [] (by decide) trivial), ?_⟩
         rw [U26 (c := 2) (by unfold curE; rw [if_pos (by omega), if_neg (by omega)]) (by decide)]
         exact U1z 2
        ·refine Uf rfl (nmk [2, 3, 4, 6] rfl (U4 (U2 Z1c4 Z1c5 rfl rfl rfl (U1 rfl (wlr 0 rfl (U8 (us := [_, _]) rfl rfl uT24 rfl sz24 (S3.boxcs (i := 2) rfl ⟨rfl, rfl, trivial⟩)) (wlo 1 2 rfl rfl rfl (wo_co rfl rfl rfl rfl rfl rfl rfl cf9 S3 (DgOwn_o d (hdcrs.mono S3.Uw) S3.lend) ?_)))))))
         intro vw7 w7 Nw7 S7 hRw7; clear S3
         obtain ⟨voc1, rfl, rfl⟩ := hRw7
         have S8 : SH _ _ _ [_, _, _, _] := S7; clear S7
         refine wlo 2 3 rfl rfl rfl (Uh (l := [_, _]) rfl rfl rfl zr24 rfl S8 ?_)
         intro gb4 w8 S9; clear S8
         refine wlo 3 4 rfl rfl rfl (U7 (i := 0) (us := [_, _]) (l' := [_, _]) (H' := [_, _, _, _, _]) rfl rfl S9 rfl rfl rfl rfl sz24 rfl (Uy (S9.one (i := 1) rfl) (Uy rfl rfl)) rfl rfl ?_)
         intro w9 S10; clear S9
         refine U5 rfl (nmk [2, 3, 4, 6, 7] rfl (U4 (U2 Z1c6 Z1c7 rfl rfl rfl (U1 rfl (wlr 0 rfl (U0 rfl rfl uT28 rfl (ce3) (nf3)) (wlr 1 rfl (U3 rfl rfl uT3 rfl (S10.boxc (i := 3) rfl rfl)) (mvs 2 1 rfl rfl (wlr 3 rfl (U28 rfl rfl rfl (by first | omega | (simp only [ls]; omega))) ?_))))))))
         refine wlr 4 rfl (Ug rfl rfl rfl (by first | omega | (simp only [ls]; omega))) ?_
         refine mvs 5 1 rfl rfl (wlr 6 rfl (U28 rfl rfl rfl (by first | omega | (simp only [ls]; omega))) ?_)
         refine wlr 7 rfl (Ug rfl rfl rfl (by first | omega | (simp only [ls]; omega))) ?_
         refine mvs 8 3 rfl rfl (U5 rfl (nmk [2, 3, 4, 6, 7, 8, 9, 10] rfl (U4 (U2 Z1c8 Z1c9 rfl rfl rfl (U2 Z1ca Z1cb rfl rfl rfl (U1 rfl (wlr 0 rfl (U0 rfl rfl uT28 rfl (ce3) (nf3)) (wlr 1 rfl (U3 rfl rfl uT3 rfl (S10.boxc (i := 3) rfl rfl)) ?_))))))))
         refine wlr 2 rfl (Uz rfl rfl rfl) (U5 rfl (nmk [2, 3, 4, 6, 7, 8, 9, 10, 62] rfl (U4 ?_)))
         refine Ue Z1cc Z1cd rfl rfl rfl rfl (fun hb62 => ?_) (fun hb62 => ?_)
         ·refine U2 Z1ce Z1cf rfl rfl rfl (U1 rfl (mvs 0 1 rfl rfl (wlr 1 rfl (U28 rfl rfl rfl (by first | omega | (simp only [ls]; omega))) ?_)))
          refine wlr 2 rfl (Ug rfl rfl rfl (by first | omega | (simp only [ls]; omega))) ?_
          refine mvs 3 1 rfl rfl (wlr 4 rfl (U28 rfl rfl rfl (by first | omega | (simp only [ls]; omega))) ?_)
          refine wlr 5 rfl (Ug rfl rfl rfl (by first | omega | (simp only [ls]; omega))) ?_
          refine mvs 6 1 rfl rfl (wlr 7 rfl (U28 rfl rfl rfl (by first | omega | (simp only [ls]; omega))) ?_)
          refine wlr 8 rfl (Ug rfl rfl rfl (by first | omega | (simp only [ls]; omega))) ?_
          refine mvs 9 3 rfl rfl (U5 rfl (nmk [3, 4, 7, 8, 9, 10] rfl (U4 (U1 rfl (wlr 0 rfl (U0 rfl rfl uT24 rfl (ce3) (nf3)) (wlr 1 rfl (U3 rfl rfl uT3 rfl (S10.boxc (i := 0) rfl rfl)) (wlr 2 rfl (run_sub rfl rfl rfl (by first | omega | (simp only [ls]; omega))) ?_)))))))
          refine wlr 3 rfl (U0 rfl rfl uT24 rfl (ce3) (nf3)) (wlo 4 5 rfl rfl rfl (U7 (i := 0) (us := [_]) (l' := [_, _]) (H' := [_, _, _, _, _]) rfl rfl S10 rfl rfl rfl rfl sz3 rfl rfl rfl rfl ?_))
          intro w10 S11; clear S10
          refine U5 rfl (nmk [3, 4, 7, 8, 9, 10] rfl (U4 (U2 Z1cg Z1ch rfl rfl rfl (U1 rfl (wlr 0 rfl (U0 rfl rfl uT28 rfl (ce3) (nf3)) (wlr 1 rfl (U3 rfl rfl uT3 rfl (S11.boxc (i := 3) rfl rfl)) (wlr 2 rfl (U2i rfl rfl rfl (by first | omega | (simp only [ls]; omega))) ?_)))))))
          refine wlr 3 rfl (Uz rfl rfl rfl) (mvs 4 1 rfl rfl (U5 rfl (nmk [3, 4, 7, 8, 9, 10, 11] rfl (U4 (U2 Z1ci Z1cj rfl rfl rfl (U1 rfl (wlo 0 1 rfl rfl rfl (Uh (l := [_, _, _, _, _]) rfl rfl rfl zr77 rfl S11 ?_))))))))
          intro gb5 w11 S12; clear S11
          refine U5 rfl (U4 (U2 Z1ck Z1cl rfl rfl rfl ?_))
          refine ws_cut (fun ax_ wx_ => ∃ (cc : Cr), Env 119 [(4, .pointer (some ⟨gb3, 0, none⟩)), (7, .pointer (some ⟨gb4, 0, none⟩)), (12, .pointer (some ⟨gb5, 0, none⟩))] ax_ ∧ SH wx_ M X [Rs.box gb5 77 [.int .i64 cc.a, .int .i64 cc.b, .int .i64 cc.c, .int .i64 cc.d, .bool cc.plus], Rs.box gb4 24 [voc1, .int .i64 (d.loops - 1)], Rs.row cdCr voc1 d.crs, Rs.box gb3 24 [.slice none 0 0, .int .i64 0], Rs.box gb2 28 [.int .i64 m.kd, .int .i64 m.at_, .int .i64 m.by_, .int .i64 m.ua, .bool m.ub, .int .i64 m.va, .bool m.vb, .bool m.ov], Rs.box gb1 24 [.slice dcrsA d.crs.length dcrsc, .int .i64 d.loops]] ∧ cc = U34 ((2 * (d.crs.length : Int)) + 1) ((2 * (d.crs.length : Int)) + 2) ((2 * (d.crs.length : Int)) + 2) ((2 * (d.crs.length : Int)) + 1) m.by_) ?_ ?_
          ·refine U2 Z1cm Z1cn rfl rfl rfl (U1 rfl (wlr 0 rfl (U0 rfl rfl uT28 rfl (ce3) (nf3)) (wlr 1 rfl (U3 rfl rfl uT3 rfl (S12.boxc (i := 4) rfl rfl)) (wlr 2 rfl (U2q rfl rfl rfl) (U5 rfl (nmk [4, 7, 8, 9, 10, 11, 12, 89] rfl (U4 ?_)))))))
           refine Ue Z1co Z1cp rfl rfl rfl rfl (fun hb89 => ?_) (fun hb89 => ?_)
           ·refine U2 Z1cq Z1cr rfl rfl rfl (U1 rfl (mvs 0 5 rfl rfl (wlr 5 rfl (run_build (l := [_, _, _, _, _]) rfl rfl st77 rfl rfl) (wlo 6 7 rfl rfl rfl (U7 (i := 0) (us := [_, _, _, _, _]) (l' := [_, _, _, _, _]) (H' := [_, _, _, _, _, _]) rfl rfl S12 rfl rfl rfl rfl sz77 rfl rfl rfl rfl ?_)))))
            intro w13 S14; clear S12
            refine U5 rfl (nmk [4, 7, 8, 9, 11, 12] rfl (U4 (U2 Z1cs Z1ct rfl rfl rfl (U1 rfl (mvs 0 1 rfl rfl (U5 rfl (nmk [4, 7, 8, 9, 12, 96] rfl (U4 ?_))))))))
            refine Ue Z1cu Z1cv rfl rfl rfl rfl (fun hb96 => ?_) (fun hb96 => ?_)
            ·refine U1 rfl (mvs 0 2 rfl rfl (wlr 2 rfl (U0 rfl rfl uT77 rfl (ce3) (nf3)) (wlo 3 4 rfl rfl rfl (U7 (i := 0) (us := [_]) (l' := [_, _, _, _, _]) (H' := [_, _, _, _, _, _]) rfl rfl S14 rfl rfl rfl rfl sz3 rfl rfl rfl rfl ?_))))
             intro w14 S15; clear S14
             refine wlr 4 rfl (U0 rfl rfl uT77 rfl (ce3) (nf3)) (wlo 5 6 rfl rfl rfl (U7 (i := 0) (us := [_]) (l' := [_, _, _, _, _]) (H' := [_, _, _, _, _, _]) rfl rfl S15 rfl rfl rfl rfl sz3 rfl rfl rfl rfl ?_))
             intro w15 S16; clear S15
             refine U5 rfl (U15 ?_)
             intro ax_ hax_
             refine ⟨(⟨(2 * (d.crs.length : Int)) + 2, (2 * (d.crs.length : Int)) + 2, (2 * (d.crs.length : Int)) + 1, (2 * (d.crs.length : Int)) + 1, decide ((m.by_ % 2) = 1)⟩ : Cr), hax_.sub ⟨rfl, rfl, rfl, trivial⟩, S16.pick [0, 1, 2, 3, 4, 5] [_, _, _, _, _, _] (by decide) ⟨rfl, rfl, rfl, rfl, rfl, rfl, trivial⟩, ?hq1f0⟩
             case hq1f0 => (unfold U34 U2d; rw [if_pos (by omega), decide_eq_true hb96, if_pos rfl])
            ·refine Uf rfl (U15 ?_)
             intro ax_ hax_
             refine ⟨(⟨(2 * (d.crs.length : Int)) + 2, (2 * (d.crs.length : Int)) + 1, (2 * (d.crs.length : Int)) + 1, (2 * (d.crs.length : Int)) + 2, decide ((m.by_ % 2) = 1)⟩ : Cr), hax_.sub ⟨rfl, rfl, rfl, trivial⟩, S14.pick [0, 1, 2, 3, 4, 5] [_, _, _, _, _, _] (by decide) ⟨rfl, rfl, rfl, rfl, rfl, rfl, trivial⟩, ?hq2f0⟩
             case hq2f0 => (unfold U34 U2d; rw [if_pos (by omega), decide_eq_false hb96, if_neg Bool.false_ne_true])
           ·refine U2 Z1cw Z1cx rfl rfl rfl (U1 rfl (mvs 0 5 rfl rfl (wlr 5 rfl (run_build (l := [_, _, _, _, _]) rfl rfl st77 rfl rfl) (wlo 6 7 rfl rfl rfl (U7 (i := 0) (us := [_, _, _, _, _]) (l' := [_, _, _, _, _]) (H' := [_, _, _, _, _, _]) rfl rfl S12 rfl rfl rfl rfl sz77 rfl rfl rfl rfl ?_)))))
            intro w16 S17; clear S12
            refine U5 rfl (nmk [4, 7, 9, 10, 11, 12] rfl (U4 (U2 Z1cy Z1cz rfl rfl rfl (U1 rfl (mvs 0 1 rfl rfl (U5 rfl (nmk [4, 7, 9, 10, 12, 107] rfl (U4 ?_))))))))
            refine Ue Z1d0 Z1d1 rfl rfl rfl rfl (fun hb107 => ?_) (fun hb107 => ?_)
            ·refine U1 rfl (mvs 0 2 rfl rfl (wlr 2 rfl (U0 rfl rfl uT77 rfl (ce3) (nf3)) (wlo 3 4 rfl rfl rfl (U7 (i := 0) (us := [_]) (l' := [_, _, _, _, _]) (H' := [_, _, _, _, _, _]) rfl rfl S17 rfl rfl rfl rfl sz3 rfl rfl rfl rfl ?_))))
             intro w17 S18; clear S17
             refine wlr 4 rfl (U0 rfl rfl uT77 rfl (ce3) (nf3)) (wlo 5 6 rfl rfl rfl (U7 (i := 0) (us := [_]) (l' := [_, _, _, _, _]) (H' := [_, _, _, _, _, _]) rfl rfl S18 rfl rfl rfl rfl sz3 rfl rfl rfl rfl ?_))
             intro w18 S19; clear S18
             refine U5 rfl (U15 ?_)
             intro ax_ hax_
             refine ⟨(⟨(2 * (d.crs.length : Int)) + 1, (2 * (d.crs.length : Int)) + 1, (2 * (d.crs.length : Int)) + 2, (2 * (d.crs.length : Int)) + 2, decide ((m.by_ % 2) = 1)⟩ : Cr), hax_.sub ⟨rfl, rfl, rfl, trivial⟩, S19.pick [0, 1, 2, 3, 4, 5] [_, _, _, _, _, _] (by decide) ⟨rfl, rfl, rfl, rfl, rfl, rfl, trivial⟩, ?hq3f0⟩
             case hq3f0 => (unfold U34 U2d; rw [if_neg (by omega), decide_eq_true hb107, if_pos rfl])
            ·refine Uf rfl (U15 ?_)
             intro ax_ hax_
             refine ⟨(⟨(2 * (d.crs.length : Int)) + 1, (2 * (d.crs.length : Int)) + 2, (2 * (d.crs.length : Int)) + 2, (2 * (d.crs.length : Int)) + 1, decide ((m.by_ % 2) = 1)⟩ : Cr), hax_.sub ⟨rfl, rfl, rfl, trivial⟩, S17.pick [0, 1, 2, 3, 4, 5] [_, _, _, _, _, _] (by decide) ⟨rfl, rfl, rfl, rfl, rfl, rfl, trivial⟩, ?hq4f0⟩
             case hq4f0 => (unfold U34 U2d; rw [if_neg (by omega), decide_eq_false hb107, if_neg Bool.false_ne_true])
          ·rintro a1 w12 ⟨cc, he1, S13, hcc⟩
           clear S12
           refine nm_in he1 ?_
           clear he1 a1
           refine U4 (U2 Z1d2 Z1d3 rfl rfl rfl (U1 rfl (wlr 0 rfl (U0 rfl rfl uT24 rfl (ce22) (nf22)) (wlr 1 rfl (U3 rfl rfl uT22 rfl (S13.boxc (i := 1) rfl rfl)) (wlr 2 rfl (U8 (us := [_, _, _, _, _]) rfl rfl uT77 rfl sz77 (S13.boxcs (i := 0) rfl ⟨rfl, rfl, rfl, rfl, rfl, trivial⟩)) (wlo 3 4 rfl rfl rfl (U13 (C := cdCr) (l := [_, _, _, _, _]) rfl rfl rfl rfl sl22 rfl rfl rfl rfl S13 ?_)))))))
           intro gb6 w19 S20; clear S13
           refine wlo 4 5 rfl rfl rfl (U1l (C := cdCr) (i := 3) (q := 0) (⟨cc.a, cc.b, cc.c, cc.d, cc.plus⟩ : Cr) rfl rfl rfl rfl rfl rfl rfl rfl sl22 S20 rfl rfl rfl (by show (_ + 1) * 40 ≤ _; first | omega | (simp only [ls]; omega)) ?_)
           intro voc2 w20 S21; clear S20
           have S22 := S21.pick [1, 2, 3, 4, 5, 6] [_, _, _, _, _, _] (by decide) ⟨rfl, rfl, rfl, rfl, rfl, rfl, trivial⟩; clear S21
           refine wlr 5 rfl (U0 rfl rfl uT24 rfl (ce22) (nf22)) (wlo 6 7 rfl rfl rfl (U7 (i := 1) (us := [_]) (l' := [_, _]) (H' := [_, _, _, _, _, _]) rfl rfl S22 rfl rfl rfl (S22.cells1 (i := 2) rfl) sz22 rfl (Uy (S22.one (i := 2) rfl) rfl) rfl rfl ?_))
           intro w21 S23; clear S22
           refine U5 rfl (nmk [4, 7] rfl (U4 (U2 Z1d4 Z1d5 rfl rfl rfl (U1 rfl (wlr 0 rfl (U8 (us := [_, _]) rfl rfl uT24 rfl sz24 (S23.boxcs (i := 1) rfl ⟨rfl, rfl, trivial⟩)) (wlo 1 2 rfl rfl rfl (U7 (i := 3) (us := [_, _]) (l' := [_, _]) (H' := [_, _, _, _, _, _]) rfl rfl S23 rfl rfl rfl rfl sz24 rfl (Uy (S23.one (i := 2) rfl) (Uy rfl rfl)) rfl rfl ?_)))))))
           intro w22 S24; clear S23
           refine mvs 2 1 rfl rfl (U5 rfl (nmk [4, 5] rfl (U4 ?_)))
           obtain ⟨M2, hle2, S25, ⟨A1, c1, e1, hr1⟩⟩ := S24.pubrow (i := 2) (H' := [_, _, _, _, _, _]) rfl rfl (by show _ * 40 ≤ _; first | omega | (simp only [ls]; omega))
           clear S24; subst e1
           replace hdcrs := hdcrs.mono (Hp.Ua hle2 S25.mx)
           refine Uk hC [_, _] rfl rfl ⟨⟨_, rfl, Up (us := [_, _]) uT24 rfl sz24 (S25.boxcs (i := 3) rfl ⟨rfl, rfl, trivial⟩)⟩, rfl, trivial⟩ ?_
           refine ⟨_, rfl, _, hle2, (S25.pick [] [] (by decide) trivial), ?_⟩
           rw [mvR_ok (E := ⟨d.crs ++ [(⟨cc.a, cc.b, cc.c, cc.d, cc.plus⟩ : Cr)], d.loops - 1⟩) (by unfold curE; rw [if_pos (by omega), if_pos (by omega)]) (by subst hcc; unfold curD; rw [if_pos (by omega)])]
           exact ⟨_, _, rfl, hr1⟩
         ·obtain ⟨he1, he2, _⟩ := endD hab (a := m.at_) (by omega) false
          refine Ux rfl (by kernel_rfl) S10 7 rfl ?_
          clear S10
          refine wat 0 6 rfl (by kernel_rfl) (fun _ _ _ hz Sz => .inl (U8 (us := [_, _]) rfl rfl uT24 rfl sz24 (Sz.suf.boxcs (i := 0) rfl ⟨rfl, rfl, trivial⟩))) ?_
          refine wat 1 5 rfl (by kernel_rfl) (fun _ _ _ hz Sz => .inl (U8 (us := [_, _]) rfl rfl uT24 rfl sz24 (Sz.suf.boxcs (i := 4) rfl ⟨rfl, rfl, trivial⟩))) ?_
          refine wap 2 4 rfl (by kernel_rfl) (fun _ => U0 rfl rfl uT28 rfl (ce3) (nf3)) ?_
          refine wat 3 3 rfl (by kernel_rfl) (fun _ _ _ hz Sz => .inl (U3 rfl rfl uT3 rfl (Sz.suf.boxc (i := 3) rfl rfl))) ?_
          refine wat 4 2 rfl (by kernel_rfl) (fun _ _ _ hz Sz => Uq rfl rfl rfl rfl rfl cf60 Sz (U33 d m.at_ false ((hdcrs.mono (Hp.Ua hz Sz.mx)).mono Sz.Uw) Sz.lend)) ?_
          refine wap 5 1 rfl (by kernel_rfl) (fun _ => run_move rfl rfl) ?_
          refine Um (i := 6) 0 rfl (by kernel_rfl) rfl rfl (fun w30 S33 => ?_)
          have S34 := S33.pick [1, 0, 2, 3, 4] [_, _, _, _, _] (by decide) ⟨rfl, rfl, rfl, rfl, rfl, trivial⟩; clear S33
          have S35 : SH _ _ _ (Rs.bun [_] :: [_, _, _, _]) := SH.bunC (A := [_]) (B := [_, _, _, _]) S34; clear S34
          have S36 : SH _ _ _ [_, _, _, _, _] := S35.less (i := 0) rfl
          have hcall1 := RSet_b d.crs d.loops ((Ud d m.at_ false).1) ((Ud d m.at_ false).2) ((2 * (d.crs.length : Int)) + 2) (by exact he1) (by exact he2) (S35.lend1 (i := 0) rfl); clear S36
          refine (wo_c1 (i := 0) rfl rfl rfl rfl rfl rfl rfl cf75 S35 rfl hcall1 ?_)
          intro vw31 w31 M10 rw31 hle10 S37 hR1; clear S35
          obtain ⟨huhMX1, hMX1, hR2⟩ := hR1
          rw [hMX1] at S37
          clear hMX1
          subst huhMX1
          subst hR2
          replace S37 : SH _ _ _ (Rs.bun [_] :: [_, _, _, _]) := S37
          have S38 : SH _ _ _ [_, _, _, _, _] := SH.U2y (A := [_]) (B := [_, _, _, _]) S37; clear S37
          refine U10.turn (by kernel_rfl) S38 ?_; clear S38
          change WA _ _ _ _ _ _ _ _ _ _ _ _ [_, _, _, _, _]
          refine Uu (by kernel_rfl) (fun w32 S39 => ?_)
          refine nmk [3, 4, 7, 8, 9, 10] rfl (U4 (U2 Z1cg Z1ch rfl rfl rfl ?_))
          have hsl := U1o d.crs (Ud d m.at_ false).1 (Ud d m.at_ false).2 (2 * (d.crs.length : Int) + 2)
          refine U1 rfl (wlr 0 rfl (U0 rfl rfl uT28 rfl (ce3) (nf3)) (wlr 1 rfl (U3 rfl rfl uT3 rfl (S39.boxc (i := 3) rfl rfl)) (wlr 2 rfl (U2i rfl rfl rfl (by first | omega | (simp only [ls]; omega))) ?_)))
          refine wlr 3 rfl (Uz rfl rfl rfl) (mvs 4 1 rfl rfl (U5 rfl (nmk [3, 4, 7, 8, 9, 10, 11] rfl (U4 (U2 Z1ci Z1cj rfl rfl rfl (U1 rfl (wlo 0 1 rfl rfl rfl (Uh (l := [_, _, _, _, _]) rfl rfl rfl zr77 rfl S39 ?_))))))))
          intro gb7 w33 S40; clear S39
          refine U5 rfl (U4 (U2 Z1ck Z1cl rfl rfl rfl ?_))
          refine ws_cut (fun ax_ wx_ => ∃ (cc : Cr), Env 119 [(4, .pointer (some ⟨gb3, 0, none⟩)), (7, .pointer (some ⟨gb4, 0, none⟩)), (12, .pointer (some ⟨gb7, 0, none⟩))] ax_ ∧ SH wx_ M X [Rs.box gb7 77 [.int .i64 cc.a, .int .i64 cc.b, .int .i64 cc.c, .int .i64 cc.d, .bool cc.plus], Rs.row cdCr voc1 (U1c d.crs ((Ud d m.at_ false).1) ((Ud d m.at_ false).2) ((2 * (d.crs.length : Int)) + 2)), Rs.box gb4 24 [voc1, .int .i64 d.loops], Rs.box gb3 24 [.slice none 0 0, .int .i64 0], Rs.box gb2 28 [.int .i64 m.kd, .int .i64 m.at_, .int .i64 m.by_, .int .i64 m.ua, .bool m.ub, .int .i64 m.va, .bool m.vb, .bool m.ov], Rs.box gb1 24 [.slice dcrsA d.crs.length dcrsc, .int .i64 d.loops]] ∧ cc = U34 m.at_ ((2 * (d.crs.length : Int)) + 1) ((2 * (d.crs.length : Int)) + 1) ((2 * (d.crs.length : Int)) + 2) m.by_) ?_ ?_
          ·refine U2 Z1cm Z1cn rfl rfl rfl (U1 rfl (wlr 0 rfl (U0 rfl rfl uT28 rfl (ce3) (nf3)) (wlr 1 rfl (U3 rfl rfl uT3 rfl (S40.boxc (i := 4) rfl rfl)) (wlr 2 rfl (U2q rfl rfl rfl) (U5 rfl (nmk [4, 7, 8, 9, 10, 11, 12, 89] rfl (U4 ?_)))))))
           refine Ue Z1co Z1cp rfl rfl rfl rfl (fun hb89 => ?_) (fun hb89 => ?_)
           ·refine U2 Z1cq Z1cr rfl rfl rfl (U1 rfl (mvs 0 5 rfl rfl (wlr 5 rfl (run_build (l := [_, _, _, _, _]) rfl rfl st77 rfl rfl) (wlo 6 7 rfl rfl rfl (U7 (i := 0) (us := [_, _, _, _, _]) (l' := [_, _, _, _, _]) (H' := [_, _, _, _, _, _]) rfl rfl S40 rfl rfl rfl rfl sz77 rfl rfl rfl rfl ?_)))))
            intro w35 S42; clear S40
            refine U5 rfl (nmk [4, 7, 8, 9, 11, 12] rfl (U4 (U2 Z1cs Z1ct rfl rfl rfl (U1 rfl (mvs 0 1 rfl rfl (U5 rfl (nmk [4, 7, 8, 9, 12, 96] rfl (U4 ?_))))))))
            refine Ue Z1cu Z1cv rfl rfl rfl rfl (fun hb96 => ?_) (fun hb96 => ?_)
            ·refine U1 rfl (mvs 0 2 rfl rfl (wlr 2 rfl (U0 rfl rfl uT77 rfl (ce3) (nf3)) (wlo 3 4 rfl rfl rfl (U7 (i := 0) (us := [_]) (l' := [_, _, _, _, _]) (H' := [_, _, _, _, _, _]) rfl rfl S42 rfl rfl rfl rfl sz3 rfl rfl rfl rfl ?_))))
             intro w36 S43; clear S42
             refine wlr 4 rfl (U0 rfl rfl uT77 rfl (ce3) (nf3)) (wlo 5 6 rfl rfl rfl (U7 (i := 0) (us := [_]) (l' := [_, _, _, _, _]) (H' := [_, _, _, _, _, _]) rfl rfl S43 rfl rfl rfl rfl sz3 rfl rfl rfl rfl ?_))
             intro w37 S44; clear S43
             refine U5 rfl (U15 ?_)
             intro ax_ hax_
             refine ⟨(⟨(2 * (d.crs.length : Int)) + 1, (2 * (d.crs.length : Int)) + 1, (2 * (d.crs.length : Int)) + 2, m.at_, decide ((m.by_ % 2) = 1)⟩ : Cr), hax_.sub ⟨rfl, rfl, rfl, trivial⟩, S44.pick [0, 1, 2, 3, 4, 5] [_, _, _, _, _, _] (by decide) ⟨rfl, rfl, rfl, rfl, rfl, rfl, trivial⟩, ?hq5f0⟩
             case hq5f0 => (unfold U34 U2d; rw [if_pos (by omega), decide_eq_true hb96, if_pos rfl])
            ·refine Uf rfl (U15 ?_)
             intro ax_ hax_
             refine ⟨(⟨(2 * (d.crs.length : Int)) + 1, m.at_, (2 * (d.crs.length : Int)) + 2, (2 * (d.crs.length : Int)) + 1, decide ((m.by_ % 2) = 1)⟩ : Cr), hax_.sub ⟨rfl, rfl, rfl, trivial⟩, S42.pick [0, 1, 2, 3, 4, 5] [_, _, _, _, _, _] (by decide) ⟨rfl, rfl, rfl, rfl, rfl, rfl, trivial⟩, ?hq6f0⟩
             case hq6f0 => (unfold U34 U2d; rw [if_pos (by omega), decide_eq_false hb96, if_neg Bool.false_ne_true])
           ·refine U2 Z1cw Z1cx rfl rfl rfl (U1 rfl (mvs 0 5 rfl rfl (wlr 5 rfl (run_build (l := [_, _, _, _, _]) rfl rfl st77 rfl rfl) (wlo 6 7 rfl rfl rfl (U7 (i := 0) (us := [_, _, _, _, _]) (l' := [_, _, _, _, _]) (H' := [_, _, _, _, _, _]) rfl rfl S40 rfl rfl rfl rfl sz77 rfl rfl rfl rfl ?_)))))
            intro w38 S45; clear S40
            refine U5 rfl (nmk [4, 7, 9, 10, 11, 12] rfl (U4 (U2 Z1cy Z1cz rfl rfl rfl (U1 rfl (mvs 0 1 rfl rfl (U5 rfl (nmk [4, 7, 9, 10, 12, 107] rfl (U4 ?_))))))))
            refine Ue Z1d0 Z1d1 rfl rfl rfl rfl (fun hb107 => ?_) (fun hb107 => ?_)
            ·refine U1 rfl (mvs 0 2 rfl rfl (wlr 2 rfl (U0 rfl rfl uT77 rfl (ce3) (nf3)) (wlo 3 4 rfl rfl rfl (U7 (i := 0) (us := [_]) (l' := [_, _, _, _, _]) (H' := [_, _, _, _, _, _]) rfl rfl S45 rfl rfl rfl rfl sz3 rfl rfl rfl rfl ?_))))
             intro w39 S46; clear S45
             refine wlr 4 rfl (U0 rfl rfl uT77 rfl (ce3) (nf3)) (wlo 5 6 rfl rfl rfl (U7 (i := 0) (us := [_]) (l' := [_, _, _, _, _]) (H' := [_, _, _, _, _, _]) rfl rfl S46 rfl rfl rfl rfl sz3 rfl rfl rfl rfl ?_))
             intro w40 S47; clear S46
             refine U5 rfl (U15 ?_)
             intro ax_ hax_
             refine ⟨(⟨m.at_, (2 * (d.crs.length : Int)) + 2, (2 * (d.crs.length : Int)) + 1, (2 * (d.crs.length : Int)) + 1, decide ((m.by_ % 2) = 1)⟩ : Cr), hax_.sub ⟨rfl, rfl, rfl, trivial⟩, S47.pick [0, 1, 2, 3, 4, 5] [_, _, _, _, _, _] (by decide) ⟨rfl, rfl, rfl, rfl, rfl, rfl, trivial⟩, ?hq7f0⟩
             case hq7f0 => (unfold U34 U2d; rw [if_neg (by omega), decide_eq_true hb107, if_pos rfl])
            ·refine Uf rfl (U15 ?_)
             intro ax_ hax_
             refine ⟨(⟨m.at_, (2 * (d.crs.length : Int)) + 1, (2 * (d.crs.length : Int)) + 1, (2 * (d.crs.length : Int)) + 2, decide ((m.by_ % 2) = 1)⟩ : Cr), hax_.sub ⟨rfl, rfl, rfl, trivial⟩, S45.pick [0, 1, 2, 3, 4, 5] [_, _, _, _, _, _] (by decide) ⟨rfl, rfl, rfl, rfl, rfl, rfl, trivial⟩, ?hq8f0⟩
             case hq8f0 => (unfold U34 U2d; rw [if_neg (by omega), decide_eq_false hb107, if_neg Bool.false_ne_true])
          ·rintro a2 w34 ⟨cc, he2, S41, hcc⟩
           clear S40
           refine nm_in he2 ?_
           clear he2 a2
           refine U4 (U2 Z1d2 Z1d3 rfl rfl rfl (U1 rfl (wlr 0 rfl (U0 rfl rfl uT24 rfl (ce22) (nf22)) (wlr 1 rfl (U3 rfl rfl uT22 rfl (S41.boxc (i := 2) rfl rfl)) (wlr 2 rfl (U8 (us := [_, _, _, _, _]) rfl rfl uT77 rfl sz77 (S41.boxcs (i := 0) rfl ⟨rfl, rfl, rfl, rfl, rfl, trivial⟩)) (wlo 3 4 rfl rfl rfl (U13 (C := cdCr) (l := [_, _, _, _, _]) rfl rfl rfl rfl sl22 rfl rfl rfl rfl S41 ?_)))))))
           intro gb8 w41 S48; clear S41
           refine wlo 4 5 rfl rfl rfl (U1l (C := cdCr) (i := 2) (q := 0) (⟨cc.a, cc.b, cc.c, cc.d, cc.plus⟩ : Cr) rfl rfl rfl rfl rfl rfl rfl rfl sl22 S48 rfl rfl rfl (by show (_ + 1) * 40 ≤ _; first | omega | (simp only [ls]; omega)) ?_)
           intro voc3 w42 S49; clear S48
           have S50 := S49.pick [1, 2, 3, 4, 5, 6] [_, _, _, _, _, _] (by decide) ⟨rfl, rfl, rfl, rfl, rfl, rfl, trivial⟩; clear S49
           refine wlr 5 rfl (U0 rfl rfl uT24 rfl (ce22) (nf22)) (wlo 6 7 rfl rfl rfl (U7 (i := 2) (us := [_]) (l' := [_, _]) (H' := [_, _, _, _, _, _]) rfl rfl S50 rfl rfl rfl (S50.cells1 (i := 1) rfl) sz22 rfl (Uy (S50.one (i := 1) rfl) rfl) rfl rfl ?_))
           intro w43 S51; clear S50
           refine U5 rfl (nmk [4, 7] rfl (U4 (U2 Z1d4 Z1d5 rfl rfl rfl (U1 rfl (wlr 0 rfl (U8 (us := [_, _]) rfl rfl uT24 rfl sz24 (S51.boxcs (i := 2) rfl ⟨rfl, rfl, trivial⟩)) (wlo 1 2 rfl rfl rfl (U7 (i := 3) (us := [_, _]) (l' := [_, _]) (H' := [_, _, _, _, _, _]) rfl rfl S51 rfl rfl rfl rfl sz24 rfl (Uy (S51.one (i := 1) rfl) (Uy rfl rfl)) rfl rfl ?_)))))))
           intro w44 S52; clear S51
           refine mvs 2 1 rfl rfl (U5 rfl (nmk [4, 5] rfl (U4 ?_)))
           obtain ⟨M12, hle12, S53, ⟨A2, c2, e2, hr2⟩⟩ := S52.pubrow (i := 1) (H' := [_, _, _, _, _, _]) rfl rfl (by show _ * 40 ≤ _; first | omega | (simp only [ls]; omega))
           clear S52; subst e2
           replace hdcrs := hdcrs.mono (Hp.Ua hle12 S53.mx)
           refine Uk hC [_, _] rfl rfl ⟨⟨_, rfl, Up (us := [_, _]) uT24 rfl sz24 (S53.boxcs (i := 3) rfl ⟨rfl, rfl, trivial⟩)⟩, rfl, trivial⟩ ?_
           refine ⟨_, rfl, _, hle12, (S53.pick [] [] (by decide) trivial), ?_⟩
           rw [mvR_ok (E := ⟨(U1c d.crs ((Ud d m.at_ false).1) ((Ud d m.at_ false).2) ((2 * (d.crs.length : Int)) + 2)) ++ [(⟨cc.a, cc.b, cc.c, cc.d, cc.plus⟩ : Cr)], d.loops⟩) (by unfold curE; rw [if_pos (by omega), if_pos (by omega)]) (by subst hcc; unfold curD; rw [if_neg (by omega)])]
           exact ⟨_, _, rfl, hr2⟩
    ·refine U5 rfl (nmk [2, 3, 4, 6, 45] rfl (U4 ?_))
     refine Ue Z1bs Z1bt rfl rfl rfl rfl (fun hb45 => ?_) (fun hb45 => ?_)
     ·refine U2 Z1bu Z1bv rfl rfl rfl (U1 rfl (wlr 0 rfl (run_build (l := [_, _]) rfl rfl st24 rfl rfl) (wlo 1 2 rfl rfl rfl (U7 (i := 0) (us := [_, _]) (l' := [_, _]) (H' := [_, _, _]) rfl rfl S3 rfl rfl rfl rfl sz24 rfl rfl rfl rfl ?_))))
      intro w45 S54; clear S3
      refine mvs 2 1 rfl rfl (U5 rfl (nmk [4, 5] rfl (U4 (Uk hC [_, _] rfl rfl ⟨⟨_, rfl, Up (us := [_, _]) uT24 rfl sz24 (S54.boxcs (i := 0) rfl ⟨rfl, rfl, trivial⟩)⟩, rfl, trivial⟩ ?_))))
      refine ⟨_, rfl, _, Hp.le_refl _, (S54.pick [] [] (by decide) trivial), ?_⟩
      rw [U26 (c := 3) (by unfold curE; rw [if_neg (by omega)]) (by decide)]
      exact U1z 3
     ·refine Uf rfl (nmk [2, 3, 4, 6] rfl (U4 (U2 Z1bw Z1bx rfl rfl rfl (U2 Z1by Z1bz rfl rfl rfl (U1 rfl (mvs 0 1 rfl rfl (wlr 1 rfl (Uz rfl rfl rfl) (U5 rfl ?_))))))))
      refine nmk [2, 3, 4, 6, 48] rfl (U4 ?_)
      refine Ue Z1c0 Z1c1 rfl rfl rfl rfl (fun hb48 => ?_) (fun hb48 => ?_)
      ·refine U2 Z1c2 Z1c3 rfl rfl rfl (U1 rfl (wlr 0 rfl (run_build (l := [_, _]) rfl rfl st24 rfl rfl) (wlo 1 2 rfl rfl rfl (U7 (i := 0) (us := [_, _]) (l' := [_, _]) (H' := [_, _, _]) rfl rfl S3 rfl rfl rfl rfl sz24 rfl rfl rfl rfl ?_))))
       intro w46 S55; clear S3
       refine mvs 2 1 rfl rfl (U5 rfl (nmk [4, 5] rfl (U4 (Uk hC [_, _] rfl rfl ⟨⟨_, rfl, Up (us := [_, _]) uT24 rfl sz24 (S55.boxcs (i := 0) rfl ⟨rfl, rfl, trivial⟩)⟩, rfl, trivial⟩ ?_))))
       refine ⟨_, rfl, _, Hp.le_refl _, (S55.pick [] [] (by decide) trivial), ?_⟩
       rw [U26 (c := 2) (by unfold curE; rw [if_pos (by omega), if_neg (by omega)]) (by decide)]
       exact U1z 2
      ·refine Uf rfl (nmk [2, 3, 4, 6] rfl (U4 (U2 Z1c4 Z1c5 rfl rfl rfl (U1 rfl (wlr 0 rfl (U8 (us := [_, _]) rfl rfl uT24 rfl sz24 (S3.boxcs (i := 2) rfl ⟨rfl, rfl, trivial⟩)) (wlo 1 2 rfl rfl rfl (wo_co rfl rfl rfl rfl rfl rfl rfl cf9 S3 (DgOwn_o d (hdcrs.mono S3.Uw) S3.lend) ?_)))))))
       intro vw47 w47 Nw47 S56 hRw47; clear S3
       obtain ⟨voc4, rfl, rfl⟩ := hRw47
       have S57 : SH _ _ _ [_, _, _, _] := S56; clear S56
       refine wlo 2 3 rfl rfl rfl (Uh (l := [_, _]) rfl rfl rfl zr24 rfl S57 ?_)
       intro gb9 w48 S58; clear S57
       refine wlo 3 4 rfl rfl rfl (U7 (i := 0) (us := [_, _]) (l' := [_, _]) (H' := [_, _, _, _, _]) rfl rfl S58 rfl rfl rfl rfl sz24 rfl (Uy (S58.one (i := 1) rfl) (Uy rfl rfl)) rfl rfl ?_)
       intro w49 S59; clear S58
       refine U5 rfl (nmk [2, 3, 4, 6, 7] rfl (U4 (U2 Z1c6 Z1c7 rfl rfl rfl (U1 rfl (wlr 0 rfl (U0 rfl rfl uT28 rfl (ce3) (nf3)) (wlr 1 rfl (U3 rfl rfl uT3 rfl (S59.boxc (i := 3) rfl rfl)) (mvs 2 1 rfl rfl (wlr 3 rfl (U28 rfl rfl rfl (by first | omega | (simp only [ls]; omega))) ?_))))))))
       refine wlr 4 rfl (Ug rfl rfl rfl (by first | omega | (simp only [ls]; omega))) ?_
       refine mvs 5 1 rfl rfl (wlr 6 rfl (U28 rfl rfl rfl (by first | omega | (simp only [ls]; omega))) ?_)
       refine wlr 7 rfl (Ug rfl rfl rfl (by first | omega | (simp only [ls]; omega))) ?_
       refine mvs 8 3 rfl rfl (U5 rfl (nmk [2, 3, 4, 6, 7, 8, 9, 10] rfl (U4 (U2 Z1c8 Z1c9 rfl rfl rfl (U2 Z1ca Z1cb rfl rfl rfl (U1 rfl (wlr 0 rfl (U0 rfl rfl uT28 rfl (ce3) (nf3)) (wlr 1 rfl (U3 rfl rfl uT3 rfl (S59.boxc (i := 3) rfl rfl)) ?_))))))))
       refine wlr 2 rfl (Uz rfl rfl rfl) (U5 rfl (nmk [2, 3, 4, 6, 7, 8, 9, 10, 62] rfl (U4 ?_)))
       refine Ue Z1cc Z1cd rfl rfl rfl rfl (fun hb62 => ?_) (fun hb62 => ?_)
       ·refine U2 Z1ce Z1cf rfl rfl rfl (U1 rfl (mvs 0 1 rfl rfl (wlr 1 rfl (U28 rfl rfl rfl (by first | omega | (simp only [ls]; omega))) ?_)))
        refine wlr 2 rfl (Ug rfl rfl rfl (by first | omega | (simp only [ls]; omega))) ?_
        refine mvs 3 1 rfl rfl (wlr 4 rfl (U28 rfl rfl rfl (by first | omega | (simp only [ls]; omega))) ?_)
        refine wlr 5 rfl (Ug rfl rfl rfl (by first | omega | (simp only [ls]; omega))) ?_
        refine mvs 6 1 rfl rfl (wlr 7 rfl (U28 rfl rfl rfl (by first | omega | (simp only [ls]; omega))) ?_)
        refine wlr 8 rfl (Ug rfl rfl rfl (by first | omega | (simp only [ls]; omega))) ?_
        refine mvs 9 3 rfl rfl (U5 rfl (nmk [3, 4, 7, 8, 9, 10] rfl (U4 (U1 rfl (wlr 0 rfl (U0 rfl rfl uT24 rfl (ce3) (nf3)) (wlr 1 rfl (U3 rfl rfl uT3 rfl (S59.boxc (i := 0) rfl rfl)) (wlr 2 rfl (run_sub rfl rfl rfl (by first | omega | (simp only [ls]; omega))) ?_)))))))
        refine wlr 3 rfl (U0 rfl rfl uT24 rfl (ce3) (nf3)) (wlo 4 5 rfl rfl rfl (U7 (i := 0) (us := [_]) (l' := [_, _]) (H' := [_, _, _, _, _]) rfl rfl S59 rfl rfl rfl rfl sz3 rfl rfl rfl rfl ?_))
        intro w50 S60; clear S59
        refine U5 rfl (nmk [3, 4, 7, 8, 9, 10] rfl (U4 (U2 Z1cg Z1ch rfl rfl rfl (U1 rfl (wlr 0 rfl (U0 rfl rfl uT28 rfl (ce3) (nf3)) (wlr 1 rfl (U3 rfl rfl uT3 rfl (S60.boxc (i := 3) rfl rfl)) (wlr 2 rfl (U2i rfl rfl rfl (by first | omega | (simp only [ls]; omega))) ?_)))))))
        refine wlr 3 rfl (Uz rfl rfl rfl) (mvs 4 1 rfl rfl (U5 rfl (nmk [3, 4, 7, 8, 9, 10, 11] rfl (U4 (U2 Z1ci Z1cj rfl rfl rfl (U1 rfl (wlo 0 1 rfl rfl rfl (Uh (l := [_, _, _, _, _]) rfl rfl rfl zr77 rfl S60 ?_))))))))
        intro gb10 w51 S61; clear S60
        refine U5 rfl (U4 (U2 Z1ck Z1cl rfl rfl rfl ?_))
        refine ws_cut (fun ax_ wx_ => ∃ (cc : Cr), Env 119 [(4, .pointer (some ⟨gb3, 0, none⟩)), (7, .pointer (some ⟨gb9, 0, none⟩)), (12, .pointer (some ⟨gb10, 0, none⟩))] ax_ ∧ SH wx_ M X [Rs.box gb10 77 [.int .i64 cc.a, .int .i64 cc.b, .int .i64 cc.c, .int .i64 cc.d, .bool cc.plus], Rs.box gb9 24 [voc4, .int .i64 (d.loops - 1)], Rs.row cdCr voc4 d.crs, Rs.box gb3 24 [.slice none 0 0, .int .i64 0], Rs.box gb2 28 [.int .i64 m.kd, .int .i64 m.at_, .int .i64 m.by_, .int .i64 m.ua, .bool m.ub, .int .i64 m.va, .bool m.vb, .bool m.ov], Rs.box gb1 24 [.slice dcrsA d.crs.length dcrsc, .int .i64 d.loops]] ∧ cc = U34 ((2 * (d.crs.length : Int)) + 1) ((2 * (d.crs.length : Int)) + 2) ((2 * (d.crs.length : Int)) + 2) ((2 * (d.crs.length : Int)) + 1) m.by_) ?_ ?_
        ·refine U2 Z1cm Z1cn rfl rfl rfl (U1 rfl (wlr 0 rfl (U0 rfl rfl uT28 rfl (ce3) (nf3)) (wlr 1 rfl (U3 rfl rfl uT3 rfl (S61.boxc (i := 4) rfl rfl)) (wlr 2 rfl (U2q rfl rfl rfl) (U5 rfl (nmk [4, 7, 8, 9, 10, 11, 12, 89] rfl (U4 ?_)))))))
         refine Ue Z1co Z1cp rfl rfl rfl rfl (fun hb89 => ?_) (fun hb89 => ?_)
         ·refine U2 Z1cq Z1cr rfl rfl rfl (U1 rfl (mvs 0 5 rfl rfl (wlr 5 rfl (run_build (l := [_, _, _, _, _]) rfl rfl st77 rfl rfl) (wlo 6 7 rfl rfl rfl (U7 (i := 0) (us := [_, _, _, _, _]) (l' := [_, _, _, _, _]) (H' := [_, _, _, _, _, _]) rfl rfl S61 rfl rfl rfl rfl sz77 rfl rfl rfl rfl ?_)))))
          intro w53 S63; clear S61
          refine U5 rfl (nmk [4, 7, 8, 9, 11, 12] rfl (U4 (U2 Z1cs Z1ct rfl rfl rfl (U1 rfl (mvs 0 1 rfl rfl (U5 rfl (nmk [4, 7, 8, 9, 12, 96] rfl (U4 ?_))))))))
          refine Ue Z1cu Z1cv rfl rfl rfl rfl (fun hb96 => ?_) (fun hb96 => ?_)
          ·refine U1 rfl (mvs 0 2 rfl rfl (wlr 2 rfl (U0 rfl rfl uT77 rfl (ce3) (nf3)) (wlo 3 4 rfl rfl rfl (U7 (i := 0) (us := [_]) (l' := [_, _, _, _, _]) (H' := [_, _, _, _, _, _]) rfl rfl S63 rfl rfl rfl rfl sz3 rfl rfl rfl rfl ?_))))
           intro w54 S64; clear S63
           refine wlr 4 rfl (U0 rfl rfl uT77 rfl (ce3) (nf3)) (wlo 5 6 rfl rfl rfl (U7 (i := 0) (us := [_]) (l' := [_, _, _, _, _]) (H' := [_, _, _, _, _, _]) rfl rfl S64 rfl rfl rfl rfl sz3 rfl rfl rfl rfl ?_))
           intro w55 S65; clear S64
           refine U5 rfl (U15 ?_)
           intro ax_ hax_
           refine ⟨(⟨(2 * (d.crs.length : Int)) + 2, (2 * (d.crs.length : Int)) + 2, (2 * (d.crs.length : Int)) + 1, (2 * (d.crs.length : Int)) + 1, decide ((m.by_ % 2) = 1)⟩ : Cr), hax_.sub ⟨rfl, rfl, rfl, trivial⟩, S65.pick [0, 1, 2, 3, 4, 5] [_, _, _, _, _, _] (by decide) ⟨rfl, rfl, rfl, rfl, rfl, rfl, trivial⟩, ?hq9f0⟩
           case hq9f0 => (unfold U34 U2d; rw [if_pos (by omega), decide_eq_true hb96, if_pos rfl])
          ·refine Uf rfl (U15 ?_)
           intro ax_ hax_
           refine ⟨(⟨(2 * (d.crs.length : Int)) + 2, (2 * (d.crs.length : Int)) + 1, (2 * (d.crs.length : Int)) + 1, (2 * (d.crs.length : Int)) + 2, decide ((m.by_ % 2) = 1)⟩ : Cr), hax_.sub ⟨rfl, rfl, rfl, trivial⟩, S63.pick [0, 1, 2, 3, 4, 5] [_, _, _, _, _, _] (by decide) ⟨rfl, rfl, rfl, rfl, rfl, rfl, trivial⟩, ?hq10f0⟩
           case hq10f0 => (unfold U34 U2d; rw [if_pos (by omega), decide_eq_false hb96, if_neg Bool.false_ne_true])
         ·refine U2 Z1cw Z1cx rfl rfl rfl (U1 rfl (mvs 0 5 rfl rfl (wlr 5 rfl (run_build (l := [_, _, _, _, _]) rfl rfl st77 rfl rfl) (wlo 6 7 rfl rfl rfl (U7 (i := 0) (us := [_, _, _, _, _]) (l' := [_, _, _, _, _]) (H' := [_, _, _, _, _, _]) rfl rfl S61 rfl rfl rfl rfl sz77 rfl rfl rfl rfl ?_)))))
          intro w56 S66; clear S61
          refine U5 rfl (nmk [4, 7, 9, 10, 11, 12] rfl (U4 (U2 Z1cy Z1cz rfl rfl rfl (U1 rfl (mvs 0 1 rfl rfl (U5 rfl (nmk [4, 7, 9, 10, 12, 107] rfl (U4 ?_))))))))
          refine Ue Z1d0 Z1d1 rfl rfl rfl rfl (fun hb107 => ?_) (fun hb107 => ?_)
          ·refine U1 rfl (mvs 0 2 rfl rfl (wlr 2 rfl (U0 rfl rfl uT77 rfl (ce3) (nf3)) (wlo 3 4 rfl rfl rfl (U7 (i := 0) (us := [_]) (l' := [_, _, _, _, _]) (H' := [_, _, _, _, _, _]) rfl rfl S66 rfl rfl rfl rfl sz3 rfl rfl rfl rfl ?_))))
           intro w57 S67; clear S66
           refine wlr 4 rfl (U0 rfl rfl uT77 rfl (ce3) (nf3)) (wlo 5 6 rfl rfl rfl (U7 (i := 0) (us := [_]) (l' := [_, _, _, _, _]) (H' := [_, _, _, _, _, _]) rfl rfl S67 rfl rfl rfl rfl sz3 rfl rfl rfl rfl ?_))
           intro w58 S68; clear S67
           refine U5 rfl (U15 ?_)
           intro ax_ hax_
           refine ⟨(⟨(2 * (d.crs.length : Int)) + 1, (2 * (d.crs.length : Int)) + 1, (2 * (d.crs.length : Int)) + 2, (2 * (d.crs.length : Int)) + 2, decide ((m.by_ % 2) = 1)⟩ : Cr), hax_.sub ⟨rfl, rfl, rfl, trivial⟩, S68.pick [0, 1, 2, 3, 4, 5] [_, _, _, _, _, _] (by decide) ⟨rfl, rfl, rfl, rfl, rfl, rfl, trivial⟩, ?hq11f0⟩
           case hq11f0 => (unfold U34 U2d; rw [if_neg (by omega), decide_eq_true hb107, if_pos rfl])
          ·refine Uf rfl (U15 ?_)
           intro ax_ hax_
           refine ⟨(⟨(2 * (d.crs.length : Int)) + 1, (2 * (d.crs.length : Int)) + 2, (2 * (d.crs.length : Int)) + 2, (2 * (d.crs.length : Int)) + 1, decide ((m.by_ % 2) = 1)⟩ : Cr), hax_.sub ⟨rfl, rfl, rfl, trivial⟩, S66.pick [0, 1, 2, 3, 4, 5] [_, _, _, _, _, _] (by decide) ⟨rfl, rfl, rfl, rfl, rfl, rfl, trivial⟩, ?hq12f0⟩
           case hq12f0 => (unfold U34 U2d; rw [if_neg (by omega), decide_eq_false hb107, if_neg Bool.false_ne_true])
        ·rintro a3 w52 ⟨cc, he3, S62, hcc⟩
         clear S61
         refine nm_in he3 ?_
         clear he3 a3
         refine U4 (U2 Z1d2 Z1d3 rfl rfl rfl (U1 rfl (wlr 0 rfl (U0 rfl rfl uT24 rfl (ce22) (nf22)) (wlr 1 rfl (U3 rfl rfl uT22 rfl (S62.boxc (i := 1) rfl rfl)) (wlr 2 rfl (U8 (us := [_, _, _, _, _]) rfl rfl uT77 rfl sz77 (S62.boxcs (i := 0) rfl ⟨rfl, rfl, rfl, rfl, rfl, trivial⟩)) (wlo 3 4 rfl rfl rfl (U13 (C := cdCr) (l := [_, _, _, _, _]) rfl rfl rfl rfl sl22 rfl rfl rfl rfl S62 ?_)))))))
         intro gb11 w59 S69; clear S62
         refine wlo 4 5 rfl rfl rfl (U1l (C := cdCr) (i := 3) (q := 0) (⟨cc.a, cc.b, cc.c, cc.d, cc.plus⟩ : Cr) rfl rfl rfl rfl rfl rfl rfl rfl sl22 S69 rfl rfl rfl (by show (_ + 1) * 40 ≤ _; first | omega | (simp only [ls]; omega)) ?_)
         intro voc5 w60 S70; clear S69
         have S71 := S70.pick [1, 2, 3, 4, 5, 6] [_, _, _, _, _, _] (by decide) ⟨rfl, rfl, rfl, rfl, rfl, rfl, trivial⟩; clear S70
         refine wlr 5 rfl (U0 rfl rfl uT24 rfl (ce22) (nf22)) (wlo 6 7 rfl rfl rfl (U7 (i := 1) (us := [_]) (l' := [_, _]) (H' := [_, _, _, _, _, _]) rfl rfl S71 rfl rfl rfl (S71.cells1 (i := 2) rfl) sz22 rfl (Uy (S71.one (i := 2) rfl) rfl) rfl rfl ?_))
         intro w61 S72; clear S71
         refine U5 rfl (nmk [4, 7] rfl (U4 (U2 Z1d4 Z1d5 rfl rfl rfl (U1 rfl (wlr 0 rfl (U8 (us := [_, _]) rfl rfl uT24 rfl sz24 (S72.boxcs (i := 1) rfl ⟨rfl, rfl, trivial⟩)) (wlo 1 2 rfl rfl rfl (U7 (i := 3) (us := [_, _]) (l' := [_, _]) (H' := [_, _, _, _, _, _]) rfl rfl S72 rfl rfl rfl rfl sz24 rfl (Uy (S72.one (i := 2) rfl) (Uy rfl rfl)) rfl rfl ?_)))))))
         intro w62 S73; clear S72
         refine mvs 2 1 rfl rfl (U5 rfl (nmk [4, 5] rfl (U4 ?_)))
         obtain ⟨M14, hle14, S74, ⟨A3, c3, e3, hr3⟩⟩ := S73.pubrow (i := 2) (H' := [_, _, _, _, _, _]) rfl rfl (by show _ * 40 ≤ _; first | omega | (simp only [ls]; omega))
         clear S73; subst e3
         replace hdcrs := hdcrs.mono (Hp.Ua hle14 S74.mx)
         refine Uk hC [_, _] rfl rfl ⟨⟨_, rfl, Up (us := [_, _]) uT24 rfl sz24 (S74.boxcs (i := 3) rfl ⟨rfl, rfl, trivial⟩)⟩, rfl, trivial⟩ ?_
         refine ⟨_, rfl, _, hle14, (S74.pick [] [] (by decide) trivial), ?_⟩
         rw [mvR_ok (E := ⟨d.crs ++ [(⟨cc.a, cc.b, cc.c, cc.d, cc.plus⟩ : Cr)], d.loops - 1⟩) (by unfold curE; rw [if_pos (by omega), if_pos (by omega)]) (by subst hcc; unfold curD; rw [if_pos (by omega)])]
         exact ⟨_, _, rfl, hr3⟩
       ·obtain ⟨he1, he2, _⟩ := endD hab (a := m.at_) (by omega) false
        refine Ux rfl (by kernel_rfl) S59 7 rfl ?_
        clear S59
        refine wat 0 6 rfl (by kernel_rfl) (fun _ _ _ hz Sz => .inl (U8 (us := [_, _]) rfl rfl uT24 rfl sz24 (Sz.suf.boxcs (i := 0) rfl ⟨rfl, rfl, trivial⟩))) ?_
        refine wat 1 5 rfl (by kernel_rfl) (fun _ _ _ hz Sz => .inl (U8 (us := [_, _]) rfl rfl uT24 rfl sz24 (Sz.suf.boxcs (i := 4) rfl ⟨rfl, rfl, trivial⟩))) ?_
        refine wap 2 4 rfl (by kernel_rfl) (fun _ => U0 rfl rfl uT28 rfl (ce3) (nf3)) ?_
        refine wat 3 3 rfl (by kernel_rfl) (fun _ _ _ hz Sz => .inl (U3 rfl rfl uT3 rfl (Sz.suf.boxc (i := 3) rfl rfl))) ?_
        refine wat 4 2 rfl (by kernel_rfl) (fun _ _ _ hz Sz => Uq rfl rfl rfl rfl rfl cf60 Sz (U33 d m.at_ false ((hdcrs.mono (Hp.Ua hz Sz.mx)).mono Sz.Uw) Sz.lend)) ?_
        refine wap 5 1 rfl (by kernel_rfl) (fun _ => run_move rfl rfl) ?_
        refine Um (i := 6) 0 rfl (by kernel_rfl) rfl rfl (fun w70 S82 => ?_)
        have S83 := S82.pick [1, 0, 2, 3, 4] [_, _, _, _, _] (by decide) ⟨rfl, rfl, rfl, rfl, rfl, trivial⟩; clear S82
        have S84 : SH _ _ _ (Rs.bun [_] :: [_, _, _, _]) := SH.bunC (A := [_]) (B := [_, _, _, _]) S83; clear S83
        have S85 : SH _ _ _ [_, _, _, _, _] := S84.less (i := 0) rfl
        have hcall2 := RSet_b d.crs d.loops ((Ud d m.at_ false).1) ((Ud d m.at_ false).2) ((2 * (d.crs.length : Int)) + 2) (by exact he1) (by exact he2) (S84.lend1 (i := 0) rfl); clear S85
        refine (wo_c1 (i := 0) rfl rfl rfl rfl rfl rfl rfl cf75 S84 rfl hcall2 ?_)
        intro vw71 w71 M22 rw71 hle22 S86 hR3; clear S84
        obtain ⟨huhMX2, hMX2, hR4⟩ := hR3
        rw [hMX2] at S86
        clear hMX2
        subst huhMX2
        subst hR4
        replace S86 : SH _ _ _ (Rs.bun [_] :: [_, _, _, _]) := S86
        have S87 : SH _ _ _ [_, _, _, _, _] := SH.U2y (A := [_]) (B := [_, _, _, _]) S86; clear S86
        refine U10.turn (by kernel_rfl) S87 ?_; clear S87
        change WA _ _ _ _ _ _ _ _ _ _ _ _ [_, _, _, _, _]
        refine Uu (by kernel_rfl) (fun w72 S88 => ?_)
        refine nmk [3, 4, 7, 8, 9, 10] rfl (U4 (U2 Z1cg Z1ch rfl rfl rfl ?_))
        have hsl := U1o d.crs (Ud d m.at_ false).1 (Ud d m.at_ false).2 (2 * (d.crs.length : Int) + 2)
        refine U1 rfl (wlr 0 rfl (U0 rfl rfl uT28 rfl (ce3) (nf3)) (wlr 1 rfl (U3 rfl rfl uT3 rfl (S88.boxc (i := 3) rfl rfl)) (wlr 2 rfl (U2i rfl rfl rfl (by first | omega | (simp only [ls]; omega))) ?_)))
        refine wlr 3 rfl (Uz rfl rfl rfl) (mvs 4 1 rfl rfl (U5 rfl (nmk [3, 4, 7, 8, 9, 10, 11] rfl (U4 (U2 Z1ci Z1cj rfl rfl rfl (U1 rfl (wlo 0 1 rfl rfl rfl (Uh (l := [_, _, _, _, _]) rfl rfl rfl zr77 rfl S88 ?_))))))))
        intro gb12 w73 S89; clear S88
        refine U5 rfl (U4 (U2 Z1ck Z1cl rfl rfl rfl ?_))
        refine ws_cut (fun ax_ wx_ => ∃ (cc : Cr), Env 119 [(4, .pointer (some ⟨gb3, 0, none⟩)), (7, .pointer (some ⟨gb9, 0, none⟩)), (12, .pointer (some ⟨gb12, 0, none⟩))] ax_ ∧ SH wx_ M X [Rs.box gb12 77 [.int .i64 cc.a, .int .i64 cc.b, .int .i64 cc.c, .int .i64 cc.d, .bool cc.plus], Rs.row cdCr voc4 (U1c d.crs ((Ud d m.at_ false).1) ((Ud d m.at_ false).2) ((2 * (d.crs.length : Int)) + 2)), Rs.box gb9 24 [voc4, .int .i64 d.loops], Rs.box gb3 24 [.slice none 0 0, .int .i64 0], Rs.box gb2 28 [.int .i64 m.kd, .int .i64 m.at_, .int .i64 m.by_, .int .i64 m.ua, .bool m.ub, .int .i64 m.va, .bool m.vb, .bool m.ov], Rs.box gb1 24 [.slice dcrsA d.crs.length dcrsc, .int .i64 d.loops]] ∧ cc = U34 m.at_ ((2 * (d.crs.length : Int)) + 1) ((2 * (d.crs.length : Int)) + 1) ((2 * (d.crs.length : Int)) + 2) m.by_) ?_ ?_
        ·refine U2 Z1cm Z1cn rfl rfl rfl (U1 rfl (wlr 0 rfl (U0 rfl rfl uT28 rfl (ce3) (nf3)) (wlr 1 rfl (U3 rfl rfl uT3 rfl (S89.boxc (i := 4) rfl rfl)) (wlr 2 rfl (U2q rfl rfl rfl) (U5 rfl (nmk [4, 7, 8, 9, 10, 11, 12, 89] rfl (U4 ?_)))))))
         refine Ue Z1co Z1cp rfl rfl rfl rfl (fun hb89 => ?_) (fun hb89 => ?_)
         ·refine U2 Z1cq Z1cr rfl rfl rfl (U1 rfl (mvs 0 5 rfl rfl (wlr 5 rfl (run_build (l := [_, _, _, _, _]) rfl rfl st77 rfl rfl) (wlo 6 7 rfl rfl rfl (U7 (i := 0) (us := [_, _, _, _, _]) (l' := [_, _, _, _, _]) (H' := [_, _, _, _, _, _]) rfl rfl S89 rfl rfl rfl rfl sz77 rfl rfl rfl rfl ?_)))))
          intro w75 S91; clear S89
          refine U5 rfl (nmk [4, 7, 8, 9, 11, 12] rfl (U4 (U2 Z1cs Z1ct rfl rfl rfl (U1 rfl (mvs 0 1 rfl rfl (U5 rfl (nmk [4, 7, 8, 9, 12, 96] rfl (U4 ?_))))))))
          refine Ue Z1cu Z1cv rfl rfl rfl rfl (fun hb96 => ?_) (fun hb96 => ?_)
          ·refine U1 rfl (mvs 0 2 rfl rfl (wlr 2 rfl (U0 rfl rfl uT77 rfl (ce3) (nf3)) (wlo 3 4 rfl rfl rfl (U7 (i := 0) (us := [_]) (l' := [_, _, _, _, _]) (H' := [_, _, _, _, _, _]) rfl rfl S91 rfl rfl rfl rfl sz3 rfl rfl rfl rfl ?_))))
           intro w76 S92; clear S91
           refine wlr 4 rfl (U0 rfl rfl uT77 rfl (ce3) (nf3)) (wlo 5 6 rfl rfl rfl (U7 (i := 0) (us := [_]) (l' := [_, _, _, _, _]) (H' := [_, _, _, _, _, _]) rfl rfl S92 rfl rfl rfl rfl sz3 rfl rfl rfl rfl ?_))
           intro w77 S93; clear S92
           refine U5 rfl (U15 ?_)
           intro ax_ hax_
           refine ⟨(⟨(2 * (d.crs.length : Int)) + 1, (2 * (d.crs.length : Int)) + 1, (2 * (d.crs.length : Int)) + 2, m.at_, decide ((m.by_ % 2) = 1)⟩ : Cr), hax_.sub ⟨rfl, rfl, rfl, trivial⟩, S93.pick [0, 1, 2, 3, 4, 5] [_, _, _, _, _, _] (by decide) ⟨rfl, rfl, rfl, rfl, rfl, rfl, trivial⟩, ?hq13f0⟩
           case hq13f0 => (unfold U34 U2d; rw [if_pos (by omega), decide_eq_true hb96, if_pos rfl])
          ·refine Uf rfl (U15 ?_)
           intro ax_ hax_
           refine ⟨(⟨(2 * (d.crs.length : Int)) + 1, m.at_, (2 * (d.crs.length : Int)) + 2, (2 * (d.crs.length : Int)) + 1, decide ((m.by_ % 2) = 1)⟩ : Cr), hax_.sub ⟨rfl, rfl, rfl, trivial⟩, S91.pick [0, 1, 2, 3, 4, 5] [_, _, _, _, _, _] (by decide) ⟨rfl, rfl, rfl, rfl, rfl, rfl, trivial⟩, ?hq14f0⟩
           case hq14f0 => (unfold U34 U2d; rw [if_pos (by omega), decide_eq_false hb96, if_neg Bool.false_ne_true])
         ·refine U2 Z1cw Z1cx rfl rfl rfl (U1 rfl (mvs 0 5 rfl rfl (wlr 5 rfl (run_build (l := [_, _, _, _, _]) rfl rfl st77 rfl rfl) (wlo 6 7 rfl rfl rfl (U7 (i := 0) (us := [_, _, _, _, _]) (l' := [_, _, _, _, _]) (H' := [_, _, _, _, _, _]) rfl rfl S89 rfl rfl rfl rfl sz77 rfl rfl rfl rfl ?_)))))
          intro w78 S94; clear S89
          refine U5 rfl (nmk [4, 7, 9, 10, 11, 12] rfl (U4 (U2 Z1cy Z1cz rfl rfl rfl (U1 rfl (mvs 0 1 rfl rfl (U5 rfl (nmk [4, 7, 9, 10, 12, 107] rfl (U4 ?_))))))))
          refine Ue Z1d0 Z1d1 rfl rfl rfl rfl (fun hb107 => ?_) (fun hb107 => ?_)
          ·refine U1 rfl (mvs 0 2 rfl rfl (wlr 2 rfl (U0 rfl rfl uT77 rfl (ce3) (nf3)) (wlo 3 4 rfl rfl rfl (U7 (i := 0) (us := [_]) (l' := [_, _, _, _, _]) (H' := [_, _, _, _, _, _]) rfl rfl S94 rfl rfl rfl rfl sz3 rfl rfl rfl rfl ?_))))
           intro w79 S95; clear S94
           refine wlr 4 rfl (U0 rfl rfl uT77 rfl (ce3) (nf3)) (wlo 5 6 rfl rfl rfl (U7 (i := 0) (us := [_]) (l' := [_, _, _, _, _]) (H' := [_, _, _, _, _, _]) rfl rfl S95 rfl rfl rfl rfl sz3 rfl rfl rfl rfl ?_))
           intro w80 S96; clear S95
           refine U5 rfl (U15 ?_)
           intro ax_ hax_
           refine ⟨(⟨m.at_, (2 * (d.crs.length : Int)) + 2, (2 * (d.crs.length : Int)) + 1, (2 * (d.crs.length : Int)) + 1, decide ((m.by_ % 2) = 1)⟩ : Cr), hax_.sub ⟨rfl, rfl, rfl, trivial⟩, S96.pick [0, 1, 2, 3, 4, 5] [_, _, _, _, _, _] (by decide) ⟨rfl, rfl, rfl, rfl, rfl, rfl, trivial⟩, ?hq15f0⟩
           case hq15f0 => (unfold U34 U2d; rw [if_neg (by omega), decide_eq_true hb107, if_pos rfl])
          ·refine Uf rfl (U15 ?_)
           intro ax_ hax_
           refine ⟨(⟨m.at_, (2 * (d.crs.length : Int)) + 1, (2 * (d.crs.length : Int)) + 1, (2 * (d.crs.length : Int)) + 2, decide ((m.by_ % 2) = 1)⟩ : Cr), hax_.sub ⟨rfl, rfl, rfl, trivial⟩, S94.pick [0, 1, 2, 3, 4, 5] [_, _, _, _, _, _] (by decide) ⟨rfl, rfl, rfl, rfl, rfl, rfl, trivial⟩, ?hq16f0⟩
           case hq16f0 => (unfold U34 U2d; rw [if_neg (by omega), decide_eq_false hb107, if_neg Bool.false_ne_true])
        ·rintro a4 w74 ⟨cc, he4, S90, hcc⟩
         clear S89
         refine nm_in he4 ?_
         clear he4 a4
         refine U4 (U2 Z1d2 Z1d3 rfl rfl rfl (U1 rfl (wlr 0 rfl (U0 rfl rfl uT24 rfl (ce22) (nf22)) (wlr 1 rfl (U3 rfl rfl uT22 rfl (S90.boxc (i := 2) rfl rfl)) (wlr 2 rfl (U8 (us := [_, _, _, _, _]) rfl rfl uT77 rfl sz77 (S90.boxcs (i := 0) rfl ⟨rfl, rfl, rfl, rfl, rfl, trivial⟩)) (wlo 3 4 rfl rfl rfl (U13 (C := cdCr) (l := [_, _, _, _, _]) rfl rfl rfl rfl sl22 rfl rfl rfl rfl S90 ?_)))))))
         intro gb13 w81 S97; clear S90
         refine wlo 4 5 rfl rfl rfl (U1l (C := cdCr) (i := 2) (q := 0) (⟨cc.a, cc.b, cc.c, cc.d, cc.plus⟩ : Cr) rfl rfl rfl rfl rfl rfl rfl rfl sl22 S97 rfl rfl rfl (by show (_ + 1) * 40 ≤ _; first | omega | (simp only [ls]; omega)) ?_)
         intro voc6 w82 S98; clear S97
         have S99 := S98.pick [1, 2, 3, 4, 5, 6] [_, _, _, _, _, _] (by decide) ⟨rfl, rfl, rfl, rfl, rfl, rfl, trivial⟩; clear S98
         refine wlr 5 rfl (U0 rfl rfl uT24 rfl (ce22) (nf22)) (wlo 6 7 rfl rfl rfl (U7 (i := 2) (us := [_]) (l' := [_, _]) (H' := [_, _, _, _, _, _]) rfl rfl S99 rfl rfl rfl (S99.cells1 (i := 1) rfl) sz22 rfl (Uy (S99.one (i := 1) rfl) rfl) rfl rfl ?_))
         intro w83 S100; clear S99
         refine U5 rfl (nmk [4, 7] rfl (U4 (U2 Z1d4 Z1d5 rfl rfl rfl (U1 rfl (wlr 0 rfl (U8 (us := [_, _]) rfl rfl uT24 rfl sz24 (S100.boxcs (i := 2) rfl ⟨rfl, rfl, trivial⟩)) (wlo 1 2 rfl rfl rfl (U7 (i := 3) (us := [_, _]) (l' := [_, _]) (H' := [_, _, _, _, _, _]) rfl rfl S100 rfl rfl rfl rfl sz24 rfl (Uy (S100.one (i := 1) rfl) (Uy rfl rfl)) rfl rfl ?_)))))))
         intro w84 S101; clear S100
         refine mvs 2 1 rfl rfl (U5 rfl (nmk [4, 5] rfl (U4 ?_)))
         obtain ⟨M24, hle24, S102, ⟨A4, c4, e4, hr4⟩⟩ := S101.pubrow (i := 1) (H' := [_, _, _, _, _, _]) rfl rfl (by show _ * 40 ≤ _; first | omega | (simp only [ls]; omega))
         clear S101; subst e4
         replace hdcrs := hdcrs.mono (Hp.Ua hle24 S102.mx)
         refine Uk hC [_, _] rfl rfl ⟨⟨_, rfl, Up (us := [_, _]) uT24 rfl sz24 (S102.boxcs (i := 3) rfl ⟨rfl, rfl, trivial⟩)⟩, rfl, trivial⟩ ?_
         refine ⟨_, rfl, _, hle24, (S102.pick [] [] (by decide) trivial), ?_⟩
         rw [mvR_ok (E := ⟨(U1c d.crs ((Ud d m.at_ false).1) ((Ud d m.at_ false).2) ((2 * (d.crs.length : Int)) + 2)) ++ [(⟨cc.a, cc.b, cc.c, cc.d, cc.plus⟩ : Cr)], d.loops⟩) (by unfold curE; rw [if_pos (by omega), if_pos (by omega)]) (by subst hcc; unfold curD; rw [if_neg (by omega)])]
         exact ⟨_, _, rfl, hr4⟩
noncomputable def Z1d6:=Tryz.f37.body.getD .skip
def Z1d7 := cL Z1d6
def Z1d8 := cR Z1d6
def Z1d9 := cL Z1d8
def Z1da := cR Z1d8
def Z1db := cL Z1da
def Z1dc := cR Z1da
def Z1dd := cL Z1db
def Z1de := cR Z1db
def Z1df := cL Z1de
def Z1dg := cR Z1de
def Z1dh := cL Z1df
def Z1di := cR Z1df
def Z1dj := cL Z1dc
def Z1dk := cR Z1dc
def Z1dl := cL Z1dj
def Z1dm := cR Z1dj
def Z1dn := cL Z1dm
def Z1do := cR Z1dm
def Z1dp := cL Z1dn
def Z1dq := cR Z1dn
def Z1dr := cL Z1dk
def Z1ds := cR Z1dk
def Z1dt := cL Z1dr
def Z1du := cR Z1dr
def Z1dv := cL Z1du
def Z1dw := cR Z1du
def Z1dx := cL Z1dv
def Z1dy := cR Z1dv
def Z1dz := cL Z1ds
def Z1e0 := cR Z1ds
def Z1e1 := cL Z1e0
def Z1e2 := cR Z1e0
def Z1e3 := cL Z1e2
def Z1e4 := cR Z1e2
def Z1e5 := cL Z1e4
def Z1e6 := cR Z1e4
def Z1e7 := cL Z1e6
def Z1e8 := cR Z1e6
def Z1e9 := cL Z1e8
def Z1ea := cR Z1e8
set_option maxHeartbeats 1000000 in
set_option maxRecDepth 10000 in
theorem pushOf_t {w : World} {M : Hp} {X : Fr} (d : Dg) {dcrsA : Option Addr} {dcrsc : Nat} (m : Mv) (hdcrs : RdA cdCr (M.un X.h) dcrsA dcrsc d.crs) (hn : d.crs.length ≤ 16) (hab : U1b d = true) (hlo : 0 ≤ d.loops ∧ d.loops ≤ 16) (S : SH w M X []) : Ct Tryz.prog 37 [.agg [.slice dcrsA d.crs.length dcrsc, .int .i64 d.loops].toArray, .agg [.int .i64 m.kd, .int .i64 m.at_, .int .i64 m.by_, .int .i64 m.ua, .bool m.ub, .int .i64 m.va, .bool m.vb, .bool m.ov].toArray] w M X (DoR (mvR (puE d m) (puD d m))) := by
 unfold Ct
 have rmhdcrs : d.crs.length * 40 ≤ 140737488355328 := hdcrs.room
 refine Uo (b := Z1d6) Tryz.func37 rfl Tryz.ntmps37 rfl (fun C hC => (U14 [(0, _), (1, _)] ⟨rfl, rfl, trivial⟩ (U2 Z1d7 Z1d8 rfl rfl rfl (U1 rfl (wlo 0 1 rfl rfl rfl (U18 (l := [_, _]) rfl rfl rfl rfl rfl S ?_))))))
 intro gb1 w1 S1; clear S
 refine wlo 1 2 rfl rfl rfl (U18 (l := [_, _, _, _, _, _, _, _]) rfl rfl rfl rfl rfl S1 ?_)
 intro gb2 w2 S2; clear S1
 refine wlo 2 3 rfl rfl rfl (Uh (l := [_, _]) rfl rfl rfl zr24 rfl S2 ?_)
 intro gb3 w3 S3; clear S2
 refine mvs 3 1 rfl rfl (U5 rfl (nmk [2, 3, 4] rfl (U4 (U2 Z1d9 Z1da rfl rfl rfl (U1 rfl (wlr 0 rfl (U0 rfl rfl uT24 rfl (ce22) (nf22)) (wlr 1 rfl (U3 rfl rfl uT22 rfl (S3.boxc (i := 2) rfl rfl)) (wlr 2 rfl (U1f rfl rfl rfl rfl rfl rfl uT22) ?_))))))))
 refine mvs 3 1 rfl rfl (U5 rfl (nmk [2, 3, 4, 6] rfl (U4 (U2 Z1db Z1dc rfl rfl rfl (U2 Z1dd Z1de rfl rfl rfl (U1 rfl (wlr 0 rfl (U0 rfl rfl uT28 rfl (ce26) (nf26)) (wlr 1 rfl (U0 rfl rfl uT26 rfl (ce3) (nf3)) ?_))))))))
 refine wlr 2 rfl (U3 rfl rfl uT3 rfl (S3.boxc (i := 1) rfl rfl)) (wlr 3 rfl (U17 rfl rfl rfl) (mvs 4 1 rfl rfl ?_))
 refine Ut (t := 21) rfl (fun hg21 => ?_) (fun hg21 => ?_)
 ·refine mvs 5 6 rfl rfl (mvs 11 6 rfl rfl (mvs 17 6 rfl rfl (mvs 23 3 rfl rfl (U5 rfl (nmk [2, 3, 4, 6, 42] rfl (U4 (U1h Z1df rfl rfl rfl (U2 Z1dh Z1di rfl rfl rfl ?_))))))))
  refine U1 rfl (wlr 0 rfl (run_build (l := [_, _]) rfl rfl st24 rfl rfl) (wlo 1 2 rfl rfl rfl (U7 (i := 0) (us := [_, _]) (l' := [_, _]) (H' := [_, _, _]) rfl rfl S3 rfl rfl rfl rfl sz24 rfl rfl rfl rfl ?_)))
  intro w4 S4; clear S3
  refine mvs 2 1 rfl rfl (U5 rfl (nmk [4, 5] rfl (U4 (Uk hC [_, _] rfl rfl ⟨⟨_, rfl, Up (us := [_, _]) uT24 rfl sz24 (S4.boxcs (i := 0) rfl ⟨rfl, rfl, trivial⟩)⟩, rfl, trivial⟩ ?_))))
  refine ⟨_, rfl, _, Hp.le_refl _, (S4.pick [] [] (by decide) trivial), ?_⟩
  rw [U26 (c := 3) (by unfold puE; rw [if_neg (by omega)]) (by decide)]
  exact U1z 3
 ·refine wlg 5 6 rfl rfl rfl rfl rfl rfl rfl rfl (Ub rfl rfl (U0 rfl rfl uT28 rfl (ce26) (nf26)) (wlg 6 7 rfl rfl rfl rfl rfl rfl rfl rfl (Ub rfl rfl (U0 rfl rfl uT26 rfl (ce3) (nf3)) (wlg 7 8 rfl rfl rfl rfl rfl rfl rfl rfl (Ub rfl rfl (U3 rfl rfl uT3 rfl (S3.boxc (i := 1) rfl rfl)) (mvs 8 1 rfl rfl (wlg 9 10 rfl rfl rfl rfl rfl rfl rfl rfl (Ub rfl rfl (U28 rfl rfl rfl (by first | omega | (simp only [ls]; omega))) ?_))))))))
  refine wlg 10 11 rfl rfl rfl rfl rfl rfl rfl rfl (Ub rfl rfl (run_gtr rfl rfl rfl) (mvs 11 2 rfl rfl ?_))
  refine Ut (t := 29) rfl (fun hg29 => ?_) (fun hg29 => ?_)
  ·refine mvs 13 6 rfl rfl (mvs 19 6 rfl rfl (mvs 25 1 rfl rfl (U5 rfl (nmk [2, 3, 4, 6, 42] rfl (U4 (U1h Z1df rfl rfl rfl (U2 Z1dh Z1di rfl rfl rfl (U1 rfl ?_))))))))
   refine wlr 0 rfl (run_build (l := [_, _]) rfl rfl st24 rfl rfl) (wlo 1 2 rfl rfl rfl (U7 (i := 0) (us := [_, _]) (l' := [_, _]) (H' := [_, _, _]) rfl rfl S3 rfl rfl rfl rfl sz24 rfl rfl rfl rfl ?_))
   intro w5 S5; clear S3
   refine mvs 2 1 rfl rfl (U5 rfl (nmk [4, 5] rfl (U4 (Uk hC [_, _] rfl rfl ⟨⟨_, rfl, Up (us := [_, _]) uT24 rfl sz24 (S5.boxcs (i := 0) rfl ⟨rfl, rfl, trivial⟩)⟩, rfl, trivial⟩ ?_))))
   refine ⟨_, rfl, _, Hp.le_refl _, (S5.pick [] [] (by decide) trivial), ?_⟩
   rw [U26 (c := 3) (by unfold puE; rw [if_neg (by omega)]) (by decide)]
   exact U1z 3
  ·refine wlg 13 14 rfl rfl rfl rfl rfl rfl rfl rfl (Ub rfl rfl (U0 rfl rfl uT28 rfl (ce26) (nf26)) (wlg 14 15 rfl rfl rfl rfl rfl rfl rfl rfl (Ub rfl rfl (U0 rfl rfl uT26 rfl (ce3) (nf3)) (wlg 15 16 rfl rfl rfl rfl rfl rfl rfl rfl (Ub rfl rfl (U3 rfl rfl uT3 rfl (S3.boxc (i := 1) rfl rfl)) (wlg 16 17 rfl rfl rfl rfl rfl rfl rfl rfl (Ub rfl rfl (U17 rfl rfl rfl) (mvs 17 2 rfl rfl ?_))))))))
   refine Ut (t := 35) rfl (fun hg35 => ?_) (fun hg35 => ?_)
   ·refine mvs 19 6 rfl rfl (mvs 25 1 rfl rfl (U5 rfl (nmk [2, 3, 4, 6, 42] rfl (U4 (U1h Z1df rfl rfl rfl (U2 Z1dh Z1di rfl rfl rfl (U1 rfl (wlr 0 rfl (run_build (l := [_, _]) rfl rfl st24 rfl rfl) ?_))))))))
    refine wlo 1 2 rfl rfl rfl (U7 (i := 0) (us := [_, _]) (l' := [_, _]) (H' := [_, _, _]) rfl rfl S3 rfl rfl rfl rfl sz24 rfl rfl rfl rfl ?_)
    intro w6 S6; clear S3
    refine mvs 2 1 rfl rfl (U5 rfl (nmk [4, 5] rfl (U4 (Uk hC [_, _] rfl rfl ⟨⟨_, rfl, Up (us := [_, _]) uT24 rfl sz24 (S6.boxcs (i := 0) rfl ⟨rfl, rfl, trivial⟩)⟩, rfl, trivial⟩ ?_))))
    refine ⟨_, rfl, _, Hp.le_refl _, (S6.pick [] [] (by decide) trivial), ?_⟩
    rw [U26 (c := 3) (by unfold puE; rw [if_neg (by omega)]) (by decide)]
    exact U1z 3
   ·refine wlg 19 20 rfl rfl rfl rfl rfl rfl rfl rfl (Ub rfl rfl (U0 rfl rfl uT28 rfl (ce26) (nf26)) (wlg 20 21 rfl rfl rfl rfl rfl rfl rfl rfl (Ub rfl rfl (U0 rfl rfl uT26 rfl (ce3) (nf3)) (wlg 21 22 rfl rfl rfl rfl rfl rfl rfl rfl (Ub rfl rfl (U3 rfl rfl uT3 rfl (S3.boxc (i := 1) rfl rfl)) (mvs 22 1 rfl rfl (wlg 23 24 rfl rfl rfl rfl rfl rfl rfl rfl (Ub rfl rfl (U28 rfl rfl rfl (by first | omega | (simp only [ls]; omega))) ?_))))))))
    refine wlg 24 25 rfl rfl rfl rfl rfl rfl rfl rfl (Ub rfl rfl (run_gtr rfl rfl rfl) (mvs 25 1 rfl rfl (U5 rfl (nmk [2, 3, 4, 6, 42] rfl (U4 ?_)))))
    refine Ue Z1df Z1dg rfl rfl rfl rfl (fun hb42 => ?_) (fun hb42 => ?_)
    ·refine U2 Z1dh Z1di rfl rfl rfl (U1 rfl (wlr 0 rfl (run_build (l := [_, _]) rfl rfl st24 rfl rfl) (wlo 1 2 rfl rfl rfl (U7 (i := 0) (us := [_, _]) (l' := [_, _]) (H' := [_, _, _]) rfl rfl S3 rfl rfl rfl rfl sz24 rfl rfl rfl rfl ?_))))
     intro w7 S7; clear S3
     refine mvs 2 1 rfl rfl (U5 rfl (nmk [4, 5] rfl (U4 (Uk hC [_, _] rfl rfl ⟨⟨_, rfl, Up (us := [_, _]) uT24 rfl sz24 (S7.boxcs (i := 0) rfl ⟨rfl, rfl, trivial⟩)⟩, rfl, trivial⟩ ?_))))
     refine ⟨_, rfl, _, Hp.le_refl _, (S7.pick [] [] (by decide) trivial), ?_⟩
     rw [U26 (c := 3) (by unfold puE; rw [if_neg (by omega)]) (by decide)]
     exact U1z 3
    ·refine Uf rfl (nmk [2, 3, 4, 6] rfl (U4 (U2 Z1dj Z1dk rfl rfl rfl (U2 Z1dl Z1dm rfl rfl rfl (U1 rfl (wlr 0 rfl (U0 rfl rfl uT28 rfl (ce26) (nf26)) (wlr 1 rfl (U0 rfl rfl uT26 rfl (ce3) (nf3)) (wlr 2 rfl (U3 rfl rfl uT3 rfl (S3.boxc (i := 1) rfl rfl)) ?_))))))))
     refine wlr 3 rfl (U0 rfl rfl uT28 rfl (ce26) (nf26)) (wlr 4 rfl (U0 rfl rfl uT26 rfl (ce3) (nf3)) (wlr 5 rfl (U3 rfl rfl uT3 rfl (S3.boxc (i := 1) rfl rfl)) (wlr 6 rfl (Uz rfl rfl rfl) (mvs 7 1 rfl rfl ?_))))
     refine Ut (t := 51) rfl (fun hg51 => ?_) (fun hg51 => ?_)
     ·refine mvs 8 6 rfl rfl (mvs 14 2 rfl rfl (U5 rfl (nmk [2, 3, 4, 6, 59] rfl (U4 (U1h Z1dn rfl rfl rfl (U2 Z1dp Z1dq rfl rfl rfl (U1 rfl (wlr 0 rfl (run_build (l := [_, _]) rfl rfl st24 rfl rfl) ?_))))))))
      refine wlo 1 2 rfl rfl rfl (U7 (i := 0) (us := [_, _]) (l' := [_, _]) (H' := [_, _, _]) rfl rfl S3 rfl rfl rfl rfl sz24 rfl rfl rfl rfl ?_)
      intro w8 S8; clear S3
      refine mvs 2 1 rfl rfl (U5 rfl (nmk [4, 5] rfl (U4 (Uk hC [_, _] rfl rfl ⟨⟨_, rfl, Up (us := [_, _]) uT24 rfl sz24 (S8.boxcs (i := 0) rfl ⟨rfl, rfl, trivial⟩)⟩, rfl, trivial⟩ ?_))))
      refine ⟨_, rfl, _, Hp.le_refl _, (S8.pick [] [] (by decide) trivial), ?_⟩
      rw [U26 (c := 8) (by unfold puE; rw [if_pos ((by omega : (1 ≤ m.ua ∧ m.ua ≤ 2 * (d.crs.length : Int)) ∧ (1 ≤ m.va ∧ m.va ≤ 2 * (d.crs.length : Int)))), if_neg (fun h => h.1 hg51)]) (by decide)]
      exact U1z 8
     ·refine wlg 8 9 rfl rfl rfl rfl rfl rfl rfl rfl (Ub rfl rfl (U8 (us := [_, _]) rfl rfl uT24 rfl sz24 (S3.boxcs (i := 2) rfl ⟨rfl, rfl, trivial⟩)) (wlg 9 10 rfl rfl rfl rfl rfl rfl rfl rfl (Ub rfl rfl (U0 rfl rfl uT28 rfl (ce26) (nf26)) (wlg 10 11 rfl rfl rfl rfl rfl rfl rfl rfl (Ub rfl rfl (U8 (us := [_, _]) rfl rfl uT26 rfl sz26 (S3.boxcs (i := 1) rfl ⟨rfl, rfl, trivial⟩)) (wlg 11 12 rfl rfl rfl rfl rfl rfl rfl rfl (Ub rfl rfl (U0 rfl rfl uT28 rfl (ce26) (nf26)) (wlg 12 13 rfl rfl rfl rfl rfl rfl rfl rfl (Ub rfl rfl (U8 (us := [_, _]) rfl rfl uT26 rfl sz26 (S3.boxcs (i := 1) rfl ⟨rfl, rfl, trivial⟩)) (wlg 13 14 rfl rfl rfl rfl rfl rfl rfl rfl (U2w rfl rfl rfl rfl rfl rfl rfl cf78 S3 (onOneFace_t d (⟨m.ua, m.ub⟩ : Da) (⟨m.va, m.vb⟩ : Da) (hdcrs.mono S3.Uw) (hn) (hab) S3.lend) ?_)))))))))))
      intro vw9 w9 M1 hle1 S9 hRw9; clear S3
      replace hdcrs := hdcrs.mono (Hp.Ua hle1 S9.mx)
      obtain rfl := hRw9
      refine wlg 14 15 rfl rfl rfl rfl rfl rfl rfl rfl (Ub rfl rfl (U1j rfl rfl) (mvs 15 1 rfl rfl (U5 rfl (nmk [2, 3, 4, 6, 59] rfl (U4 ?_)))))
      refine U19 Z1dn Z1do rfl rfl rfl rfl (fun hb59 => ?_) (fun hb59 => ?_)
      ·simp only [Bool.and_eq_true, Bool.or_eq_true, Bool.and_eq_false_iff, Bool.or_eq_false_iff, decide_eq_true_eq, decide_eq_false_iff_not, Bool.not_eq_true', Bool.not_eq_false'] at hb59
       refine U2 Z1dp Z1dq rfl rfl rfl (U1 rfl (wlr 0 rfl (run_build (l := [_, _]) rfl rfl st24 rfl rfl) (wlo 1 2 rfl rfl rfl (U7 (i := 0) (us := [_, _]) (l' := [_, _]) (H' := [_, _, _]) rfl rfl S9 rfl rfl rfl rfl sz24 rfl rfl rfl rfl ?_))))
       intro w10 S10; clear S9
       refine mvs 2 1 rfl rfl (U5 rfl (nmk [4, 5] rfl (U4 (Uk hC [_, _] rfl rfl ⟨⟨_, rfl, Up (us := [_, _]) uT24 rfl sz24 (S10.boxcs (i := 0) rfl ⟨rfl, rfl, trivial⟩)⟩, rfl, trivial⟩ ?_))))
       refine ⟨_, rfl, _, hle1, (S10.pick [] [] (by decide) trivial), ?_⟩
       rw [U26 (c := 8) (by unfold puE; rw [if_pos ((by omega : (1 ≤ m.ua ∧ m.ua ≤ 2 * (d.crs.length : Int)) ∧ (1 ≤ m.va ∧ m.va ≤ 2 * (d.crs.length : Int)))), if_neg (fun h => by rw [h.2] at hb59; cases hb59)]) (by decide)]
       exact U1z 8
      ·simp only [Bool.and_eq_true, Bool.or_eq_true, Bool.and_eq_false_iff, Bool.or_eq_false_iff, decide_eq_true_eq, decide_eq_false_iff_not, Bool.not_eq_true', Bool.not_eq_false'] at hb59
       refine Uf rfl (nmk [2, 3, 4, 6] rfl (U4 (U2 Z1dr Z1ds rfl rfl rfl (U2 Z1dt Z1du rfl rfl rfl (U1 rfl (mvs 0 1 rfl rfl (wlr 1 rfl (Ug rfl rfl rfl (by first | omega | (simp only [ls]; omega))) ?_)))))))
       refine wlr 2 rfl (run_gtr rfl rfl rfl) (U5 rfl (nmk [2, 3, 4, 6, 63] rfl (U4 ?_)))
       refine Ue Z1dv Z1dw rfl rfl rfl rfl (fun hb63 => ?_) (fun hb63 => ?_)
       ·refine U2 Z1dx Z1dy rfl rfl rfl (U1 rfl (wlr 0 rfl (run_build (l := [_, _]) rfl rfl st24 rfl rfl) (wlo 1 2 rfl rfl rfl (U7 (i := 0) (us := [_, _]) (l' := [_, _]) (H' := [_, _, _]) rfl rfl S9 rfl rfl rfl rfl sz24 rfl rfl rfl rfl ?_))))
        intro w11 S11; clear S9
        refine mvs 2 1 rfl rfl (U5 rfl (nmk [4, 5] rfl (U4 (Uk hC [_, _] rfl rfl ⟨⟨_, rfl, Up (us := [_, _]) uT24 rfl sz24 (S11.boxcs (i := 0) rfl ⟨rfl, rfl, trivial⟩)⟩, rfl, trivial⟩ ?_))))
        refine ⟨_, rfl, _, hle1, (S11.pick [] [] (by decide) trivial), ?_⟩
        rw [U26 (c := 2) (by unfold puE; rw [if_pos ((by omega : (1 ≤ m.ua ∧ m.ua ≤ 2 * (d.crs.length : Int)) ∧ (1 ≤ m.va ∧ m.va ≤ 2 * (d.crs.length : Int)))), if_pos ⟨hg51, (by simpa using hb59)⟩, if_neg (by omega)]) (by decide)]
        exact U1z 2
       ·refine Uf rfl (nmk [2, 3, 4, 6] rfl (U4 (U2 Z1dz Z1e0 rfl rfl rfl (U1 rfl (wlr 0 rfl (U8 (us := [_, _]) rfl rfl uT24 rfl sz24 (S9.boxcs (i := 2) rfl ⟨rfl, rfl, trivial⟩)) (wlo 1 2 rfl rfl rfl (wo_co rfl rfl rfl rfl rfl rfl rfl cf9 S9 (DgOwn_o d (hdcrs.mono S9.Uw) S9.lend) ?_)))))))
        intro vw12 w12 Nw12 S12 hRw12; clear S9
        obtain ⟨voc1, rfl, rfl⟩ := hRw12
        have S13 : SH _ _ _ [_, _, _, _] := S12; clear S12
        refine wlo 2 3 rfl rfl rfl (Uh (l := [_, _]) rfl rfl rfl zr24 rfl S13 ?_)
        intro gb4 w13 S14; clear S13
        refine wlo 3 4 rfl rfl rfl (U7 (i := 0) (us := [_, _]) (l' := [_, _]) (H' := [_, _, _, _, _]) rfl rfl S14 rfl rfl rfl rfl sz24 rfl (Uy (S14.one (i := 1) rfl) (Uy rfl rfl)) rfl rfl ?_)
        intro w14 S15; clear S14
        refine U5 rfl (nmk [2, 3, 4, 6, 7] rfl (U4 (U2 Z1e1 Z1e2 rfl rfl rfl ?_)))
        obtain ⟨hu1, hu2, _⟩ := endD hab (a := m.ua) (by omega) false
        obtain ⟨hv1, hv2, _⟩ := endD hab (a := m.va) (by omega) false
        refine U1 rfl (wlr 0 rfl (U8 (us := [_, _]) rfl rfl uT24 rfl sz24 (S15.boxcs (i := 4) rfl ⟨rfl, rfl, trivial⟩)) (wlr 1 rfl (U8 (us := [_, _]) rfl rfl uT24 rfl sz24 (S15.boxcs (i := 0) rfl ⟨rfl, rfl, trivial⟩)) (wlr 2 rfl (U0 rfl rfl uT28 rfl (ce26) (nf26)) (wlr 3 rfl (U8 (us := [_, _]) rfl rfl uT26 rfl sz26 (S15.boxcs (i := 3) rfl ⟨rfl, rfl, trivial⟩)) (mvs 4 1 rfl rfl (wlr 5 rfl (U28 rfl rfl rfl (by first | omega | (simp only [ls]; omega))) ?_))))))
        refine wlr 6 rfl (Ug rfl rfl rfl (by first | omega | (simp only [ls]; omega))) ?_
        have S16 := S15.pick [1, 0, 2, 3, 4] [_, _, _, _, _] (by decide) ⟨rfl, rfl, rfl, rfl, rfl, trivial⟩; clear S15
        have S17 : SH _ _ _ (Rs.bun [_] :: [_, _, _, _]) := SH.bunC (A := [_]) (B := [_, _, _, _]) S16; clear S16
        have S18 : SH _ _ _ [_, _, _, _, _] := S17.less (i := 0) rfl
        have hcall1 := cutIn_b d d.crs d.loops (⟨m.ua, m.ub⟩ : Da) ((2 * (d.crs.length : Int)) + 1) (hdcrs.mono S18.Uw) (by first | omega | (simp only [ls]; omega)) (⟨hu1, hu2⟩) (S17.lend1 (i := 0) rfl); clear S18
        refine wlo 7 8 rfl rfl rfl (wo_c1 (i := 0) rfl rfl rfl rfl rfl rfl rfl cf79 S17 rfl hcall1 ?_)
        intro vw15 w15 M2 rw15 hle2 S19 hR1; clear S17
        obtain ⟨huhMX1, hMX1, hR2⟩ := hR1
        rw [hMX1] at S19
        clear hMX1
        subst huhMX1
        subst hR2
        replace S19 : SH _ _ _ (Rs.bun [_] :: [_, _, _, _]) := S19
        have S20 : SH _ _ _ [_, _, _, _, _] := SH.U2y (A := [_]) (B := [_, _, _, _]) S19; clear S19
        refine mvs 8 1 rfl rfl (wlr 9 rfl (Ul rfl rfl rfl) (wlr 10 rfl (Ul rfl rfl rfl) (wlr 11 rfl (Ul rfl rfl rfl) (mvs 12 3 rfl rfl (U5 rfl (nmk [2, 3, 4, 6, 7, 8, 9, 10] rfl (U4 (U2 Z1e3 Z1e4 rfl rfl rfl ?_))))))))
        have hrc1 : U1c d.crs (Ud d (⟨m.ua, m.ub⟩ : Da).a false).1 (Ud d (⟨m.ua, m.ub⟩ : Da).a false).2 (((2 * (d.crs.length : Int)) + 1) + 1) = U1c d.crs (Ud d m.ua false).1 (Ud d m.ua false).2 (2 * (d.crs.length : Int) + 2) := congrArg (fun z => U1c d.crs (Ud d m.ua false).1 (Ud d m.ua false).2 z) (by omega)
        rw [hrc1] at S20; clear hrc1
        have hl1 : (U1c d.crs (Ud d m.ua false).1 (Ud d m.ua false).2 (2 * (d.crs.length : Int) + 2)).length = d.crs.length := U1o _ _ _ _
        refine U1 rfl (wlr 0 rfl (U8 (us := [_, _]) rfl rfl uT24 rfl sz24 (S20.boxcs (i := 4) rfl ⟨rfl, rfl, trivial⟩)) (wlr 1 rfl (U8 (us := [_, _]) rfl rfl uT24 rfl sz24 (S20.boxcs (i := 1) rfl ⟨rfl, rfl, trivial⟩)) (wlr 2 rfl (U0 rfl rfl uT28 rfl (ce26) (nf26)) (wlr 3 rfl (U8 (us := [_, _]) rfl rfl uT26 rfl sz26 (S20.boxcs (i := 3) rfl ⟨rfl, rfl, trivial⟩)) (mvs 4 1 rfl rfl (wlr 5 rfl (U28 rfl rfl rfl (by first | omega | (simp only [ls]; omega))) ?_))))))
        refine wlr 6 rfl (Ug rfl rfl rfl (by first | omega | (simp only [ls]; omega))) ?_
        have S21 := S20.pick [0, 1, 2, 3, 4] [_, _, _, _, _] (by decide) ⟨rfl, rfl, rfl, rfl, rfl, trivial⟩; clear S20
        have S22 : SH _ _ _ (Rs.bun [_] :: [_, _, _, _]) := SH.bunC (A := [_]) (B := [_, _, _, _]) S21; clear S21
        have S23 : SH _ _ _ [_, _, _, _, _] := S22.less (i := 0) rfl
        have hcall2 := cutIn_b d (U1c d.crs (Ud d m.ua false).1 (Ud d m.ua false).2 (2 * (d.crs.length : Int) + 2)) d.loops (⟨m.va, m.vb⟩ : Da) ((2 * (d.crs.length : Int)) + 3) (hdcrs.mono S23.Uw) (by first | omega | (simp only [ls]; omega)) (⟨by rw [hl1]; exact hv1, hv2⟩) (S22.lend1 (i := 0) rfl); clear S23
        refine wlo 7 8 rfl rfl rfl (wo_c1 (i := 0) rfl rfl rfl rfl rfl rfl rfl cf79 S22 rfl hcall2 ?_)
        intro vw16 w16 M3 rw16 hle3 S24 hR3; clear S22
        obtain ⟨huhMX2, hMX2, hR4⟩ := hR3
        rw [hMX2] at S24
        clear hMX2
        subst huhMX2
        subst hR4
        replace S24 : SH _ _ _ (Rs.bun [_] :: [_, _, _, _]) := S24
        have S25 : SH _ _ _ [_, _, _, _, _] := SH.U2y (A := [_]) (B := [_, _, _, _]) S24; clear S24
        refine mvs 8 1 rfl rfl (wlr 9 rfl (Ul rfl rfl rfl) (wlr 10 rfl (Ul rfl rfl rfl) (wlr 11 rfl (Ul rfl rfl rfl) (mvs 12 3 rfl rfl (U5 rfl (nmk [3, 4, 7, 8, 9, 10, 11, 12, 13] rfl (U4 (U2 Z1e5 Z1e6 rfl rfl rfl ?_))))))))
        have hrc2 : U1c (U1c d.crs (Ud d m.ua false).1 (Ud d m.ua false).2 (2 * (d.crs.length : Int) + 2)) (Ud d (⟨m.va, m.vb⟩ : Da).a false).1 (Ud d (⟨m.va, m.vb⟩ : Da).a false).2 (((2 * (d.crs.length : Int)) + 3) + 1) = U1c (U1c d.crs (Ud d m.ua false).1 (Ud d m.ua false).2 (2 * (d.crs.length : Int) + 2)) (Ud d m.va false).1 (Ud d m.va false).2 (2 * (d.crs.length : Int) + 4) := congrArg (fun z => U1c (U1c d.crs (Ud d m.ua false).1 (Ud d m.ua false).2 (2 * (d.crs.length : Int) + 2)) (Ud d m.va false).1 (Ud d m.va false).2 z) (by omega)
        rw [hrc2] at S25; clear hrc2
        have hl2 : (U1c (U1c d.crs (Ud d m.ua false).1 (Ud d m.ua false).2 (2 * (d.crs.length : Int) + 2)) (Ud d m.va false).1 (Ud d m.va false).2 (2 * (d.crs.length : Int) + 4)).length = d.crs.length := (U1o _ _ _ _).trans hl1
        have S26 := S25.pick [0, 1, 2, 3, 4] [_, _, _, _, _] (by decide) ⟨rfl, rfl, rfl, rfl, rfl, trivial⟩; clear S25
        refine U29 [_] [_, _, _, _] rfl (by kernel_rfl) S26 21 rfl ?_
        clear S26
        change WA _ _ _ _ _ _ _ _ _ _ _ _ [_, _, _, _, _]
        refine wap 0 20 rfl (by kernel_rfl) (fun _ => U0 rfl rfl uT24 rfl (ce22) (nf22)) ?_
        refine wat 1 19 rfl (by kernel_rfl) (fun _ _ _ hz Sz => .inl (U3 rfl rfl uT22 rfl (Sz.suf.boxc (i := 0) rfl rfl))) ?_
        refine wap 2 18 rfl (by kernel_rfl) (fun _ => run_move rfl rfl) ?_
        refine wap 3 17 rfl (by kernel_rfl) (fun _ => run_move rfl rfl) ?_
        refine wap 4 16 rfl (by kernel_rfl) (fun _ => run_move rfl rfl) ?_
        refine wap 5 15 rfl (by kernel_rfl) (fun _ => run_move rfl rfl) ?_
        refine wap 6 14 rfl (by kernel_rfl) (fun _ => U0 rfl rfl uT28 rfl (ce26) (nf26)) ?_
        refine wap 7 13 rfl (by kernel_rfl) (fun _ => U0 rfl rfl uT26 rfl (ce4) (nf4)) ?_
        refine wat 8 12 rfl (by kernel_rfl) (fun _ _ _ hz Sz => .inl (U3 rfl rfl uT4 rfl (Sz.suf.boxc (i := 2) rfl rfl))) ?_
        refine wap 9 11 rfl (by kernel_rfl) (fun _ => U1j rfl rfl) ?_
        refine wap 10 10 rfl (by kernel_rfl) (fun _ => U0 rfl rfl uT28 rfl (ce26) (nf26)) ?_
        refine wap 11 9 rfl (by kernel_rfl) (fun _ => U0 rfl rfl uT26 rfl (ce4) (nf4)) ?_
        refine wat 12 8 rfl (by kernel_rfl) (fun _ _ _ hz Sz => .inl (U3 rfl rfl uT4 rfl (Sz.suf.boxc (i := 2) rfl rfl))) ?_
        refine wap 13 7 rfl (by kernel_rfl) (fun _ => U1j rfl rfl) ?_
        refine wap 14 6 rfl (by kernel_rfl) (fun _ => U0 rfl rfl uT28 rfl (ce4) (nf4)) ?_
        refine wat 15 5 rfl (by kernel_rfl) (fun _ _ _ hz Sz => .inl (U3 rfl rfl uT4 rfl (Sz.suf.boxc (i := 2) rfl rfl))) ?_
        refine wat 16 4 rfl (by kernel_rfl) (fun _ _ _ hz Sz => Uq rfl rfl rfl rfl rfl cf80 Sz (laid_q (cutN (⟨m.va, m.vb⟩ : Da) ((2 * (d.crs.length : Int)) + 3) 1) (cutN (⟨m.ua, m.ub⟩ : Da) ((2 * (d.crs.length : Int)) + 1) 1) (cutN (⟨m.va, m.vb⟩ : Da) ((2 * (d.crs.length : Int)) + 3) 2) (cutN (⟨m.ua, m.ub⟩ : Da) ((2 * (d.crs.length : Int)) + 1) 0) (!m.ub) (!m.vb) (m.ov)  Sz.lend)) ?_
        refine Um (i := 17) 3 rfl (by kernel_rfl) rfl rfl (fun w35 S45 => ?_)
        refine (U13 (C := cdCr) (l := [_, _, _, _, _]) rfl rfl rfl rfl sl22 rfl rfl rfl rfl S45 ?_)
        intro gb5 w36 S46; clear S45
        refine U10.grow [_, _] (Hp.le_refl _) S46 ?_; clear S46
        change WA _ _ _ _ _ _ _ _ _ _ _ _ [_, _, _, _, _, _]
        refine Um (i := 18) 2 rfl (by kernel_rfl) rfl rfl (fun w38 S48 => ?_)
        refine (U1l (C := cdCr) (i := 1) (q := 0) (⟨(U3c (cutN (⟨m.va, m.vb⟩ : Da) ((2 * (d.crs.length : Int)) + 3) 1) (cutN (⟨m.ua, m.ub⟩ : Da) ((2 * (d.crs.length : Int)) + 1) 1) (cutN (⟨m.va, m.vb⟩ : Da) ((2 * (d.crs.length : Int)) + 3) 2) (cutN (⟨m.ua, m.ub⟩ : Da) ((2 * (d.crs.length : Int)) + 1) 0) (!m.ub) (!m.vb) (m.ov)).a, (U3c (cutN (⟨m.va, m.vb⟩ : Da) ((2 * (d.crs.length : Int)) + 3) 1) (cutN (⟨m.ua, m.ub⟩ : Da) ((2 * (d.crs.length : Int)) + 1) 1) (cutN (⟨m.va, m.vb⟩ : Da) ((2 * (d.crs.length : Int)) + 3) 2) (cutN (⟨m.ua, m.ub⟩ : Da) ((2 * (d.crs.length : Int)) + 1) 0) (!m.ub) (!m.vb) (m.ov)).b, (U3c (cutN (⟨m.va, m.vb⟩ : Da) ((2 * (d.crs.length : Int)) + 3) 1) (cutN (⟨m.ua, m.ub⟩ : Da) ((2 * (d.crs.length : Int)) + 1) 1) (cutN (⟨m.va, m.vb⟩ : Da) ((2 * (d.crs.length : Int)) + 3) 2) (cutN (⟨m.ua, m.ub⟩ : Da) ((2 * (d.crs.length : Int)) + 1) 0) (!m.ub) (!m.vb) (m.ov)).c, (U3c (cutN (⟨m.va, m.vb⟩ : Da) ((2 * (d.crs.length : Int)) + 3) 1) (cutN (⟨m.ua, m.ub⟩ : Da) ((2 * (d.crs.length : Int)) + 1) 1) (cutN (⟨m.va, m.vb⟩ : Da) ((2 * (d.crs.length : Int)) + 3) 2) (cutN (⟨m.ua, m.ub⟩ : Da) ((2 * (d.crs.length : Int)) + 1) 0) (!m.ub) (!m.vb) (m.ov)).d, (U3c (cutN (⟨m.va, m.vb⟩ : Da) ((2 * (d.crs.length : Int)) + 3) 1) (cutN (⟨m.ua, m.ub⟩ : Da) ((2 * (d.crs.length : Int)) + 1) 1) (cutN (⟨m.va, m.vb⟩ : Da) ((2 * (d.crs.length : Int)) + 3) 2) (cutN (⟨m.ua, m.ub⟩ : Da) ((2 * (d.crs.length : Int)) + 1) 0) (!m.ub) (!m.vb) (m.ov)).plus⟩ : Cr) rfl rfl rfl rfl rfl rfl rfl rfl sl22 S48 rfl rfl rfl (by show (_ + 1) * 40 ≤ _; first | omega | (simp only [ls]; omega)) ?_)
        intro voc2 w39 S49; clear S48
        have S50 := S49.pick [1, 2, 3, 4, 5] [_, _, _, _, _] (by decide) ⟨rfl, rfl, rfl, rfl, rfl, trivial⟩; clear S49
        refine U10.grow [_] (Hp.le_refl _) S50 ?_; clear S50
        change WA _ _ _ _ _ _ _ _ _ _ _ _ [_, _, _, _, _]
        refine wap 19 1 rfl (by kernel_rfl) (fun _ => U0 rfl rfl uT24 rfl (ce22) (nf22)) ?_
        refine Um (i := 20) 0 rfl (by kernel_rfl) rfl rfl (fun w42 S53 => ?_)
        refine (U7 (i := 1) (us := [_]) (l' := [_, _]) (H' := [_, _, _, _, _]) rfl rfl S53 rfl rfl rfl (S53.cells1 (i := 0) rfl) sz22 rfl (Uy (S53.one (i := 0) rfl) rfl) rfl rfl ?_)
        intro w43 S54; clear S53
        refine U10.turn (by kernel_rfl) S54 ?_; clear S54
        change WA _ _ _ _ _ _ _ _ _ _ _ _ [_, _, _, _, _]
        refine Uu (by kernel_rfl) (fun w44 S55 => ?_)
        refine nmk [3, 4, 7, 9, 10, 11, 12] rfl (U4 (U2 Z1e7 Z1e8 rfl rfl rfl ?_))
        have S56 := S55.pick [0, 1, 2, 3, 4] [_, _, _, _, _] (by decide) ⟨rfl, rfl, rfl, rfl, rfl, trivial⟩; clear S55
        refine U29 [_] [_, _, _, _] rfl (by kernel_rfl) S56 20 rfl ?_
        clear S56
        change WA _ _ _ _ _ _ _ _ _ _ _ _ [_, _, _, _, _]
        refine wap 0 19 rfl (by kernel_rfl) (fun _ => U0 rfl rfl uT24 rfl (ce22) (nf22)) ?_
        refine wat 1 18 rfl (by kernel_rfl) (fun _ _ _ hz Sz => .inl (U3 rfl rfl uT22 rfl (Sz.suf.boxc (i := 0) rfl rfl))) ?_
        refine wap 2 17 rfl (by kernel_rfl) (fun _ => run_move rfl rfl) ?_
        refine wap 3 16 rfl (by kernel_rfl) (fun _ => run_move rfl rfl) ?_
        refine wap 4 15 rfl (by kernel_rfl) (fun _ => run_move rfl rfl) ?_
        refine wap 5 14 rfl (by kernel_rfl) (fun _ => run_move rfl rfl) ?_
        refine wap 6 13 rfl (by kernel_rfl) (fun _ => U0 rfl rfl uT28 rfl (ce26) (nf26)) ?_
        refine wap 7 12 rfl (by kernel_rfl) (fun _ => U0 rfl rfl uT26 rfl (ce4) (nf4)) ?_
        refine wat 8 11 rfl (by kernel_rfl) (fun _ _ _ hz Sz => .inl (U3 rfl rfl uT4 rfl (Sz.suf.boxc (i := 2) rfl rfl))) ?_
        refine wap 9 10 rfl (by kernel_rfl) (fun _ => U0 rfl rfl uT28 rfl (ce26) (nf26)) ?_
        refine wap 10 9 rfl (by kernel_rfl) (fun _ => U0 rfl rfl uT26 rfl (ce4) (nf4)) ?_
        refine wat 11 8 rfl (by kernel_rfl) (fun _ _ _ hz Sz => .inl (U3 rfl rfl uT4 rfl (Sz.suf.boxc (i := 2) rfl rfl))) ?_
        refine wap 12 7 rfl (by kernel_rfl) (fun _ => U1j rfl rfl) ?_
        refine wap 13 6 rfl (by kernel_rfl) (fun _ => U0 rfl rfl uT28 rfl (ce4) (nf4)) ?_
        refine wat 14 5 rfl (by kernel_rfl) (fun _ _ _ hz Sz => .inl (U3 rfl rfl uT4 rfl (Sz.suf.boxc (i := 2) rfl rfl))) ?_
        refine wat 15 4 rfl (by kernel_rfl) (fun _ _ _ hz Sz => Uq rfl rfl rfl rfl rfl cf80 Sz (laid_q (cutN (⟨m.va, m.vb⟩ : Da) ((2 * (d.crs.length : Int)) + 3) 0) (cutN (⟨m.ua, m.ub⟩ : Da) ((2 * (d.crs.length : Int)) + 1) 1) (cutN (⟨m.va, m.vb⟩ : Da) ((2 * (d.crs.length : Int)) + 3) 1) (cutN (⟨m.ua, m.ub⟩ : Da) ((2 * (d.crs.length : Int)) + 1) 2) (m.ub) (!m.vb) (m.ov)  Sz.lend)) ?_
        refine Um (i := 16) 3 rfl (by kernel_rfl) rfl rfl (fun w62 S74 => ?_)
        refine (U13 (C := cdCr) (l := [_, _, _, _, _]) rfl rfl rfl rfl sl22 rfl rfl rfl rfl S74 ?_)
        intro gb6 w63 S75; clear S74
        refine U10.grow [_, _] (Hp.le_refl _) S75 ?_; clear S75
        change WA _ _ _ _ _ _ _ _ _ _ _ _ [_, _, _, _, _, _]
        refine Um (i := 17) 2 rfl (by kernel_rfl) rfl rfl (fun w65 S77 => ?_)
        refine (U1l (C := cdCr) (i := 1) (q := 0) (⟨(U3c (cutN (⟨m.va, m.vb⟩ : Da) ((2 * (d.crs.length : Int)) + 3) 0) (cutN (⟨m.ua, m.ub⟩ : Da) ((2 * (d.crs.length : Int)) + 1) 1) (cutN (⟨m.va, m.vb⟩ : Da) ((2 * (d.crs.length : Int)) + 3) 1) (cutN (⟨m.ua, m.ub⟩ : Da) ((2 * (d.crs.length : Int)) + 1) 2) (m.ub) (!m.vb) (m.ov)).a, (U3c (cutN (⟨m.va, m.vb⟩ : Da) ((2 * (d.crs.length : Int)) + 3) 0) (cutN (⟨m.ua, m.ub⟩ : Da) ((2 * (d.crs.length : Int)) + 1) 1) (cutN (⟨m.va, m.vb⟩ : Da) ((2 * (d.crs.length : Int)) + 3) 1) (cutN (⟨m.ua, m.ub⟩ : Da) ((2 * (d.crs.length : Int)) + 1) 2) (m.ub) (!m.vb) (m.ov)).b, (U3c (cutN (⟨m.va, m.vb⟩ : Da) ((2 * (d.crs.length : Int)) + 3) 0) (cutN (⟨m.ua, m.ub⟩ : Da) ((2 * (d.crs.length : Int)) + 1) 1) (cutN (⟨m.va, m.vb⟩ : Da) ((2 * (d.crs.length : Int)) + 3) 1) (cutN (⟨m.ua, m.ub⟩ : Da) ((2 * (d.crs.length : Int)) + 1) 2) (m.ub) (!m.vb) (m.ov)).c, (U3c (cutN (⟨m.va, m.vb⟩ : Da) ((2 * (d.crs.length : Int)) + 3) 0) (cutN (⟨m.ua, m.ub⟩ : Da) ((2 * (d.crs.length : Int)) + 1) 1) (cutN (⟨m.va, m.vb⟩ : Da) ((2 * (d.crs.length : Int)) + 3) 1) (cutN (⟨m.ua, m.ub⟩ : Da) ((2 * (d.crs.length : Int)) + 1) 2) (m.ub) (!m.vb) (m.ov)).d, (U3c (cutN (⟨m.va, m.vb⟩ : Da) ((2 * (d.crs.length : Int)) + 3) 0) (cutN (⟨m.ua, m.ub⟩ : Da) ((2 * (d.crs.length : Int)) + 1) 1) (cutN (⟨m.va, m.vb⟩ : Da) ((2 * (d.crs.length : Int)) + 3) 1) (cutN (⟨m.ua, m.ub⟩ : Da) ((2 * (d.crs.length : Int)) + 1) 2) (m.ub) (!m.vb) (m.ov)).plus⟩ : Cr) rfl rfl rfl rfl rfl rfl rfl rfl sl22 S77 rfl rfl rfl (by show (_ + 1) * 40 ≤ _; first | omega | (simp only [ls]; omega)) ?_)
        intro voc3 w66 S78; clear S77
        have S79 := S78.pick [1, 2, 3, 4, 5] [_, _, _, _, _] (by decide) ⟨rfl, rfl, rfl, rfl, rfl, trivial⟩; clear S78
        refine U10.grow [_] (Hp.le_refl _) S79 ?_; clear S79
        change WA _ _ _ _ _ _ _ _ _ _ _ _ [_, _, _, _, _]
        refine wap 18 1 rfl (by kernel_rfl) (fun _ => U0 rfl rfl uT24 rfl (ce22) (nf22)) ?_
        refine Um (i := 19) 0 rfl (by kernel_rfl) rfl rfl (fun w69 S82 => ?_)
        refine (U7 (i := 1) (us := [_]) (l' := [_, _]) (H' := [_, _, _, _, _]) rfl rfl S82 rfl rfl rfl (S82.cells1 (i := 0) rfl) sz22 rfl (Uy (S82.one (i := 0) rfl) rfl) rfl rfl ?_)
        intro w70 S83; clear S82
        refine U10.turn (by kernel_rfl) S83 ?_; clear S83
        change WA _ _ _ _ _ _ _ _ _ _ _ _ [_, _, _, _, _]
        refine Uu (by kernel_rfl) (fun w71 S84 => ?_)
        refine nmk [4, 7] rfl (U4 (U2 Z1e9 Z1ea rfl rfl rfl (U1 rfl (wlr 0 rfl (U8 (us := [_, _]) rfl rfl uT24 rfl sz24 (S84.boxcs (i := 1) rfl ⟨rfl, rfl, trivial⟩)) (wlo 1 2 rfl rfl rfl (U7 (i := 2) (us := [_, _]) (l' := [_, _]) (H' := [_, _, _, _, _]) rfl rfl S84 rfl rfl rfl rfl sz24 rfl (Uy (S84.one (i := 0) rfl) (Uy rfl rfl)) rfl rfl ?_))))))
        intro w72 S85; clear S84
        refine mvs 2 1 rfl rfl (U5 rfl (nmk [4, 5] rfl (U4 ?_)))
        obtain ⟨M45, hle45, S86, ⟨A1, c1, e1, hr1⟩⟩ := S85.pubrow (i := 0) (H' := [_, _, _, _, _]) rfl rfl (by show _ * 40 ≤ _; first | omega | (simp only [ls]; omega))
        clear S85; subst e1
        replace hdcrs := hdcrs.mono (Hp.Ua hle45 S86.mx)
        refine Uk hC [_, _] rfl rfl ⟨⟨_, rfl, Up (us := [_, _]) uT24 rfl sz24 (S86.boxcs (i := 2) rfl ⟨rfl, rfl, trivial⟩)⟩, rfl, trivial⟩ ?_
        refine ⟨_, rfl, _, hle1.trans hle45, (S86.pick [] [] (by decide) trivial), ?_⟩
        rw [mvR_ok (E := ⟨((U1c (U1c d.crs (Ud d m.ua false).1 (Ud d m.ua false).2 (2 * (d.crs.length : Int) + 2)) (Ud d m.va false).1 (Ud d m.va false).2 (2 * (d.crs.length : Int) + 4)) ++ [(⟨(U3c (cutN (⟨m.va, m.vb⟩ : Da) ((2 * (d.crs.length : Int)) + 3) 1) (cutN (⟨m.ua, m.ub⟩ : Da) ((2 * (d.crs.length : Int)) + 1) 1) (cutN (⟨m.va, m.vb⟩ : Da) ((2 * (d.crs.length : Int)) + 3) 2) (cutN (⟨m.ua, m.ub⟩ : Da) ((2 * (d.crs.length : Int)) + 1) 0) (!m.ub) (!m.vb) (m.ov)).a, (U3c (cutN (⟨m.va, m.vb⟩ : Da) ((2 * (d.crs.length : Int)) + 3) 1) (cutN (⟨m.ua, m.ub⟩ : Da) ((2 * (d.crs.length : Int)) + 1) 1) (cutN (⟨m.va, m.vb⟩ : Da) ((2 * (d.crs.length : Int)) + 3) 2) (cutN (⟨m.ua, m.ub⟩ : Da) ((2 * (d.crs.length : Int)) + 1) 0) (!m.ub) (!m.vb) (m.ov)).b, (U3c (cutN (⟨m.va, m.vb⟩ : Da) ((2 * (d.crs.length : Int)) + 3) 1) (cutN (⟨m.ua, m.ub⟩ : Da) ((2 * (d.crs.length : Int)) + 1) 1) (cutN (⟨m.va, m.vb⟩ : Da) ((2 * (d.crs.length : Int)) + 3) 2) (cutN (⟨m.ua, m.ub⟩ : Da) ((2 * (d.crs.length : Int)) + 1) 0) (!m.ub) (!m.vb) (m.ov)).c, (U3c (cutN (⟨m.va, m.vb⟩ : Da) ((2 * (d.crs.length : Int)) + 3) 1) (cutN (⟨m.ua, m.ub⟩ : Da) ((2 * (d.crs.length : Int)) + 1) 1) (cutN (⟨m.va, m.vb⟩ : Da) ((2 * (d.crs.length : Int)) + 3) 2) (cutN (⟨m.ua, m.ub⟩ : Da) ((2 * (d.crs.length : Int)) + 1) 0) (!m.ub) (!m.vb) (m.ov)).d, (U3c (cutN (⟨m.va, m.vb⟩ : Da) ((2 * (d.crs.length : Int)) + 3) 1) (cutN (⟨m.ua, m.ub⟩ : Da) ((2 * (d.crs.length : Int)) + 1) 1) (cutN (⟨m.va, m.vb⟩ : Da) ((2 * (d.crs.length : Int)) + 3) 2) (cutN (⟨m.ua, m.ub⟩ : Da) ((2 * (d.crs.length : Int)) + 1) 0) (!m.ub) (!m.vb) (m.ov)).plus⟩ : Cr)]) ++ [(⟨(U3c (cutN (⟨m.va, m.vb⟩ : Da) ((2 * (d.crs.length : Int)) + 3) 0) (cutN (⟨m.ua, m.ub⟩ : Da) ((2 * (d.crs.length : Int)) + 1) 1) (cutN (⟨m.va, m.vb⟩ : Da) ((2 * (d.crs.length : Int)) + 3) 1) (cutN (⟨m.ua, m.ub⟩ : Da) ((2 * (d.crs.length : Int)) + 1) 2) (m.ub) (!m.vb) (m.ov)).a, (U3c (cutN (⟨m.va, m.vb⟩ : Da) ((2 * (d.crs.length : Int)) + 3) 0) (cutN (⟨m.ua, m.ub⟩ : Da) ((2 * (d.crs.length : Int)) + 1) 1) (cutN (⟨m.va, m.vb⟩ : Da) ((2 * (d.crs.length : Int)) + 3) 1) (cutN (⟨m.ua, m.ub⟩ : Da) ((2 * (d.crs.length : Int)) + 1) 2) (m.ub) (!m.vb) (m.ov)).b, (U3c (cutN (⟨m.va, m.vb⟩ : Da) ((2 * (d.crs.length : Int)) + 3) 0) (cutN (⟨m.ua, m.ub⟩ : Da) ((2 * (d.crs.length : Int)) + 1) 1) (cutN (⟨m.va, m.vb⟩ : Da) ((2 * (d.crs.length : Int)) + 3) 1) (cutN (⟨m.ua, m.ub⟩ : Da) ((2 * (d.crs.length : Int)) + 1) 2) (m.ub) (!m.vb) (m.ov)).c, (U3c (cutN (⟨m.va, m.vb⟩ : Da) ((2 * (d.crs.length : Int)) + 3) 0) (cutN (⟨m.ua, m.ub⟩ : Da) ((2 * (d.crs.length : Int)) + 1) 1) (cutN (⟨m.va, m.vb⟩ : Da) ((2 * (d.crs.length : Int)) + 3) 1) (cutN (⟨m.ua, m.ub⟩ : Da) ((2 * (d.crs.length : Int)) + 1) 2) (m.ub) (!m.vb) (m.ov)).d, (U3c (cutN (⟨m.va, m.vb⟩ : Da) ((2 * (d.crs.length : Int)) + 3) 0) (cutN (⟨m.ua, m.ub⟩ : Da) ((2 * (d.crs.length : Int)) + 1) 1) (cutN (⟨m.va, m.vb⟩ : Da) ((2 * (d.crs.length : Int)) + 3) 1) (cutN (⟨m.ua, m.ub⟩ : Da) ((2 * (d.crs.length : Int)) + 1) 2) (m.ub) (!m.vb) (m.ov)).plus⟩ : Cr)], d.loops⟩) (by unfold puE; rw [if_pos ((by omega : (1 ≤ m.ua ∧ m.ua ≤ 2 * (d.crs.length : Int)) ∧ (1 ≤ m.va ∧ m.va ≤ 2 * (d.crs.length : Int)))), if_pos ⟨hg51, (by simpa using hb59)⟩, if_pos (by omega)]) (by unfold puD; rw [pcross_1, pcross_2])]
        exact ⟨_, _, rfl, hr1⟩
end Go.Proofs.YthppkofceancjaaGreat
namespace Go.Proofs.YthppkofceancjaaGreat
open Go.RowKit
section
variable (e1 e2 : Nat → Nat)
end
def prJ (j : Nat) : Nat := 4 * (j / 4) + (j % 4 + 3) % 4
structure Mp4 (n : Nat) (h1 h2 hA F : Nat → Nat) : Prop where
  lt : ∀ a, a < 2 * n → h1 a < 4 * n ∧ h2 a < 4 * n ∧ h1 a ≠ h2 a ∧ hA (h1 a) = a ∧ hA (h2 a) = a
  at_ : ∀ j, j < 4 * n → hA j < 2 * n ∧ (j = h1 (hA j) ∨ j = h2 (hA j))
  nx : ∀ a, a < 2 * n → F (h1 a) = F (prJ (h2 a)) ∧ F (h2 a) = F (prJ (h1 a))
  fl : ∀ j, j < 4 * n → F j < n + 2
  fs : ∀ i, i < n + 2 → ∃ j, j < 4 * n ∧ F j = i
  con : ∀ Z : Nat → Prop, (∀ a, a < 2 * n → (Z (h1 a / 4) ↔ Z (h2 a / 4))) → ∀ x y, x < n → y < n → Z x → Z y
section
variable {n : Nat} {h1 h2 hA F : Nat → Nat}
theorem Mp4.hs (m : Mp4 n h1 h2 hA F) (P : Nat → Bool) : cn P (4 * n) = cn (fun a => P (h1 a)) (2 * n) + cn (fun a => P (h2 a)) (2 * n) := by
  have hp : ((List.range (2 * n)).map h1 ++ (List.range (2 * n)).map h2).Perm (List.range (4 * n)) := by
    rw [List.perm_ext_iff_of_nodup]
    · intro j
      rw [List.mem_append, List.mem_map, List.mem_map, List.mem_range]
      constructor
      · rintro (⟨a, ha, rfl⟩ | ⟨a, ha, rfl⟩)
        · exact (m.lt a (List.mem_range.1 ha)).1
        · exact (m.lt a (List.mem_range.1 ha)).2.1
      · intro hj
        obtain ⟨h3, h4 | h4⟩ := m.at_ j hj
        · exact .inl ⟨hA j, List.mem_range.2 h3, h4.symm⟩
        · exact .inr ⟨hA j, List.mem_range.2 h3, h4.symm⟩
    · rw [List.nodup_append]
      have inj : ∀ h : Nat → Nat, (∀ a, a < 2 * n → hA (h a) = a) → ((List.range (2 * n)).map h).Nodup := fun h hh => by
        rw [List.nodup_iff_pairwise_ne, List.pairwise_map]
        refine List.Pairwise.imp_of_mem ?_ List.nodup_range
        intro a b ha hb hab e
        have h3 := hh a (List.mem_range.1 ha)
        have h4 := hh b (List.mem_range.1 hb)
        rw [e] at h3
        exact hab (h3.symm.trans h4)
      refine ⟨inj h1 fun a ha => (m.lt a ha).2.2.2.1, inj h2 fun a ha => (m.lt a ha).2.2.2.2, ?_⟩
      intro x hx y hy
      obtain ⟨a, ha, rfl⟩ := List.mem_map.1 hx
      obtain ⟨b, hb, rfl⟩ := List.mem_map.1 hy
      intro e
      have h3 := (m.lt a (List.mem_range.1 ha)).2.2
      have h4 := (m.lt b (List.mem_range.1 hb)).2.2
      have e2 : a = b := by rw [← h3.2.1, e, h4.2.2]
      subst e2
      exact h3.1 e
    · exact List.nodup_range
  have h3 := hp.countP_eq P
  rw [List.countP_append, List.countP_map, List.countP_map] at h3
  rw [cn_filter, cn_filter, cn_filter, ← List.countP_eq_length_filter, ← List.countP_eq_length_filter, ← List.countP_eq_length_filter, ← h3]
  rfl
end
end Go.Proofs.YthppkofceancjaaGreat
namespace Go.Proofs.YthppkofceancjaaGreat
open Go.RowKit
def Marks (seen : List Bool) (L : List Int) : Prop := L.Nodup ∧ ∀ y : Int, y ∈ L ↔ ∃ x : Nat, y = (x : Int) ∧ x < seen.length ∧ ga seen x = true
theorem marks_set {seen : List Bool} {L : List Int} {x : Nat} (h : Marks seen L) (hx : x < seen.length) (hf : ga seen x = false) : Marks (seen.set x true) (L ++ [(x : Int)]) := by
  obtain ⟨h1, h2⟩ := h
  refine ⟨?_, fun y => ?_⟩
  · rw [List.nodup_append]
    refine ⟨h1, by simp, ?_⟩
    intro a ha b hb e
    rw [List.mem_singleton] at hb
    subst hb
    subst e
    obtain ⟨x', e, _, h4⟩ := (h2 _).1 ha
    obtain rfl : x = x' := by omega
    rw [hf] at h4
    cases h4
  · rw [List.mem_append, List.mem_singleton, h2]
    constructor
    · rintro (⟨x', e, h3, h4⟩ | rfl)
      · refine ⟨x', e, by rw [List.length_set]; exact h3, ?_⟩
        rw [U1y _ _ _ _ hx]
        split <;> simp [h4]
      · exact ⟨x, rfl, by rw [List.length_set]; exact hx, by rw [U1y _ _ _ _ hx]; simp⟩
    · rintro ⟨x', e, h3, h4⟩
      rw [List.length_set] at h3
      rw [U1y _ _ _ _ hx] at h4
      by_cases hxx : x = x'
      · subst hxx; exact .inr e
      · rw [if_neg hxx] at h4; exact .inl ⟨x', e, h3, h4⟩
theorem ringF_marks {nx : Nat → Nat} (P : List Int) (seen : List Bool) (x : Nat) (acc : List Int) (h : Marks seen (P ++ acc)) :
    Marks (U2z nx seen x acc).1 (P ++ (U2z nx seen x acc).2) ∧ (∀ y, ga seen y = true → ga (U2z nx seen x acc).1 y = true) ∧ (x < seen.length → ga (U2z nx seen x acc).1 x = true) := by
  induction hk : free seen using Nat.strongRecOn generalizing seen x acc with
  | _ k ih =>
    by_cases hx : x < seen.length ∧ ga seen x = false
    · rw [U3u hx.1 hx.2]
      have hf := U2s hx.1 hx.2
      obtain ⟨r1, r2, _⟩ := ih (free (seen.set x true)) (by omega) (seen.set x true) (nx x) (acc ++ [(x : Int)]) (by rw [← List.append_assoc]; exact marks_set h hx.1 hx.2) rfl
      refine ⟨r1, fun y hy => r2 y ?_, fun _ => r2 x ?_⟩
      · rw [U1y _ _ _ _ hx.1]; split <;> simp [hy]
      · rw [U1y _ _ _ _ hx.1]; simp
    · have e : U2z nx seen x acc = (seen, acc) := by rw [U2z]; simp [hx]
      rw [e]
      refine ⟨h, fun y hy => hy, fun hl => ?_⟩
      cases hg : ga seen x
      · exact absurd ⟨hl, hg⟩ hx
      · rfl
def rgC (d : Dg) (c : Nat) : Prop := 2 ≤ c ∧ c < 4 * d.crs.length + 2
def cloC (d : Dg) (P : List Int) : Prop := ∀ y ∈ P, ((nxC d y.toNat : Nat) : Int) ∈ P
theorem nxC_inj {d : Dg} (h : U1b d = true) {c e : Nat} (hc : rgC d c) (he : rgC d e) (heq : nxC d c = nxC d e) : c = e := by
  have h1 := congrArg dA heq
  rw [dA_nxC h hc, dA_nxC h he] at h1
  have o1 := dA_ok hc
  have o2 := dA_ok he
  have key : ∀ x : Da, okD d x → (Ud d x.a x.b) = ((Ud d (leftD d x).a (!(leftD d x).b)).1, ((Ud d (leftD d x).a (!(leftD d x).b)).2 + 1) % 4) := fun x hx => by
    obtain ⟨q1, q2, _⟩ := endD h hx x.b
    have e1 := U46 h (c := (Ud d x.a x.b).1) (k := ((Ud d x.a x.b).2 + 3) % 4) (b := !(leftD d x).b) q1 (Nat.mod_lt _ (by decide)) (by show U1k d _ _ = !!(U1k d _ _); rw [Bool.not_not])
    rw [show (leftD d x).a = U1g d (Ud d x.a x.b).1 (((Ud d x.a x.b).2 + 3) % 4) from rfl, e1]
    exact Prod.ext rfl (by show _ = (((Ud d x.a x.b).2 + 3) % 4 + 1) % 4; omega)
  have k1 := key _ o1
  have k2 := key _ o2
  rw [h1] at k1
  have k3 := k1.trans k2.symm
  have t1 := endOf_there h o1 (dA c).b
  have t2 := endOf_there h o2 (dA e).b
  rw [k3] at t1
  have ea : (dA c).a = (dA e).a := t1.1.symm.trans t2.1
  have eb : (dA c).b = (dA e).b := by
    have := t1.2.symm.trans t2.2
    cases h7 : (dA c).b <;> cases h8 : (dA e).b <;> simp_all
  refine dA_inj ?_
  cases h7 : dA c
  cases h8 : dA e
  rw [h7, h8] at ea eb
  simp only at ea eb
  rw [ea, eb]
theorem onto_of_inj {P : List Int} (f : Int → Int) (hnd : P.Nodup) (hf : ∀ y ∈ P, f y ∈ P) (hinj : ∀ a ∈ P, ∀ b ∈ P, f a = f b → a = b) {x : Int} (hx : x ∈ P) : ∃ z ∈ P, f z = x := by
  refine Classical.byContradiction fun hno => ?_
  have h1 : (P.map f).Nodup := by
    rw [List.nodup_iff_pairwise_ne, List.pairwise_map]
    exact List.Pairwise.imp_of_mem (fun ha hb hab e => hab (hinj _ ha _ hb e)) hnd
  have h2 : x ∉ P.map f := fun h => by
    obtain ⟨z, hz, e⟩ := List.mem_map.1 h
    exact hno ⟨z, hz, e⟩
  have h3 := nodup_le (List.nodup_cons.2 ⟨h2, h1⟩) (ys := P) (fun y hy => by
    rcases List.mem_cons.1 hy with e | hy
    · rw [e]; exact hx
    · obtain ⟨z, hz, e⟩ := List.mem_map.1 hy
      rw [← e]; exact hf z hz)
  rw [List.length_cons, List.length_map] at h3
  omega
theorem ringF_clo {d : Dg} (h : U1b d = true) (P : List Int) (hP : cloC d P) (hPr : ∀ y ∈ P, ∃ c : Nat, y = (c : Int) ∧ rgC d c) (seen : List Bool) (x : Nat) (acc : List Int) (hm : Marks seen (P ++ acc)) (hl : seen.length = 4 * d.crs.length + 2) (hx : rgC d x)
    (hacc : ∀ y ∈ acc, (∃ c : Nat, y = (c : Int) ∧ rgC d c) ∧ (((nxC d y.toNat : Nat) : Int) ∈ acc ∨ nxC d y.toNat = x)) (hlast : acc = [] ∨ ∃ y ∈ acc, nxC d y.toNat = x) :
    cloC d (U2z (nxC d) seen x acc).2 ∧ ∀ y ∈ (U2z (nxC d) seen x acc).2, ∃ c : Nat, y = (c : Int) ∧ rgC d c := by
  induction hk : free seen using Nat.strongRecOn generalizing seen x acc with
  | _ k ih =>
    by_cases hg : x < seen.length ∧ ga seen x = false
    · rw [U3u hg.1 hg.2]
      have hf := U2s hg.1 hg.2
      refine ih (free (seen.set x true)) (by omega) (seen.set x true) (nxC d x) (acc ++ [(x : Int)]) (by rw [← List.append_assoc]; exact marks_set hm hg.1 hg.2) (by rw [List.length_set]; exact hl) (nxC_rng h hx) ?_ (.inr ⟨(x : Int), by simp, rfl⟩) rfl
      intro y hy
      rw [List.mem_append, List.mem_singleton] at hy
      rcases hy with hy | rfl
      · obtain ⟨h1, h2⟩ := hacc y hy
        refine ⟨h1, .inl ?_⟩
        rw [List.mem_append, List.mem_singleton]
        rcases h2 with h2 | h2
        · exact .inl h2
        · exact .inr (by rw [h2])
      · exact ⟨⟨x, rfl, hx⟩, .inr rfl⟩
    · have e : U2z (nxC d) seen x acc = (seen, acc) := by rw [U2z]; simp [hg]
      rw [e]
      refine ⟨?_, fun y hy => (hacc y hy).1⟩
      have hs : ga seen x = true := by
        cases hq : ga seen x with
        | true => rfl
        | false => exact absurd ⟨by rw [hl]; exact hx.2, hq⟩ hg
      have hxm : (x : Int) ∈ P ++ acc := (hm.2 _).2 ⟨x, rfl, by rw [hl]; exact hx.2, hs⟩
      have hxa : (x : Int) ∈ acc ∨ acc = [] := by
        rcases List.mem_append.1 hxm with hp | ha
        · right
          rcases hlast with h0 | ⟨y, hy, hyx⟩
          · exact h0
          · exfalso
            -- an element of P comes before x
            obtain ⟨z, hz, hzx⟩ := onto_of_inj (fun y => ((nxC d y.toNat : Nat) : Int)) (List.nodup_append.1 hm.1).1 hP (fun a ha b hb e9 => by
              obtain ⟨c1, rfl, r1⟩ := hPr a ha
              obtain ⟨c2, rfl, r2⟩ := hPr b hb
              simp only [Int.toNat_natCast] at e9
              rw [nxC_inj h r1 r2 (by omega)]) hp
            obtain ⟨c1, rfl, r1⟩ := hPr z hz
            obtain ⟨⟨c2, rfl, r2⟩, _⟩ := hacc y hy
            simp only [Int.toNat_natCast] at hzx hyx
            have := nxC_inj h r1 r2 (by omega)
            subst this
            exact (List.nodup_append.1 hm.1).2.2 _ hz _ hy rfl
        · exact .inl ha
      intro y hy
      rcases hxa with ha | ha
      · rcases (hacc y hy).2 with h2 | h2
        · exact h2
        · rw [h2]; exact ha
      · have hy' : y ∈ acc := hy
        rw [ha] at hy'
        cases hy'
theorem facesN_marks {d : Dg} (h : U1b d = true) (k : Nat) (hk : k ≤ 4 * d.crs.length) : Marks (U1w d k).1 (U1w d k).2.flatten ∧ (∀ c, 2 ≤ c → c < k + 2 → ga (U1w d k).1 c = true) ∧ (∀ r ∈ (U1w d k).2, cloC d r ∧ ∀ y ∈ r, ∃ c : Nat, y = (c : Int) ∧ rgC d c) := by
  induction k with
  | zero =>
    refine ⟨⟨by simp [U1w], fun y => ?_⟩, fun c h1 h2 => by omega, fun r hr => by simp [U1w] at hr⟩
    simp only [U1w, List.flatten_nil, List.not_mem_nil, List.length_replicate, false_iff]
    rintro ⟨x, _, h1, h2⟩
    rw [ga_rep _ _ _ h1] at h2
    cases h2
  | succ k ih =>
    obtain ⟨i1, i2, i3⟩ := ih (by omega)
    have hlen := U45 d k
    cases hg : ga (U1w d k).1 (k + 2) with
    | true =>
      rw [U2n rfl hg]
      refine ⟨i1, fun c h1 h2 => ?_, i3⟩
      by_cases e : c = k + 2
      · subst e; exact hg
      · exact i2 c h1 (by omega)
    | false =>
      rw [U2o rfl hg rfl]
      dsimp only
      obtain ⟨r1, r2, r3⟩ := ringF_marks (nx := nxC d) (U1w d k).2.flatten (U1w d k).1 (k + 2) [] (by simpa using i1)
      have hc := ringF_clo h (U1w d k).2.flatten (fun y hy => by
          obtain ⟨r, hr, hyr⟩ := List.mem_flatten.1 hy
          exact List.mem_flatten.2 ⟨r, hr, (i3 r hr).1 y hyr⟩) (fun y hy => by
          obtain ⟨r, hr, hyr⟩ := List.mem_flatten.1 hy
          exact (i3 r hr).2 y hyr) (U1w d k).1 (k + 2) [] (by simpa using i1) hlen ⟨by omega, by omega⟩ (fun y hy => by cases hy) (.inl rfl)
      refine ⟨by rw [List.flatten_append]; simpa using r1, fun c h1 h2 => ?_, fun r hr => ?_⟩
      · by_cases e : c = k + 2
        · subst e; exact r3 (by omega)
        · exact r2 c (i2 c h1 (by omega))
      · rcases List.mem_append.1 hr with hr | hr
        · exact i3 r hr
        · rw [List.mem_singleton.1 hr]; exact hc
def fcsC (d : Dg) : List (List Int) := (U1w d (4 * d.crs.length)).2
theorem facesL_C (d : Dg) : U6 d = (fcsC d).map dasL := rfl
end Go.Proofs.YthppkofceancjaaGreat
namespace Go.Proofs.YthppkofceancjaaGreat
open Go.ChangeShapes Go.WideShapes Go.ChangeAt Go.RowKit
def hdC (d : Dg) (x : Da) : Nat := (Ud d x.a x.b).1
theorem hd_tl {d : Dg} (h : U1b d = true) {x : Da} (hx : okD d x) : hdC d x = tlC d (leftD d x) := by
 obtain ⟨q1, q2, _⟩ := endD h hx x.b
 have e1 := U46 h (c := (Ud d x.a x.b).1) (k := ((Ud d x.a x.b).2 + 3) % 4) (b := !(leftD d x).b) q1 (Nat.mod_lt _ (by decide)) (by show U1k d _ _ = !!(U1k d _ _); rw [Bool.not_not])
 unfold hdC tlC
 rw [show (leftD d x).a = U1g d (Ud d x.a x.b).1 (((Ud d x.a x.b).2 + 3) % 4) from rfl, e1]
theorem face_ring {d : Dg} (h : U1b d = true) {x : List Da} (hx : x ∈ U6 d) : ∃ r : List Int, x = dasL r ∧ r.Nodup ∧ cloC d r ∧ ∀ y ∈ r, ∃ c : Nat, y = (c : Int) ∧ rgC d c := by
 rw [facesL_C] at hx
 obtain ⟨r, hr, rfl⟩ := List.mem_map.1 hx
 obtain ⟨i1, _, i3⟩ := facesN_marks h _ (Nat.le_refl _)
 exact ⟨r, rfl, (List.pairwise_flatten.1 i1.1).1 r hr, (i3 r hr).1, (i3 r hr).2⟩
theorem nx_tl {d : Dg} (h : U1b d = true) {c : Nat} (hc : rgC d c) : hdC d (dA c) = tlC d (dA (nxC d c)) := by
 rw [dA_nxC h hc]
 exact hd_tl h (dA_ok hc)
theorem clo_mem {d : Dg} {r : List Int} (h : cloC d r) {c : Nat} (hc : (c : Int) ∈ r) : ((nxC d c : Nat) : Int) ∈ r := by
 have h9 := h _ hc
 rwa [Int.toNat_natCast] at h9
theorem len2 {l : List Int} (h : l.length = 2) : ∃ a b, l = [a, b] := by
 match l, h with
 | [a, b], _ => exact ⟨a, b, rfl⟩
theorem len3 {l : List Int} (h : l.length = 3) : ∃ a b c, l = [a, b, c] := by
 match l, h with
 | [a, b, c], _ => exact ⟨a, b, c, rfl⟩
theorem face2 {d : Dg} (h : U1b d = true) {x : List Da} (hx : x ∈ U6 d) (hl : x.length = 2) : (hdC d (ga x 0) = tlC d (ga x 0) ∧ hdC d (ga x 1) = tlC d (ga x 1)) ∨ (hdC d (ga x 0) = tlC d (ga x 1) ∧ hdC d (ga x 1) = tlC d (ga x 0)) := by
 obtain ⟨r, rfl, hn, hc, hr⟩ := face_ring h hx
 have hl2 : r.length = 2 := by unfold dasL at hl; rwa [List.length_map] at hl
 obtain ⟨y0, y1, rfl⟩ := len2 hl2
 obtain ⟨c0, rfl, h0⟩ := hr y0 (by simp)
 obtain ⟨c1, rfl, h1⟩ := hr y1 (by simp)
 have n0 := clo_mem hc (c := c0) (by simp)
 have n1 := clo_mem hc (c := c1) (by simp)
 have hn' : (c0 : Int) ≠ c1 := by simpa using hn
 have hne : c0 ≠ c1 := fun e => hn' (by rw [e])
 have k01 : nxC d c0 ≠ nxC d c1 := fun e => hne (nxC_inj h h0 h1 e)
 have t0 := nx_tl h h0
 have t1 := nx_tl h h1
 simp only [List.mem_cons, List.not_mem_nil, or_false, Int.ofNat_inj] at n0 n1
 show (hdC d (dA c0) = tlC d (dA c0) ∧ hdC d (dA c1) = tlC d (dA c1)) ∨ (hdC d (dA c0) = tlC d (dA c1) ∧ hdC d (dA c1) = tlC d (dA c0))
 rcases n0 with e0 | e0 <;> rcases n1 with e1 | e1 <;> first | (exfalso; omega) | (rw [e0] at t0; rw [e1] at t1; omega)
theorem face3 {d : Dg} (h : U1b d = true) {x : List Da} (hx : x ∈ U6 d) (hl : x.length = 3) : (tlC d (ga x 0) ≠ tlC d (ga x 1) ∧ tlC d (ga x 0) ≠ tlC d (ga x 2) ∧ tlC d (ga x 1) ≠ tlC d (ga x 2)) ↔ (hdC d (ga x 0) ≠ hdC d (ga x 1) ∧ hdC d (ga x 0) ≠ hdC d (ga x 2) ∧ hdC d (ga x 1) ≠ hdC d (ga x 2)) := by
 obtain ⟨r, rfl, hn, hc, hr⟩ := face_ring h hx
 have hl2 : r.length = 3 := by unfold dasL at hl; rwa [List.length_map] at hl
 obtain ⟨y0, y1, y2, rfl⟩ := len3 hl2
 obtain ⟨c0, rfl, h0⟩ := hr y0 (by simp)
 obtain ⟨c1, rfl, h1⟩ := hr y1 (by simp)
 obtain ⟨c2, rfl, h2⟩ := hr y2 (by simp)
 have n0 := clo_mem hc (c := c0) (by simp)
 have n1 := clo_mem hc (c := c1) (by simp)
 have n2 := clo_mem hc (c := c2) (by simp)
 have hn2 : ((c0 : Int) ≠ c1 ∧ (c0 : Int) ≠ c2) ∧ (c1 : Int) ≠ c2 := by simpa using hn
 obtain ⟨⟨i01, i02⟩, i12⟩ := hn2
 have h01 : c0 ≠ c1 := fun e => i01 (by rw [e])
 have h02 : c0 ≠ c2 := fun e => i02 (by rw [e])
 have h12 : c1 ≠ c2 := fun e => i12 (by rw [e])
 have k01 : nxC d c0 ≠ nxC d c1 := fun e => h01 (nxC_inj h h0 h1 e)
 have k02 : nxC d c0 ≠ nxC d c2 := fun e => h02 (nxC_inj h h0 h2 e)
 have k12 : nxC d c1 ≠ nxC d c2 := fun e => h12 (nxC_inj h h1 h2 e)
 have t0 := nx_tl h h0
 have t1 := nx_tl h h1
 have t2 := nx_tl h h2
 simp only [List.mem_cons, List.not_mem_nil, or_false, Int.ofNat_inj] at n0 n1 n2
 show (tlC d (dA c0) ≠ tlC d (dA c1) ∧ tlC d (dA c0) ≠ tlC d (dA c2) ∧ tlC d (dA c1) ≠ tlC d (dA c2)) ↔ (hdC d (dA c0) ≠ hdC d (dA c1) ∧ hdC d (dA c0) ≠ hdC d (dA c2) ∧ hdC d (dA c1) ≠ hdC d (dA c2))
 rcases n0 with e0 | e0 | e0 <;> rcases n1 with e1 | e1 | e1 <;> rcases n2 with e2 | e2 | e2 <;> first | (exfalso; omega) | (rw [e0] at t0; rw [e1] at t1; rw [e2] at t2; constructor <;> (intro h9; refine ⟨?_, ?_, ?_⟩ <;> omega))
theorem es3 (d : Dg) (f : List Da) : (esN d f 3).length = 3 ↔ (tlC d (ga f 0) ≠ tlC d (ga f 1) ∧ tlC d (ga f 0) ≠ tlC d (ga f 2) ∧ tlC d (ga f 1) ≠ tlC d (ga f 2)) := by
 simp only [esN]
 generalize tlC d (ga f 0) = a
 generalize tlC d (ga f 1) = b
 generalize tlC d (ga f 2) = c
 have e1 : mp (a : Int) true ([] : List (Int × Bool)) = [((a : Int), true)] := rfl
 rw [e1]
 by_cases h1 : b = a
 ·subst h1
  have e2 : mp (b : Int) true [((b : Int), true)] = [((b : Int), true)] := by unfold mp; rw [if_pos rfl]
  rw [e2]
  by_cases h2 : c = b
  ·subst h2
   rw [e2]
   simp
  ·have e3 : mp (c : Int) true [((b : Int), true)] = [((b : Int), true), ((c : Int), true)] := by unfold mp; rw [if_neg (by simp; omega)]; rfl
   rw [e3]
   simp
 ·have e2 : mp (b : Int) true [((a : Int), true)] = [((a : Int), true), ((b : Int), true)] := by unfold mp; rw [if_neg (by simp; omega)]; rfl
  rw [e2]
  by_cases h2 : c = a
  ·subst h2
   have e3 : mp (c : Int) true [((c : Int), true), ((b : Int), true)] = [((c : Int), true), ((b : Int), true)] := by unfold mp; rw [if_pos rfl]
   rw [e3]
   simp
  ·by_cases h3 : c = b
   ·subst h3
    have e3 : mp (c : Int) true [((a : Int), true), ((c : Int), true)] = [((a : Int), true), ((c : Int), true)] := by unfold mp; rw [if_neg (by simp; omega)]; unfold mp; rw [if_pos rfl]
    rw [e3]
    simp
   ·have e3 : mp (c : Int) true [((a : Int), true), ((b : Int), true)] = [((a : Int), true), ((b : Int), true), ((c : Int), true)] := by unfold mp; rw [if_neg (by simp; omega)]; unfold mp; rw [if_neg (by simp; omega)]; rfl
    rw [e3]
    simp only [List.length_cons, List.length_nil, true_iff]
    exact ⟨fun e => h1 e.symm, fun e => h2 e.symm, fun e => h3 e.symm⟩
theorem hgt_le (d : Dg) (a : Int) : hgt d a ≤ 2 := by unfold hgt; omega
theorem hc_sum (d : Dg) (f : List Da) (i : Nat) : hcN d f 0 i + hcN d f 1 i + hcN d f 2 i = i := by
 induction i with
 | zero => rfl
 | succ i ih =>
  unfold hcN
  have := hgt_le d (ga f i).a
  split <;> split <;> split <;> omega
theorem U3a {d : Dg} (h : U1b d = true) {x : List Da} (hx : x ∈ U6 d) (hl : x.length = 3) : U3d d x = decide ((hcN d x 0 3 = 1 ∧ hcN d x 1 3 = 1 ∧ hcN d x 2 3 = 1) ∧ (hdC d (ga x 0) ≠ hdC d (ga x 1) ∧ hdC d (ga x 0) ≠ hdC d (ga x 2) ∧ hdC d (ga x 1) ≠ hdC d (ga x 2))) := by
 unfold U3d
 refine decide_eq_decide.2 ?_
 have hs := hc_sum d x 3
 rw [es3, face3 h hx hl]
 constructor
 ·rintro ⟨_, hD, h2, h0⟩
  exact ⟨⟨h0, by omega, h2⟩, hD⟩
 ·rintro ⟨⟨h0, _, h2⟩, hD⟩
  exact ⟨hl, hD, h2, h0⟩
theorem putS_putS (x : Cr) (k : Nat) (a b : Int) : putS (putS x k a) k b = putS x k b := by
 unfold putS
 split
 ·rfl
 ·split
  ·rfl
  ·split <;> rfl
theorem setCr_setCr {xs : List Cr} {c : Nat} (hc : c < xs.length) (k : Nat) (a b : Int) : U1c (U1c xs c k a) c k b = U1c xs c k b := by
 unfold U1c
 rw [U1y _ _ _ _ hc, if_pos rfl, List.set_set, putS_putS]
theorem setsL_comm {n : Nat} {k : Nat × Nat} (hk : k.1 < n ∧ k.2 < 4) (v : Int) : ∀ (r : List ((Nat × Nat) × Int)) (ys : List Cr), ys.length = n → (∀ q ∈ r.map Prod.fst, (q.1 < n ∧ q.2 < 4) ∧ k ≠ q) → U1c (U3b ys r) k.1 k.2 v = U3b (U1c ys k.1 k.2 v) r
 | [], _, _, _ => rfl
 | p :: r, ys, hy, hr => by
  obtain ⟨h1, h2⟩ := hr p.1 (by simp)
  show U1c (U3b (U1c ys p.1.1 p.1.2 p.2) r) k.1 k.2 v = U3b (U1c (U1c ys k.1 k.2 v) p.1.1 p.1.2 p.2) r
  rw [setsL_comm hk v r _ ((U1o _ _ _ _).trans hy) (fun q hq => hr q (by rw [List.map_cons]; exact List.mem_cons_of_mem _ hq)), setCr_comm hy hk h1 h2]
theorem setsL_mpG {d : Dg} {k : Nat × Nat} (hk : atOk d k) (v : Int) : ∀ (r : List ((Nat × Nat) × Int)) (xs : List Cr), xs.length = d.crs.length → PlE d r → U3b xs (mp k v r) = U1c (U3b xs r) k.1 k.2 v
 | [], _, _, _ => rfl
 | p :: r, xs, hx, hr => by
  obtain ⟨h1, h2⟩ := hr
  rw [List.map_cons, List.nodup_cons] at h1
  have hr2 : PlE d r := ⟨h1.2, fun q hq => h2 q (by rw [List.map_cons]; exact List.mem_cons_of_mem _ hq)⟩
  unfold mp
  by_cases e : k = p.1
  ·rw [if_pos e]
   show U3b (U1c xs k.1 k.2 v) r = U1c (U3b (U1c xs p.1.1 p.1.2 p.2) r) k.1 k.2 v
   rw [setsL_comm (n := d.crs.length) hk v r _ ((U1o _ _ _ _).trans hx) (fun q hq => ⟨hr2.2 q hq, fun e2 => h1.1 (by rw [← e, e2]; exact hq)⟩), ← e, setCr_setCr (by rw [hx]; exact hk.1)]
  ·rw [if_neg e]
   show U3b (U1c xs p.1.1 p.1.2 p.2) (mp k v r) = U1c (U3b (U1c xs p.1.1 p.1.2 p.2) r) k.1 k.2 v
   exact setsL_mpG hk v r _ ((U1o _ _ _ _).trans hx) hr2
theorem setsL_mp {d : Dg} {es : List ((Nat × Nat) × Int)} (h : PlE d es) {k : Nat × Nat} (hk : atOk d k) (v : Int) : U3b d.crs (mp k v es) = U1c (U3b d.crs es) k.1 k.2 v := setsL_mpG hk v es d.crs rfl h
def docN (d : Dg) (f : List Da) : Nat → List Cr
 | 0 => d.crs
 | i + 1 => U1c (U1c (U1c (U1c (docN d f i) (Ud d (ga f i).a false).1 (Ud d (ga f i).a false).2 (U1g d (oppP (Ud d (ga f i).a true)).1 (oppP (Ud d (ga f i).a true)).2)) (oppP (Ud d (ga f i).a false)).1 (oppP (Ud d (ga f i).a false)).2 (ga f i).a) (oppP (Ud d (ga f i).a true)).1 (oppP (Ud d (ga f i).a true)).2 (ga f i).a) (Ud d (ga f i).a true).1 (Ud d (ga f i).a true).2 (U1g d (oppP (Ud d (ga f i).a false)).1 (oppP (Ud d (ga f i).a false)).2)
theorem docN_len (d : Dg) (f : List Da) (i : Nat) : (docN d f i).length = d.crs.length := by
 induction i with
 | zero => rfl
 | succ i ih => unfold docN; rw [U1o, U1o, U1o, U1o]; exact ih
theorem docN_eq {d : Dg} (hab : U1b d = true) {f : List Da} (hf : ∀ x ∈ f, okD d x) : ∀ i, i ≤ f.length → docN d f i = U3b d.crs (nowN d f i) := by
 intro i
 induction i with
 | zero => intro _; rfl
 | succ i ih =>
  intro hi
  have hx := hf _ (U2m (show i < f.length by omega))
  have h1 := endOf_ok hab hx true
  have h2 := endOf_ok hab hx false
  have p0 := nowN_ok hab hf i (by omega)
  unfold docN nowN
  rw [ih (by omega), setsL_mp (((p0.put h2 _).put (U3o h2) _).put (U3o h1) _) h1, setsL_mp ((p0.put h2 _).put (U3o h2) _) (U3o h1), setsL_mp (p0.put h2 _) (U3o h2), setsL_mp p0 h2]
theorem nth_fn3 {e : Nat} (f : Nat → Value) (h : e < 3) : nth [f 0, f 1, f 2] (0 + e * 1) = some (f e) := by
 have : e = 0 ∨ e = 1 ∨ e = 2 := by omega
 rcases this with rfl | rfl | rfl <;> rfl
theorem ble_fn3 {e : Nat} (f : Nat → Value) (v : Value) (h : e < 3) : Nat.ble (0 + e * 1 + [v].length) [f 0, f 1, f 2].length = true := by
 have : e = 0 ∨ e = 1 ∨ e = 2 := by omega
 rcases this with rfl | rfl | rfl <;> rfl
theorem spl_i3 {e : Nat} (h : Nat → Int) (v : Int) (he : e < 3) : spl [Value.int .i64 (h 0), Value.int .i64 (h 1), Value.int .i64 (h 2)] (0 + e * 1) [Value.int .i64 v] = [Value.int .i64 (upd h e v 0), Value.int .i64 (upd h e v 1), Value.int .i64 (upd h e v 2)] := by
 have : e = 0 ∨ e = 1 ∨ e = 2 := by omega
 rcases this with rfl | rfl | rfl <;> rfl
end Go.Proofs.YthppkofceancjaaGreat
