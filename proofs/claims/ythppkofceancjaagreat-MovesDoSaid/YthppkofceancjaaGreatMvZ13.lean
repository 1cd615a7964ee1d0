/- Part 13 of the proof of the law MovesDo: the walks through its functions and the plain laws that they need. -/
import Derived.Test.YthppkofceancjaaGreatMvZ12
set_option linter.unusedSimpArgs false
set_option linter.unusedVariables false
noncomputable section
namespace Go.Proofs.YthppkofceancjaaGreat
open Go.ChangeShapes Go.WideShapes Go.ChangeAt Go.RowKit
def hdN (d : Dg) (f : List Da) : Nat → List Int
 | 0 => []
 | i + 1 => hdN d f i ++ [(hdC d (ga f i) : Int)]
theorem hdN_len (d : Dg) (f : List Da) (i : Nat) : (hdN d f i).length = i := by
 induction i with
 | zero => rfl
 | succ i ih => unfold hdN; rw [List.length_append, ih]; rfl
noncomputable def Z1eb:=Tryz.f38.body.getD .skip
def Z1ec := cL Z1eb
def Z1ed := cR Z1eb
def Z1ee := cL Z1ed
def Z1ef := cR Z1ed
def Z1eg := cL Z1ef
def Z1eh := cR Z1ef
def Z1ei := cL Z1eg
def Z1ej := cR Z1eg
def Z1ek := cL Z1ej
def Z1el := cL Z1ek
def Z1em := cL Z1el
def Z1en := cR Z1el
def Z1eo := cL Z1em
def Z1ep := cR Z1em
def Z1eq := cL Z1ep
def Z1er := cR Z1ep
def Z1es := cL Z1en
def Z1et := cR Z1en
def Z1eu := cL Z1es
def Z1ev := cL Z1eu
def Z1ew := cR Z1eu
def Z1ex := cL Z1ev
def Z1ey := cR Z1ev
def Z1ez := cL Z1ey
def Z1f0 := cR Z1ey
def Z1f1 := cL Z1ew
def Z1f2 := cR Z1ew
def Z1f3 := cL Z1f2
def Z1f4 := cR Z1f2
def Z1f5 := cL Z1f4
def Z1f6 := cR Z1f4
def Z1f7 := cL Z1f6
def Z1f8 := cR Z1f6
def Z1f9 := cL Z1f8
def Z1fa := cR Z1f8
def Z1fb := cL Z1f9
def Z1fc := cR Z1f9
def Z1fd := cL Z1eh
def Z1fe := cR Z1eh
set_option maxHeartbeats 2000000 in
set_option maxRecDepth 10000 in
theorem pullable_t {w : World} {M : Hp} {X : Fr} (d : Dg) {dcrsA : Option Addr} {dcrsc : Nat} (i : Int) (j : Int) (hdcrs : RdA cdCr (M.un X.h) dcrsA dcrsc d.crs) (hn : d.crs.length ≤ 16) (hab : U1b d = true) (S : SH w M X []) : Ct Tryz.prog 38 [.agg [.slice dcrsA d.crs.length dcrsc, .int .i64 d.loops].toArray, .int .i64 i, .int .i64 j] w M X (fun x _ => x = .bool ((U6 d).any (pulP d i j))) := by
 unfold Ct
 have rmhdcrs : d.crs.length * 40 ≤ 140737488355328 := hdcrs.room
 refine Uo (b := Z1eb) Tryz.func38 rfl Tryz.ntmps38 rfl (fun C hC => (U14 [(0, _), (1, _), (2, _)] ⟨rfl, rfl, rfl, trivial⟩ (U2 Z1ec Z1ed rfl rfl rfl (U1 rfl (wlo 0 1 rfl rfl rfl (U18 (l := [_, _]) rfl rfl rfl rfl rfl S ?_))))))
 intro gb1 w1 S1; clear S
 refine mvs 1 1 rfl rfl (U5 rfl (nmk [1, 2, 3] rfl (U4 (U2 Z1ee Z1ef rfl rfl rfl (U1 rfl (wlr 0 rfl (U8 (us := [_, _]) rfl rfl uT24 rfl sz24 (S1.boxcs (i := 0) rfl ⟨rfl, rfl, trivial⟩)) (wlo 1 2 rfl rfl rfl (U2w rfl rfl rfl rfl rfl rfl rfl cf74 S1 (FacesOf_t d (hdcrs.mono S1.Uw) (hn) (hab) S1.lend) ?_))))))))
 intro vw2 w2 M1 hle1 S2 hRw2; clear S1
 replace hdcrs := hdcrs.mono (Hp.Ua hle1 S2.mx)
 obtain ⟨A1, c1, vs1, rfl, hr1, hd1⟩ := hRw2
 have hflA1 := hd1.1
 refine mvs 2 1 rfl rfl (U5 rfl (nmk [1, 2, 3, 7] rfl (U4 (U2 Z1eg Z1eh rfl rfl rfl (U2 Z1ei Z1ej rfl rfl rfl (U1 rfl (mvs 0 1 rfl rfl (U5 rfl ?_))))))))
 refine U4 (Uc Z1ek 0 rfl rfl rfl ?_)
 refine U11 (fun mx_ ax_ wx_ => ∃ (k : Nat), mx_ = (U6 d).length - k ∧ Env 97 [(1, .int .i64 i), (2, .int .i64 j), (3, .pointer (some ⟨gb1, 0, none⟩)), (7, .slice A1 vs1.length c1), (8, .int .i64 (k : Int))] ax_ ∧ SH wx_ M1 X [Rs.box gb1 24 [.slice dcrsA d.crs.length dcrsc, .int .i64 d.loops]] ∧ k ≤ (U6 d).length ∧ (∀ q, q < k → pulP d i j (ga (U6 d) q) = false)) rfl ?_ ?_
 ·intro ax_ hax_
  refine ⟨_, ⟨0, rfl, hax_.sub ⟨rfl, rfl, rfl, rfl, rfl, trivial⟩, S2.pick [0] [_] (by decide) ⟨rfl, trivial⟩, ?hq1f0, ?hq1f1⟩⟩
  case hq1f0 => omega
  case hq1f1 => (intro q hq; omega)
 ·rintro m1 a1 w3 ⟨k, rfl, he1, S3, hk, hno⟩
  clear S2
  refine U1u he1 (c := Z1el) rfl ?_
  clear he1 a1
  have hrmF := facesL_many d
  refine U2 Z1em Z1en rfl rfl rfl (U2 Z1eo Z1ep rfl rfl rfl (U1 rfl (mvs 0 2 rfl rfl (wlr 2 rfl (U1f rfl rfl rfl rfl rfl rfl uT65) (wlr 3 rfl (U17 rfl rfl rfl) (U5 rfl (nmk [1, 2, 3, 7, 8, 20] rfl (U4 ?_))))))))
  refine Ue Z1eq Z1er rfl rfl rfl rfl (fun hb20 => ?_) (fun hb20 => ?_)
  ·refine Uf rfl (nmk [1, 2, 3, 7, 8] rfl (U4 (U2 Z1es Z1et rfl rfl rfl (Uc Z1eu 1 rfl rfl rfl (U2 Z1ev Z1ew rfl rfl rfl (U2 Z1ex Z1ey rfl rfl rfl (U1 rfl (mvs 0 2 rfl rfl ?_))))))))
   refine wlr 2 rfl (Uj (C := (cdV 141)) k rfl rfl rfl sl65 (by first | rfl | omega) hr1 (by first | omega | (simp only [ls]; omega))) ?_
   obtain ⟨hn1, hr2⟩ := hd1.2 k (by first | omega | (simp only [ls]; omega))
   have rmhr2 : (ga (U6 d) k).length * 16 ≤ 140737488355328 := hr2.room
   refine wlr 3 rfl (U3 rfl rfl uT141 rfl (hr1.cell S3.m (i := k) (by first | omega | (simp only [ls]; omega)) 0 rfl (congrArg (fun n => some (Value.slice _ n _)) hn1))) ?_
   refine wlr 4 rfl (U1f rfl rfl rfl rfl rfl rfl uT141) (wlr 5 rfl (U2k rfl rfl rfl) (U5 rfl (nmk [1, 2, 3, 7, 8, 28] rfl (U4 ?_))))
   refine Ue Z1ez Z1f0 rfl rfl rfl rfl (fun hb28 => ?_) (fun hb28 => ?_)
   ·refine U16 rfl rfl (nmk [1, 2, 3, 7, 8] rfl (U4 (U1 rfl (mvs 0 1 rfl rfl (wlr 1 rfl (Ug rfl rfl rfl (by first | omega | (simp only [ls]; omega))) ?_)))))
    refine mvs 2 1 rfl rfl (U5 rfl (U15 ?_))
    have hF : pulP d i j (ga (U6 d) k) = false := by unfold pulP; rw [decide_eq_false_iff_not]; omega
    intro ax_ hax_
    refine ⟨_, ?hq2m, ⟨k + 1, rfl, hax_.sub ⟨rfl, rfl, rfl, rfl, rfl, trivial⟩, S3.pick [0] [_] (by decide) ⟨rfl, trivial⟩, ?hq2f0, ?hq2f1⟩⟩
    case hq2f0 => omega
    case hq2f1 => (intro q hq; by_cases e : q = k; (subst e; exact hF); exact hno q (by omega))
    case hq2m => omega
   ·have hxm : (ga (U6 d) k) ∈ U6 d := U2m (by omega)
    have hxo := faces_ok hab hxm
    have ho0 : okD d (ga (ga (U6 d) k) 0) := hxo _ (U2m (by omega))
    have ho1 : okD d (ga (ga (U6 d) k) 1) := hxo _ (U2m (by omega))
    have hp0 : 1 ≤ (ga (ga (U6 d) k) 0).a ∧ (ga (ga (U6 d) k) 0).a ≤ 2 * (d.crs.length : Int) := ho0
    have hp1 : 1 ≤ (ga (ga (U6 d) k) 1).a ∧ (ga (ga (U6 d) k) 1).a ≤ 2 * (d.crs.length : Int) := ho1
    have hf2 := face2 hab hxm (by omega)
    unfold hdC at hf2
    refine Uf rfl (nmk [1, 2, 3, 7, 8] rfl (U4 (U2 Z1f1 Z1f2 rfl rfl rfl ?_)))
    refine ws_cut (fun ax_ wx_ => ∃ (gbx : Nat) (gby : Nat), Env 97 [(1, .int .i64 i), (2, .int .i64 j), (3, .pointer (some ⟨gb1, 0, none⟩)), (7, .slice A1 vs1.length c1), (8, .int .i64 (k : Int)), (9, .pointer (some ⟨gbx, 0, none⟩)), (10, .pointer (some ⟨gby, 0, none⟩))] ax_ ∧ SH wx_ M1 X [Rs.box gbx 26 [.int .i64 ((ga (ga (U6 d) k) 0).a), .bool ((ga (ga (U6 d) k) 0).b)], Rs.box gby 26 [.int .i64 ((ga (ga (U6 d) k) 1).a), .bool ((ga (ga (U6 d) k) 1).b)], Rs.box gb1 24 [.slice dcrsA d.crs.length dcrsc, .int .i64 d.loops]]) ?_ ?_
    ·refine Ux rfl (by kernel_rfl) S3 16 rfl ?_
     clear S3
     refine wap 0 15 rfl (by kernel_rfl) (fun _ => run_move rfl rfl) ?_
     refine wap 1 14 rfl (by kernel_rfl) (fun _ => run_move rfl rfl) ?_
     refine wat 2 13 rfl (by kernel_rfl) (fun _ _ _ hz Sz => .inl (Uj (C := (cdV 141)) k rfl rfl rfl sl65 (by first | rfl | omega) (hr1.mono hz) (by first | omega | (simp only [ls]; omega)))) ?_
     obtain ⟨hn2, hr3⟩ := hd1.2 k (by first | omega | (simp only [ls]; omega))
     have rmhr3 : (ga (U6 d) k).length * 16 ≤ 140737488355328 := hr3.room
     refine wat 3 12 rfl (by kernel_rfl) (fun _ _ _ hz Sz => .inl (U3 rfl rfl uT141 rfl ((hr1.mono hz).cell Sz.m (i := k) (by first | omega | (simp only [ls]; omega)) 0 rfl (congrArg (fun n => some (Value.slice _ n _)) hn2)))) ?_
     refine wat 4 11 rfl (by kernel_rfl) (fun _ _ _ hz Sz => .inl (Uj (C := cdDa) 0 rfl rfl rfl sl141 (by first | rfl | omega) (hr3.mono hz) (by first | omega | (simp only [ls]; omega)))) ?_
     refine wat 5 10 rfl (by kernel_rfl) (fun _ _ _ hz Sz => .inl (U8 (us := [_, _]) rfl rfl uT26 rfl sz26 ((hr3.mono hz).U1x Sz.m (e := 0) (by first | omega | (simp only [ls]; omega)) (j := 0) ⟨rfl, rfl, trivial⟩))) ?_
     refine wap 6 9 rfl (by kernel_rfl) (fun _ => run_move rfl rfl) ?_
     refine wap 7 8 rfl (by kernel_rfl) (fun _ => run_move rfl rfl) ?_
     refine wat 8 7 rfl (by kernel_rfl) (fun _ _ _ hz Sz => .inl (Uj (C := (cdV 141)) k rfl rfl rfl sl65 (by first | rfl | omega) (hr1.mono hz) (by first | omega | (simp only [ls]; omega)))) ?_
     obtain ⟨hn3, hr4⟩ := hd1.2 k (by first | omega | (simp only [ls]; omega))
     have rmhr4 : (ga (U6 d) k).length * 16 ≤ 140737488355328 := hr4.room
     refine wat 9 6 rfl (by kernel_rfl) (fun _ _ _ hz Sz => .inl (U3 rfl rfl uT141 rfl ((hr1.mono hz).cell Sz.m (i := k) (by first | omega | (simp only [ls]; omega)) 0 rfl (congrArg (fun n => some (Value.slice _ n _)) hn3)))) ?_
     refine wat 10 5 rfl (by kernel_rfl) (fun _ _ _ hz Sz => .inl (Uj (C := cdDa) 1 rfl rfl rfl sl141 (by first | rfl | omega) (hr4.mono hz) (by first | omega | (simp only [ls]; omega)))) ?_
     refine wat 11 4 rfl (by kernel_rfl) (fun _ _ _ hz Sz => .inl (U8 (us := [_, _]) rfl rfl uT26 rfl sz26 ((hr4.mono hz).U1x Sz.m (e := 1) (by first | omega | (simp only [ls]; omega)) (j := 0) ⟨rfl, rfl, trivial⟩))) ?_
     refine wa_two (i := 12) (j := 13) 3 rfl rfl (by kernel_rfl) rfl rfl rfl rfl (fun w19 S19 => ?_) (fun w19 S19 => ?_)
     ·refine (Uh (l := [_, _]) rfl rfl rfl zr26 rfl S19 ?_)
      intro gb2 w20 S20; clear S19
      refine U10.grow [_] (Hp.le_refl _) S20 ?_; clear S20
      change WA _ _ _ _ _ _ _ _ _ _ _ _ [_, _]
      refine Um (i := 13) 2 rfl (by kernel_rfl) rfl rfl (fun w22 S22 => ?_)
      refine (Uh (l := [_, _]) rfl rfl rfl zr26 rfl S22 ?_)
      intro gb3 w23 S23; clear S22
      refine U10.grow [_, _] (Hp.le_refl _) S23 ?_; clear S23
      change WA _ _ _ _ _ _ _ _ _ _ _ _ [_, _, _]
      refine Um (i := 14) 1 rfl (by kernel_rfl) rfl rfl (fun w25 S25 => ?_)
      refine (U7 (i := 1) (us := [_, _]) (l' := [_, _]) (H' := [_, _, _]) rfl rfl S25 rfl rfl rfl rfl sz26 rfl rfl rfl rfl ?_)
      intro w26 S26; clear S25
      refine U10.grow [_, _] (Hp.le_refl _) S26 ?_; clear S26
      change WA _ _ _ _ _ _ _ _ _ _ _ _ [_, _, _]
      refine Um (i := 15) 0 rfl (by kernel_rfl) rfl rfl (fun w28 S28 => ?_)
      refine (U7 (i := 0) (us := [_, _]) (l' := [_, _]) (H' := [_, _, _]) rfl rfl S28 rfl rfl rfl rfl sz26 rfl rfl rfl rfl ?_)
      intro w29 S29; clear S28
      refine U10.grow [_, _] (Hp.le_refl _) S29 ?_; clear S29
      change WA _ _ _ _ _ _ _ _ _ _ _ _ [_, _, _]
      refine Uu (by kernel_rfl) (fun w30 S30 => ?_)
      refine U15 ?_
      intro ax_ hax_
      refine ⟨_, _, hax_.sub ⟨rfl, rfl, rfl, rfl, rfl, rfl, rfl, trivial⟩, S30.pick [1, 0, 2] [_, _, _] (by decide) ⟨rfl, rfl, rfl, trivial⟩⟩
     ·refine (Uh (l := [_, _]) rfl rfl rfl zr26 rfl S19 ?_)
      intro gb4 w31 S31; clear S19
      refine U10.grow [_] (Hp.le_refl _) S31 ?_; clear S31
      change WA _ _ _ _ _ _ _ _ _ _ _ _ [_, _]
      refine Um (i := 12) 2 rfl (by kernel_rfl) rfl rfl (fun w33 S33 => ?_)
      refine (Uh (l := [_, _]) rfl rfl rfl zr26 rfl S33 ?_)
      intro gb5 w34 S34; clear S33
      refine U10.grow [_, _] (Hp.le_refl _) S34 ?_; clear S34
      change WA _ _ _ _ _ _ _ _ _ _ _ _ [_, _, _]
      refine Um (i := 14) 1 rfl (by kernel_rfl) rfl rfl (fun w36 S36 => ?_)
      refine (U7 (i := 0) (us := [_, _]) (l' := [_, _]) (H' := [_, _, _]) rfl rfl S36 rfl rfl rfl rfl sz26 rfl rfl rfl rfl ?_)
      intro w37 S37; clear S36
      refine U10.grow [_, _] (Hp.le_refl _) S37 ?_; clear S37
      change WA _ _ _ _ _ _ _ _ _ _ _ _ [_, _, _]
      refine Um (i := 15) 0 rfl (by kernel_rfl) rfl rfl (fun w39 S39 => ?_)
      refine (U7 (i := 1) (us := [_, _]) (l' := [_, _]) (H' := [_, _, _]) rfl rfl S39 rfl rfl rfl rfl sz26 rfl rfl rfl rfl ?_)
      intro w40 S40; clear S39
      refine U10.grow [_, _] (Hp.le_refl _) S40 ?_; clear S40
      change WA _ _ _ _ _ _ _ _ _ _ _ _ [_, _, _]
      refine Uu (by kernel_rfl) (fun w41 S41 => ?_)
      refine U15 ?_
      intro ax_ hax_
      refine ⟨_, _, hax_.sub ⟨rfl, rfl, rfl, rfl, rfl, rfl, rfl, trivial⟩, S41.pick [0, 1, 2] [_, _, _] (by decide) ⟨rfl, rfl, rfl, trivial⟩⟩
    ·rintro a2 w4 ⟨gbx, gby, he2, S4⟩
     clear S3
     refine nm_in he2 ?_
     clear he2 a2
     refine U4 (U2 Z1f3 Z1f4 rfl rfl rfl (Ux rfl (by kernel_rfl) S4 16 rfl ?_))
     clear S4
     refine wat 0 15 rfl (by kernel_rfl) (fun _ _ _ hz Sz => .inl (U8 (us := [_, _]) rfl rfl uT24 rfl sz24 (Sz.suf.boxcs (i := 2) rfl ⟨rfl, rfl, trivial⟩))) ?_
     refine wap 1 14 rfl (by kernel_rfl) (fun _ => U0 rfl rfl uT26 rfl (ce3) (nf3)) ?_
     refine wat 2 13 rfl (by kernel_rfl) (fun _ _ _ hz Sz => .inl (U3 rfl rfl uT3 rfl (Sz.suf.boxc (i := 0) rfl rfl))) ?_
     refine wap 3 12 rfl (by kernel_rfl) (fun _ => U0 rfl rfl uT26 rfl (ce4) (nf4)) ?_
     refine wat 4 11 rfl (by kernel_rfl) (fun _ _ _ hz Sz => .inl (U3 rfl rfl uT4 rfl (Sz.suf.boxc (i := 0) rfl rfl))) ?_
     refine wat 5 10 rfl (by kernel_rfl) (fun _ _ _ hz Sz => Uq rfl rfl rfl rfl rfl cf60 Sz (U33 d ((ga (ga (U6 d) k) 0).a) ((ga (ga (U6 d) k) 0).b) ((hdcrs.mono (Hp.Ua hz Sz.mx)).mono Sz.Uw) Sz.lend)) ?_
     refine wap 6 9 rfl (by kernel_rfl) (fun _ => U23 rfl rfl uT120 rfl uT3 rfl rfl) ?_
     refine wat 7 8 rfl (by kernel_rfl) (fun _ _ _ hz Sz => .inl (U8 (us := [_, _]) rfl rfl uT24 rfl sz24 (Sz.suf.boxcs (i := 2) rfl ⟨rfl, rfl, trivial⟩))) ?_
     refine wap 8 7 rfl (by kernel_rfl) (fun _ => U0 rfl rfl uT26 rfl (ce3) (nf3)) ?_
     refine wat 9 6 rfl (by kernel_rfl) (fun _ _ _ hz Sz => .inl (U3 rfl rfl uT3 rfl (Sz.suf.boxc (i := 1) rfl rfl))) ?_
     refine wap 10 5 rfl (by kernel_rfl) (fun _ => U0 rfl rfl uT26 rfl (ce4) (nf4)) ?_
     refine wat 11 4 rfl (by kernel_rfl) (fun _ _ _ hz Sz => .inl (U3 rfl rfl uT4 rfl (Sz.suf.boxc (i := 1) rfl rfl))) ?_
     refine wat 12 3 rfl (by kernel_rfl) (fun _ _ _ hz Sz => Uq rfl rfl rfl rfl rfl cf60 Sz (U33 d ((ga (ga (U6 d) k) 1).a) ((ga (ga (U6 d) k) 1).b) ((hdcrs.mono (Hp.Ua hz Sz.mx)).mono Sz.Uw) Sz.lend)) ?_
     refine wap 13 2 rfl (by kernel_rfl) (fun _ => U23 rfl rfl uT120 rfl uT3 rfl rfl) ?_
     refine wap 14 1 rfl (by kernel_rfl) (fun _ => run_assign rfl rfl) ?_
     refine wap 15 0 rfl (by kernel_rfl) (fun _ => run_assign rfl rfl) ?_
     refine Uu (by kernel_rfl) (fun w58 S58 => ?_)
     refine nmk [1, 2, 3, 7, 8, 9, 10, 11, 12] rfl (U4 (U2 Z1f5 Z1f6 rfl rfl rfl (Ux rfl (by kernel_rfl) S58 10 rfl ?_)))
     clear S58
     refine wat 0 9 rfl (by kernel_rfl) (fun _ _ _ hz Sz => .inl (U8 (us := [_, _]) rfl rfl uT24 rfl sz24 (Sz.suf.boxcs (i := 2) rfl ⟨rfl, rfl, trivial⟩))) ?_
     refine wap 1 8 rfl (by kernel_rfl) (fun _ => U0 rfl rfl uT26 rfl (ce3) (nf3)) ?_
     refine wat 2 7 rfl (by kernel_rfl) (fun _ _ _ hz Sz => .inl (U3 rfl rfl uT3 rfl (Sz.suf.boxc (i := 0) rfl rfl))) ?_
     refine wat 3 6 rfl (by kernel_rfl) (fun _ _ _ hz Sz => Uq rfl rfl rfl rfl rfl cf81 Sz (heightOf_q d ((ga (ga (U6 d) k) 0).a) ((hdcrs.mono (Hp.Ua hz Sz.mx)).mono Sz.Uw) (hab) (by first | assumption | omega) Sz.lend)) ?_
     refine wat 4 5 rfl (by kernel_rfl) (fun _ _ _ hz Sz => .inl (U8 (us := [_, _]) rfl rfl uT24 rfl sz24 (Sz.suf.boxcs (i := 2) rfl ⟨rfl, rfl, trivial⟩))) ?_
     refine wap 5 4 rfl (by kernel_rfl) (fun _ => U0 rfl rfl uT26 rfl (ce3) (nf3)) ?_
     refine wat 6 3 rfl (by kernel_rfl) (fun _ _ _ hz Sz => .inl (U3 rfl rfl uT3 rfl (Sz.suf.boxc (i := 1) rfl rfl))) ?_
     refine wat 7 2 rfl (by kernel_rfl) (fun _ _ _ hz Sz => Uq rfl rfl rfl rfl rfl cf81 Sz (heightOf_q d ((ga (ga (U6 d) k) 1).a) ((hdcrs.mono (Hp.Ua hz Sz.mx)).mono Sz.Uw) (hab) (by first | assumption | omega) Sz.lend)) ?_
     refine wap 8 1 rfl (by kernel_rfl) (fun _ => run_assign rfl rfl) ?_
     refine wap 9 0 rfl (by kernel_rfl) (fun _ => run_assign rfl rfl) ?_
     refine Uu (by kernel_rfl) (fun w69 S69 => ?_)
     refine nmk [1, 2, 3, 7, 8, 11, 12, 13, 14] rfl (U4 (U2 Z1f7 Z1f8 rfl rfl rfl (U1 rfl (mvs 0 2 rfl rfl (wlr 2 rfl (Uz rfl rfl rfl) (mvs 3 1 rfl rfl ?_))))))
     refine U27 (k' := 8) (d := 70) (decide ((((Ud d ((ga (ga (U6 d) k) 0).a) ((ga (ga (U6 d) k) 0).b)).1 : Int) = i) ∧ (((Ud d ((ga (ga (U6 d) k) 1).a) ((ga (ga (U6 d) k) 1).b)).1 : Int) = j))) [(1, _), (2, _), (3, _), (7, _), (8, _), (11, _), (12, _), (13, _), (14, _)] ⟨rfl, rfl, rfl, rfl, rfl, rfl, rfl, rfl, rfl, trivial⟩ (fun hJ70 => ?_) ?_
     ·refine Ut (t := 66) rfl (fun hg66 => ?_) (fun hg66 => ?_)
      ·refine mvs 4 2 rfl rfl (wlg 6 7 rfl rfl rfl rfl rfl rfl rfl rfl (Ub rfl rfl (Uz rfl rfl rfl) (mvs 7 1 rfl rfl ?_)))
       exact U1t 70 (.bool (decide ((((Ud d ((ga (ga (U6 d) k) 0).a) ((ga (ga (U6 d) k) 0).b)).1 : Int) = i) ∧ (((Ud d ((ga (ga (U6 d) k) 1).a) ((ga (ga (U6 d) k) 1).b)).1 : Int) = j)))) rfl (congrArg Value.bool (decide_eq_decide.2 ⟨fun h => ⟨hg66, h⟩, fun h => h.2⟩)) (U22 [(70, _), (1, _), (2, _), (3, _), (7, _), (8, _), (11, _), (12, _), (13, _), (14, _)] ⟨rfl, rfl, rfl, rfl, rfl, rfl, rfl, rfl, rfl, rfl, trivial⟩ hJ70)
      ·refine mvs 4 4 rfl rfl ?_
       exact U1t 70 (.bool (decide ((((Ud d ((ga (ga (U6 d) k) 0).a) ((ga (ga (U6 d) k) 0).b)).1 : Int) = i) ∧ (((Ud d ((ga (ga (U6 d) k) 1).a) ((ga (ga (U6 d) k) 1).b)).1 : Int) = j)))) rfl (congrArg Value.bool (decide_eq_false (fun h => hg66 h.1)).symm) (U22 [(70, _), (1, _), (2, _), (3, _), (7, _), (8, _), (11, _), (12, _), (13, _), (14, _)] ⟨rfl, rfl, rfl, rfl, rfl, rfl, rfl, rfl, rfl, rfl, trivial⟩ hJ70)
     ·refine mvs 8 1 rfl rfl ?_
      refine U27 (k' := 18) (d := 80) (decide (((((Ud d ((ga (ga (U6 d) k) 0).a) ((ga (ga (U6 d) k) 0).b)).1 : Int) = i) ∧ (((Ud d ((ga (ga (U6 d) k) 1).a) ((ga (ga (U6 d) k) 1).b)).1 : Int) = j)) ∨ ((((Ud d ((ga (ga (U6 d) k) 0).a) ((ga (ga (U6 d) k) 0).b)).1 : Int) = j) ∧ (((Ud d ((ga (ga (U6 d) k) 1).a) ((ga (ga (U6 d) k) 1).b)).1 : Int) = i)))) [(1, _), (2, _), (3, _), (7, _), (8, _), (11, _), (12, _), (13, _), (14, _)] ⟨rfl, rfl, rfl, rfl, rfl, rfl, rfl, rfl, rfl, trivial⟩ (fun hJ80 => ?_) ?_
      ·refine Ut (t := 71) rfl (fun hg71 => ?_) (fun hg71 => ?_)
       ·refine mvs 9 6 rfl rfl (mvs 15 3 rfl rfl ?_)
        exact U1t 80 (.bool (decide (((((Ud d ((ga (ga (U6 d) k) 0).a) ((ga (ga (U6 d) k) 0).b)).1 : Int) = i) ∧ (((Ud d ((ga (ga (U6 d) k) 1).a) ((ga (ga (U6 d) k) 1).b)).1 : Int) = j)) ∨ ((((Ud d ((ga (ga (U6 d) k) 0).a) ((ga (ga (U6 d) k) 0).b)).1 : Int) = j) ∧ (((Ud d ((ga (ga (U6 d) k) 1).a) ((ga (ga (U6 d) k) 1).b)).1 : Int) = i))))) rfl (congrArg Value.bool (decide_eq_true (.inl hg71)).symm) (U22 [(80, _), (1, _), (2, _), (3, _), (7, _), (8, _), (11, _), (12, _), (13, _), (14, _)] ⟨rfl, rfl, rfl, rfl, rfl, rfl, rfl, rfl, rfl, rfl, trivial⟩ hJ80)
       ·refine mvs 9 2 rfl rfl (wlg 11 12 rfl rfl rfl rfl rfl rfl rfl rfl (Ub rfl rfl (Uz rfl rfl rfl) (mvs 12 1 rfl rfl ?_)))
        refine U27 (k' := 17) (d := 79) (decide ((((Ud d ((ga (ga (U6 d) k) 0).a) ((ga (ga (U6 d) k) 0).b)).1 : Int) = j) ∧ (((Ud d ((ga (ga (U6 d) k) 1).a) ((ga (ga (U6 d) k) 1).b)).1 : Int) = i))) [(1, _), (2, _), (3, _), (7, _), (8, _), (11, _), (12, _), (13, _), (14, _), (71, _)] ⟨rfl, rfl, rfl, rfl, rfl, rfl, rfl, rfl, rfl, rfl, trivial⟩ (fun hJ79 => ?_) ?_
        ·refine Ut (t := 75) rfl (fun hg75 => ?_) (fun hg75 => ?_)
         ·refine mvs 13 2 rfl rfl (wlg 15 16 rfl rfl rfl rfl rfl rfl rfl rfl (Ub rfl rfl (Uz rfl rfl rfl) (mvs 16 1 rfl rfl ?_)))
          exact U1t 79 (.bool (decide ((((Ud d ((ga (ga (U6 d) k) 0).a) ((ga (ga (U6 d) k) 0).b)).1 : Int) = j) ∧ (((Ud d ((ga (ga (U6 d) k) 1).a) ((ga (ga (U6 d) k) 1).b)).1 : Int) = i)))) rfl (congrArg Value.bool (decide_eq_decide.2 ⟨fun h => ⟨hg75, h⟩, fun h => h.2⟩)) (U22 [(79, _), (1, _), (2, _), (3, _), (7, _), (8, _), (11, _), (12, _), (13, _), (14, _), (71, _)] ⟨rfl, rfl, rfl, rfl, rfl, rfl, rfl, rfl, rfl, rfl, rfl, trivial⟩ hJ79)
         ·refine mvs 13 4 rfl rfl ?_
          exact U1t 79 (.bool (decide ((((Ud d ((ga (ga (U6 d) k) 0).a) ((ga (ga (U6 d) k) 0).b)).1 : Int) = j) ∧ (((Ud d ((ga (ga (U6 d) k) 1).a) ((ga (ga (U6 d) k) 1).b)).1 : Int) = i)))) rfl (congrArg Value.bool (decide_eq_false (fun h => hg75 h.1)).symm) (U22 [(79, _), (1, _), (2, _), (3, _), (7, _), (8, _), (11, _), (12, _), (13, _), (14, _), (71, _)] ⟨rfl, rfl, rfl, rfl, rfl, rfl, rfl, rfl, rfl, rfl, rfl, trivial⟩ hJ79)
        ·refine mvs 17 1 rfl rfl ?_
         exact U1t 80 (.bool (decide (((((Ud d ((ga (ga (U6 d) k) 0).a) ((ga (ga (U6 d) k) 0).b)).1 : Int) = i) ∧ (((Ud d ((ga (ga (U6 d) k) 1).a) ((ga (ga (U6 d) k) 1).b)).1 : Int) = j)) ∨ ((((Ud d ((ga (ga (U6 d) k) 0).a) ((ga (ga (U6 d) k) 0).b)).1 : Int) = j) ∧ (((Ud d ((ga (ga (U6 d) k) 1).a) ((ga (ga (U6 d) k) 1).b)).1 : Int) = i))))) rfl (congrArg Value.bool (decide_eq_decide.2 ⟨.inr, fun h => h.resolve_left hg71⟩)) (U22 [(80, _), (1, _), (2, _), (3, _), (7, _), (8, _), (11, _), (12, _), (13, _), (14, _)] ⟨rfl, rfl, rfl, rfl, rfl, rfl, rfl, rfl, rfl, rfl, trivial⟩ hJ80)
      ·refine mvs 18 1 rfl rfl ?_
       refine U27 (k' := 34) (d := 96) (decide ((((((Ud d ((ga (ga (U6 d) k) 0).a) ((ga (ga (U6 d) k) 0).b)).1 : Int) = i) ∧ (((Ud d ((ga (ga (U6 d) k) 1).a) ((ga (ga (U6 d) k) 1).b)).1 : Int) = j)) ∨ ((((Ud d ((ga (ga (U6 d) k) 0).a) ((ga (ga (U6 d) k) 0).b)).1 : Int) = j) ∧ (((Ud d ((ga (ga (U6 d) k) 1).a) ((ga (ga (U6 d) k) 1).b)).1 : Int) = i))) ∧ ((((hgt d ((ga (ga (U6 d) k) 0).a) : Int) = 2) ∧ ((hgt d ((ga (ga (U6 d) k) 1).a) : Int) = 0)) ∨ (((hgt d ((ga (ga (U6 d) k) 0).a) : Int) = 0) ∧ ((hgt d ((ga (ga (U6 d) k) 1).a) : Int) = 2))))) [(1, _), (2, _), (3, _), (7, _), (8, _), (13, _), (14, _)] ⟨rfl, rfl, rfl, rfl, rfl, rfl, rfl, trivial⟩ (fun hJ96 => ?_) ?_
       ·refine Ut (t := 81) rfl (fun hg81 => ?_) (fun hg81 => ?_)
        ·refine mvs 19 1 rfl rfl (wlg 20 21 rfl rfl rfl rfl rfl rfl rfl rfl (Ub rfl rfl (Uz rfl rfl rfl) (mvs 21 1 rfl rfl ?_)))
         refine U27 (k' := 25) (d := 87) (decide (((hgt d ((ga (ga (U6 d) k) 0).a) : Int) = 2) ∧ ((hgt d ((ga (ga (U6 d) k) 1).a) : Int) = 0))) [(1, _), (2, _), (3, _), (7, _), (8, _), (13, _), (14, _), (81, _)] ⟨rfl, rfl, rfl, rfl, rfl, rfl, rfl, rfl, trivial⟩ (fun hJ87 => ?_) ?_
         ·refine Ut (t := 84) rfl (fun hg84 => ?_) (fun hg84 => ?_)
          ·refine mvs 22 1 rfl rfl (wlg 23 24 rfl rfl rfl rfl rfl rfl rfl rfl (Ub rfl rfl (Uz rfl rfl rfl) (mvs 24 1 rfl rfl ?_)))
           exact U1t 87 (.bool (decide (((hgt d ((ga (ga (U6 d) k) 0).a) : Int) = 2) ∧ ((hgt d ((ga (ga (U6 d) k) 1).a) : Int) = 0)))) rfl (congrArg Value.bool (decide_eq_decide.2 ⟨fun h => ⟨hg84, h⟩, fun h => h.2⟩)) (U22 [(87, _), (1, _), (2, _), (3, _), (7, _), (8, _), (13, _), (14, _), (81, _)] ⟨rfl, rfl, rfl, rfl, rfl, rfl, rfl, rfl, rfl, trivial⟩ hJ87)
          ·refine mvs 22 3 rfl rfl ?_
           exact U1t 87 (.bool (decide (((hgt d ((ga (ga (U6 d) k) 0).a) : Int) = 2) ∧ ((hgt d ((ga (ga (U6 d) k) 1).a) : Int) = 0)))) rfl (congrArg Value.bool (decide_eq_false (fun h => hg84 h.1)).symm) (U22 [(87, _), (1, _), (2, _), (3, _), (7, _), (8, _), (13, _), (14, _), (81, _)] ⟨rfl, rfl, rfl, rfl, rfl, rfl, rfl, rfl, rfl, trivial⟩ hJ87)
         ·refine mvs 25 1 rfl rfl ?_
          refine U27 (k' := 33) (d := 95) (decide ((((hgt d ((ga (ga (U6 d) k) 0).a) : Int) = 2) ∧ ((hgt d ((ga (ga (U6 d) k) 1).a) : Int) = 0)) ∨ (((hgt d ((ga (ga (U6 d) k) 0).a) : Int) = 0) ∧ ((hgt d ((ga (ga (U6 d) k) 1).a) : Int) = 2)))) [(1, _), (2, _), (3, _), (7, _), (8, _), (13, _), (14, _), (81, _)] ⟨rfl, rfl, rfl, rfl, rfl, rfl, rfl, rfl, trivial⟩ (fun hJ95 => ?_) ?_
          ·refine Ut (t := 88) rfl (fun hg88 => ?_) (fun hg88 => ?_)
           ·refine mvs 26 6 rfl rfl (mvs 32 1 rfl rfl ?_)
            exact U1t 95 (.bool (decide ((((hgt d ((ga (ga (U6 d) k) 0).a) : Int) = 2) ∧ ((hgt d ((ga (ga (U6 d) k) 1).a) : Int) = 0)) ∨ (((hgt d ((ga (ga (U6 d) k) 0).a) : Int) = 0) ∧ ((hgt d ((ga (ga (U6 d) k) 1).a) : Int) = 2))))) rfl (congrArg Value.bool (decide_eq_true (.inl hg88)).symm) (U22 [(95, _), (1, _), (2, _), (3, _), (7, _), (8, _), (13, _), (14, _), (81, _)] ⟨rfl, rfl, rfl, rfl, rfl, rfl, rfl, rfl, rfl, trivial⟩ hJ95)
           ·refine mvs 26 1 rfl rfl (wlg 27 28 rfl rfl rfl rfl rfl rfl rfl rfl (Ub rfl rfl (Uz rfl rfl rfl) (mvs 28 1 rfl rfl ?_)))
            refine U27 (k' := 32) (d := 94) (decide (((hgt d ((ga (ga (U6 d) k) 0).a) : Int) = 0) ∧ ((hgt d ((ga (ga (U6 d) k) 1).a) : Int) = 2))) [(1, _), (2, _), (3, _), (7, _), (8, _), (13, _), (14, _), (81, _), (88, _)] ⟨rfl, rfl, rfl, rfl, rfl, rfl, rfl, rfl, rfl, trivial⟩ (fun hJ94 => ?_) ?_
            ·refine Ut (t := 91) rfl (fun hg91 => ?_) (fun hg91 => ?_)
             ·refine mvs 29 1 rfl rfl (wlg 30 31 rfl rfl rfl rfl rfl rfl rfl rfl (Ub rfl rfl (Uz rfl rfl rfl) (mvs 31 1 rfl rfl ?_)))
              exact U1t 94 (.bool (decide (((hgt d ((ga (ga (U6 d) k) 0).a) : Int) = 0) ∧ ((hgt d ((ga (ga (U6 d) k) 1).a) : Int) = 2)))) rfl (congrArg Value.bool (decide_eq_decide.2 ⟨fun h => ⟨hg91, h⟩, fun h => h.2⟩)) (U22 [(94, _), (1, _), (2, _), (3, _), (7, _), (8, _), (13, _), (14, _), (81, _), (88, _)] ⟨rfl, rfl, rfl, rfl, rfl, rfl, rfl, rfl, rfl, rfl, trivial⟩ hJ94)
             ·refine mvs 29 3 rfl rfl ?_
              exact U1t 94 (.bool (decide (((hgt d ((ga (ga (U6 d) k) 0).a) : Int) = 0) ∧ ((hgt d ((ga (ga (U6 d) k) 1).a) : Int) = 2)))) rfl (congrArg Value.bool (decide_eq_false (fun h => hg91 h.1)).symm) (U22 [(94, _), (1, _), (2, _), (3, _), (7, _), (8, _), (13, _), (14, _), (81, _), (88, _)] ⟨rfl, rfl, rfl, rfl, rfl, rfl, rfl, rfl, rfl, rfl, trivial⟩ hJ94)
            ·refine mvs 32 1 rfl rfl ?_
             exact U1t 95 (.bool (decide ((((hgt d ((ga (ga (U6 d) k) 0).a) : Int) = 2) ∧ ((hgt d ((ga (ga (U6 d) k) 1).a) : Int) = 0)) ∨ (((hgt d ((ga (ga (U6 d) k) 0).a) : Int) = 0) ∧ ((hgt d ((ga (ga (U6 d) k) 1).a) : Int) = 2))))) rfl (congrArg Value.bool (decide_eq_decide.2 ⟨.inr, fun h => h.resolve_left hg88⟩)) (U22 [(95, _), (1, _), (2, _), (3, _), (7, _), (8, _), (13, _), (14, _), (81, _)] ⟨rfl, rfl, rfl, rfl, rfl, rfl, rfl, rfl, rfl, trivial⟩ hJ95)
          ·refine mvs 33 1 rfl rfl (U5 rfl (nmk [1, 2, 3, 7, 8, 96] rfl (U4 ?_)))
           refine Ue Z1f9 Z1fa rfl rfl rfl rfl (fun hb96 => ?_) (fun hb96 => ?_)
           ·refine U2 Z1fb Z1fc rfl rfl rfl (U1 rfl (mvs 0 1 rfl rfl (U5 rfl (nmk [6] rfl (U4 (Uk hC [_] rfl rfl ⟨rfl, trivial⟩ ?_))))))
            refine ⟨_, rfl, _, hle1, (S69.pick [] [] (by decide) trivial), ?_⟩
            have hT : pulP d i j (ga (U6 d) k) = true := by unfold pulP; rw [decide_eq_true_iff]; omega
            show Value.bool _ = Value.bool _
            rw [List.any_eq_true.2 ⟨_, hxm, hT⟩]
           ·refine Uf rfl (U12 (nmk [1, 2, 3, 7, 8] rfl (U4 (U1 rfl (mvs 0 1 rfl rfl (wlr 1 rfl (Ug rfl rfl rfl (by first | omega | (simp only [ls]; omega))) ?_))))))
            refine mvs 2 1 rfl rfl (U5 rfl (U15 ?_))
            have hF : pulP d i j (ga (U6 d) k) = false := by unfold pulP; rw [decide_eq_false_iff_not]; omega
            intro ax_ hax_
            refine ⟨_, ?hq5m, ⟨k + 1, rfl, hax_.sub ⟨rfl, rfl, rfl, rfl, rfl, trivial⟩, S69.pick [2] [_] (by decide) ⟨rfl, trivial⟩, ?hq5f0, ?hq5f1⟩⟩
            case hq5f0 => omega
            case hq5f1 => (intro q hq; by_cases e : q = k; (subst e; exact hF); exact hno q (by omega))
            case hq5m => omega
        ·refine mvs 19 6 rfl rfl (mvs 25 6 rfl rfl (mvs 31 3 rfl rfl (U5 rfl (nmk [1, 2, 3, 7, 8, 96] rfl (U4 (U2c Z1fa rfl rfl rfl (Uf rfl (U12 ?_))))))))
         refine nmk [1, 2, 3, 7, 8] rfl (U4 (U1 rfl (mvs 0 1 rfl rfl (wlr 1 rfl (Ug rfl rfl rfl (by first | omega | (simp only [ls]; omega))) ?_))))
         refine mvs 2 1 rfl rfl (U5 rfl (U15 ?_))
         have hF : pulP d i j (ga (U6 d) k) = false := by unfold pulP; rw [decide_eq_false_iff_not]; omega
         intro ax_ hax_
         refine ⟨_, ?hq6m, ⟨k + 1, rfl, hax_.sub ⟨rfl, rfl, rfl, rfl, rfl, trivial⟩, S69.pick [2] [_] (by decide) ⟨rfl, trivial⟩, ?hq6f0, ?hq6f1⟩⟩
         case hq6f0 => omega
         case hq6f1 => (intro q hq; by_cases e : q = k; (subst e; exact hF); exact hno q (by omega))
         case hq6m => omega
       ·refine U5 rfl (nmk [1, 2, 3, 7, 8, 96] rfl (U4 ?_))
        refine Ue Z1f9 Z1fa rfl rfl rfl rfl (fun hb96 => ?_) (fun hb96 => ?_)
        ·refine U2 Z1fb Z1fc rfl rfl rfl (U1 rfl (mvs 0 1 rfl rfl (U5 rfl (nmk [6] rfl (U4 (Uk hC [_] rfl rfl ⟨rfl, trivial⟩ ?_))))))
         refine ⟨_, rfl, _, hle1, (S69.pick [] [] (by decide) trivial), ?_⟩
         have hT : pulP d i j (ga (U6 d) k) = true := by unfold pulP; rw [decide_eq_true_iff]; omega
         show Value.bool _ = Value.bool _
         rw [List.any_eq_true.2 ⟨_, hxm, hT⟩]
        ·refine Uf rfl (U12 (nmk [1, 2, 3, 7, 8] rfl (U4 (U1 rfl (mvs 0 1 rfl rfl (wlr 1 rfl (Ug rfl rfl rfl (by first | omega | (simp only [ls]; omega))) ?_))))))
         refine mvs 2 1 rfl rfl (U5 rfl (U15 ?_))
         have hF : pulP d i j (ga (U6 d) k) = false := by unfold pulP; rw [decide_eq_false_iff_not]; omega
         intro ax_ hax_
         refine ⟨_, ?hq7m, ⟨k + 1, rfl, hax_.sub ⟨rfl, rfl, rfl, rfl, rfl, trivial⟩, S69.pick [2] [_] (by decide) ⟨rfl, trivial⟩, ?hq7f0, ?hq7f1⟩⟩
         case hq7f0 => omega
         case hq7f1 => (intro q hq; by_cases e : q = k; (subst e; exact hF); exact hno q (by omega))
         case hq7m => omega
  ·refine U16 rfl rfl (U1a [] trivial (U4 (U2 Z1fd Z1fe rfl rfl rfl (U1 rfl (mvs 0 1 rfl rfl (U5 rfl (U4 (Uk hC [_] rfl rfl ⟨rfl, trivial⟩ ?_))))))))
   refine ⟨_, rfl, _, hle1, (S3.pick [] [] (by decide) trivial), ?_⟩
   show Value.bool _ = Value.bool _
   rw [List.any_eq_false.2 (fun x hx => by obtain ⟨q, hq, rfl⟩ := List.mem_iff_getElem.1 hx; rw [← U36 hq, hno q (by omega)]; decide)]
noncomputable def Z1ff:=Tryz.f39.body.getD .skip
def Z1fg := cL Z1ff
def Z1fh := cR Z1ff
def Z1fi := cL Z1fh
def Z1fj := cR Z1fh
def Z1fk := cL Z1fj
def Z1fl := cR Z1fj
def Z1fm := cL Z1fk
def Z1fn := cR Z1fk
def Z1fo := cL Z1fn
def Z1fp := cR Z1fn
def Z1fq := cL Z1fo
def Z1fr := cR Z1fo
def Z1fs := cL Z1fl
def Z1ft := cR Z1fl
def Z1fu := cL Z1ft
def Z1fv := cR Z1ft
def Z1fw := cL Z1fu
def Z1fx := cR Z1fu
def Z1fy := cL Z1fx
def Z1fz := cR Z1fx
def Z1g0 := cL Z1fy
def Z1g1 := cR Z1fy
def Z1g2 := cL Z1fv
def Z1g3 := cR Z1fv
def Z1g4 := cL Z1g3
def Z1g5 := cR Z1g3
def Z1g6 := cL Z1g5
def Z1g7 := cR Z1g5
def Z1g8 := cL Z1g6
def Z1g9 := cR Z1g6
def Z1ga := cL Z1g9
def Z1gb := cL Z1ga
def Z1gc := cL Z1gb
def Z1gd := cR Z1gb
def Z1ge := cL Z1gc
def Z1gf := cR Z1gc
def Z1gg := cL Z1gf
def Z1gh := cR Z1gf
def Z1gi := cL Z1gd
def Z1gj := cR Z1gd
def Z1gk := cL Z1gi
def Z1gl := cL Z1gk
def Z1gm := cR Z1gk
def Z1gn := cL Z1g7
def Z1go := cR Z1g7
def Z1gp := cL Z1gn
def Z1gq := cR Z1gn
def Z1gr := cL Z1gq
def Z1gs := cR Z1gq
def Z1gt := cL Z1gr
def Z1gu := cR Z1gr
def Z1gv := cL Z1go
def Z1gw := cR Z1go
def Z1gx := cL Z1gw
def Z1gy := cR Z1gw
def Z1gz := cL Z1gx
def Z1h0 := cR Z1gx
def Z1h1 := cL Z1h0
def Z1h2 := cL Z1h1
def Z1h3 := cL Z1h2
def Z1h4 := cR Z1h2
def Z1h5 := cL Z1h3
def Z1h6 := cR Z1h3
def Z1h7 := cL Z1h6
def Z1h8 := cR Z1h6
def Z1h9 := cL Z1h4
def Z1ha := cR Z1h4
def Z1hb := cL Z1h9
def Z1hc := cL Z1hb
def Z1hd := cR Z1hb
def Z1he := cL Z1hd
def Z1hf := cR Z1hd
def Z1hg := cL Z1hf
def Z1hh := cR Z1hf
def Z1hi := cL Z1hh
def Z1hj := cR Z1hh
def Z1hk := cL Z1hj
def Z1hl := cR Z1hj
def Z1hm := cL Z1hl
def Z1hn := cR Z1hl
def Z1ho := cL Z1gy
def Z1hp := cR Z1gy
set_option maxHeartbeats 2000000 in
set_option maxRecDepth 10000 in
theorem slideOf_t {w : World} {M : Hp} {X : Fr} (d : Dg) {dcrsA : Option Addr} {dcrsc : Nat} (m : Mv) (hdcrs : RdA cdCr (M.un X.h) dcrsA dcrsc d.crs) (hn : d.crs.length ≤ 16) (hab : U1b d = true) (S : SH w M X []) : Ct Tryz.prog 39 [.agg [.slice dcrsA d.crs.length dcrsc, .int .i64 d.loops].toArray, .int .i64 m.at_] w M X (DoR (mvR (slE d m) (slD d m))) := by
 unfold Ct
 have rmhdcrs : d.crs.length * 40 ≤ 140737488355328 := hdcrs.room
 refine Uo (b := Z1ff) Tryz.func39 rfl Tryz.ntmps39 rfl (fun C hC => (U14 [(0, _), (1, _)] ⟨rfl, rfl, trivial⟩ (U2 Z1fg Z1fh rfl rfl rfl (U1 rfl (wlo 0 1 rfl rfl rfl (U18 (l := [_, _]) rfl rfl rfl rfl rfl S ?_))))))
 intro gb1 w1 S1; clear S
 refine wlo 1 2 rfl rfl rfl (Uh (l := [_, _]) rfl rfl rfl zr24 rfl S1 ?_)
 intro gb2 w2 S2; clear S1
 refine mvs 2 1 rfl rfl (U5 rfl (nmk [1, 2, 4] rfl (U4 (U2 Z1fi Z1fj rfl rfl rfl (U1 rfl (wlr 0 rfl (U8 (us := [_, _]) rfl rfl uT24 rfl sz24 (S2.boxcs (i := 1) rfl ⟨rfl, rfl, trivial⟩)) (wlo 1 2 rfl rfl rfl (U2w rfl rfl rfl rfl rfl rfl rfl cf74 S2 (FacesOf_t d (hdcrs.mono S2.Uw) (hn) (hab) S2.lend) ?_))))))))
 intro vw3 w3 M1 hle1 S3 hRw3; clear S2
 replace hdcrs := hdcrs.mono (Hp.Ua hle1 S3.mx)
 obtain ⟨A1, c1, vs1, rfl, hr1, hd1⟩ := hRw3
 have hflA1 := hd1.1
 refine mvs 2 1 rfl rfl (U5 rfl (nmk [1, 2, 4, 6] rfl (U4 (U2 Z1fk Z1fl rfl rfl rfl (U2 Z1fm Z1fn rfl rfl rfl (U1 rfl (mvs 0 1 rfl rfl (wlr 1 rfl (U17 rfl rfl rfl) ?_))))))))
 refine mvs 2 1 rfl rfl ?_
 refine Ut (t := 22) rfl (fun hg22 => ?_) (fun hg22 => ?_)
 ·refine mvs 3 5 rfl rfl (U5 rfl (nmk [1, 2, 4, 6, 27] rfl (U4 (U1h Z1fo rfl rfl rfl (U2 Z1fq Z1fr rfl rfl rfl (U1 rfl (wlr 0 rfl (run_build (l := [_, _]) rfl rfl st24 rfl rfl) (wlo 1 2 rfl rfl rfl (U7 (i := 0) (us := [_, _]) (l' := [_, _]) (H' := [_, _]) rfl rfl S3 rfl rfl rfl rfl sz24 rfl rfl rfl rfl ?_)))))))))
  intro w4 S4; clear S3
  refine mvs 2 1 rfl rfl (U5 rfl (nmk [4, 5] rfl (U4 (Uk hC [_, _] rfl rfl ⟨⟨_, rfl, Up (us := [_, _]) uT24 rfl sz24 (S4.boxcs (i := 0) rfl ⟨rfl, rfl, trivial⟩)⟩, rfl, trivial⟩ ?_))))
  refine ⟨_, rfl, _, hle1, (S4.pick [] [] (by decide) trivial), ?_⟩
  rw [U26 (c := 3) (by unfold slE; rw [if_neg (by omega)]) (by decide)]
  exact U1z 3
 ·refine mvs 3 2 rfl rfl (wlg 5 6 rfl rfl rfl rfl rfl rfl rfl rfl (Ub rfl rfl (U1f rfl rfl rfl rfl rfl rfl uT65) (wlg 6 7 rfl rfl rfl rfl rfl rfl rfl rfl (Ub rfl rfl (U2q rfl rfl rfl) (mvs 7 1 rfl rfl (U5 rfl (nmk [1, 2, 4, 6, 27] rfl (U4 ?_))))))))
  refine Ue Z1fo Z1fp rfl rfl rfl rfl (fun hb27 => ?_) (fun hb27 => ?_)
  ·refine U2 Z1fq Z1fr rfl rfl rfl (U1 rfl (wlr 0 rfl (run_build (l := [_, _]) rfl rfl st24 rfl rfl) (wlo 1 2 rfl rfl rfl (U7 (i := 0) (us := [_, _]) (l' := [_, _]) (H' := [_, _]) rfl rfl S3 rfl rfl rfl rfl sz24 rfl rfl rfl rfl ?_))))
   intro w5 S5; clear S3
   refine mvs 2 1 rfl rfl (U5 rfl (nmk [4, 5] rfl (U4 (Uk hC [_, _] rfl rfl ⟨⟨_, rfl, Up (us := [_, _]) uT24 rfl sz24 (S5.boxcs (i := 0) rfl ⟨rfl, rfl, trivial⟩)⟩, rfl, trivial⟩ ?_))))
   refine ⟨_, rfl, _, hle1, (S5.pick [] [] (by decide) trivial), ?_⟩
   rw [U26 (c := 3) (by unfold slE; rw [if_neg (by omega)]) (by decide)]
   exact U1z 3
  ·refine Uf rfl (nmk [1, 2, 4, 6] rfl (U4 (U2 Z1fs Z1ft rfl rfl rfl ?_)))
   have hok3 : 0 ≤ m.at_ ∧ m.at_ < ((U6 d).length : Int) := by omega
   have hxm : (ga (U6 d) m.at_.toNat) ∈ U6 d := U2m (by omega)
   have hok : ∀ x ∈ (ga (U6 d) m.at_.toNat), okD d x := faces_ok hab hxm
   refine U1 rfl (mvs 0 2 rfl rfl (U1t 30 (.int .i64 ((m.at_.toNat : Nat) : Int)) rfl (int_eq (by omega)) ?_))
   refine wlr 2 rfl (Uj (C := (cdV 141)) m.at_.toNat rfl rfl rfl sl65 (by first | rfl | omega) hr1 (by first | omega | (simp only [ls]; omega))) ?_
   obtain ⟨hn1, hr2⟩ := hd1.2 m.at_.toNat (by first | omega | (simp only [ls]; omega))
   have rmhr2 : (ga (U6 d) m.at_.toNat).length * 16 ≤ 140737488355328 := hr2.room
   refine wlr 3 rfl (U3 rfl rfl uT141 rfl (hr1.cell S3.m (i := m.at_.toNat) (by first | omega | (simp only [ls]; omega)) 0 rfl (congrArg (fun n => some (Value.slice _ n _)) hn1))) ?_
   refine mvs 4 1 rfl rfl (U5 rfl (nmk [2, 4, 7] rfl (U4 (U2 Z1fu Z1fv rfl rfl rfl (U2 Z1fw Z1fx rfl rfl rfl (U1 rfl (mvs 0 1 rfl rfl (wlr 1 rfl (U1f rfl rfl rfl rfl rfl rfl uT141) ?_))))))))
   refine wlr 2 rfl (U2k rfl rfl rfl) (U5 rfl (nmk [2, 4, 7, 35] rfl (U4 ?_)))
   refine Ue Z1fy Z1fz rfl rfl rfl rfl (fun hb35 => ?_) (fun hb35 => ?_)
   ·refine U2 Z1g0 Z1g1 rfl rfl rfl (U1 rfl (wlr 0 rfl (run_build (l := [_, _]) rfl rfl st24 rfl rfl) (wlo 1 2 rfl rfl rfl (U7 (i := 0) (us := [_, _]) (l' := [_, _]) (H' := [_, _]) rfl rfl S3 rfl rfl rfl rfl sz24 rfl rfl rfl rfl ?_))))
    intro w6 S6; clear S3
    refine mvs 2 1 rfl rfl (U5 rfl (nmk [4, 5] rfl (U4 (Uk hC [_, _] rfl rfl ⟨⟨_, rfl, Up (us := [_, _]) uT24 rfl sz24 (S6.boxcs (i := 0) rfl ⟨rfl, rfl, trivial⟩)⟩, rfl, trivial⟩ ?_))))
    refine ⟨_, rfl, _, hle1, (S6.pick [] [] (by decide) trivial), ?_⟩
    rw [U26 (c := 8) (by unfold slE; rw [if_pos hok3, if_neg (by first | (unfold U3d; rw [decide_eq_true_iff]; omega) | (rw [U3a hab hxm (by omega), decide_eq_true_iff]; omega))]) (by decide)]
    exact U1z 8
   ·refine Uf rfl (nmk [2, 4, 7] rfl (U4 (U2 Z1g2 Z1g3 rfl rfl rfl (U1 rfl (wlo 0 1 rfl rfl rfl (Uh (l := [_, _, _]) rfl rfl rfl zr150 rfl S3 ?_))))))
    intro gb3 w7 S7; clear S3
    refine U5 rfl (U4 (U2 Z1g4 Z1g5 rfl rfl rfl (U1 rfl (mvs 0 1 rfl rfl (U5 rfl (U4 (U2 Z1g6 Z1g7 rfl rfl rfl (U2 Z1g8 Z1g9 rfl rfl rfl ?_))))))))
    refine U1 rfl (mvs 0 1 rfl rfl (U5 rfl (U4 (Uc Z1ga 0 rfl rfl rfl ?_))))
    have S8 := S7.nilrow Uv; clear S7
    refine U11 (fun mx_ ax_ wx_ => ∃ (k : Nat) (mF : Nat → Int) (es : List Int) (vre : Value), mx_ = 3 - k ∧ Env 161 [(2, .pointer (some ⟨gb1, 0, none⟩)), (4, .pointer (some ⟨gb2, 0, none⟩)), (7, .slice ((ga vs1 m.at_.toNat).A) (ga (U6 d) m.at_.toNat).length ((ga vs1 m.at_.toNat).c)), (8, .pointer (some ⟨gb3, 0, none⟩)), (9, vre), (10, .int .i64 (k : Int))] ax_ ∧ SH wx_ M1 X [Rs.row Uv vre es, Rs.box gb3 150 [.int .i64 (mF 0), .int .i64 (mF 1), .int .i64 (mF 2)], Rs.box gb2 24 [.slice none 0 0, .int .i64 0], Rs.box gb1 24 [.slice dcrsA d.crs.length dcrsc, .int .i64 d.loops]] ∧ k ≤ 3 ∧ (∀ q, q < 3 → mF q = (hcN d (ga (U6 d) m.at_.toNat) q k : Int)) ∧ es = hdN d (ga (U6 d) m.at_.toNat) k) rfl ?_ ?_
    ·intro ax_ hax_
     refine ⟨_, ⟨0, (fun _ => 0), [], _, rfl, hax_.sub ⟨rfl, rfl, rfl, rfl, rfl, rfl, trivial⟩, S8.pick [0, 1, 2, 3] [_, _, _, _] (by decide) ⟨rfl, rfl, rfl, rfl, trivial⟩, ?hq1f0, ?hq1f1, ?hq1f2⟩⟩
     case hq1f0 => omega
     case hq1f1 => (intro q hq; rfl)
     case hq1f2 => rfl
    ·rintro m1 a1 w8 ⟨k, mF, es, vre, rfl, he1, S9, hk, hmF, hes⟩
     clear S8
     refine U1u he1 (c := Z1gb) rfl ?_
     clear he1 a1
     have hel : es.length = k := by rw [hes]; exact hdN_len _ _ _
     have hgl := hgt_le d (ga (ga (U6 d) m.at_.toNat) k).a
     have hmb := hmF (hgt d (ga (ga (U6 d) m.at_.toNat) k).a) (by omega)
     have hmc := hcN_le d (ga (U6 d) m.at_.toNat) (hgt d (ga (ga (U6 d) m.at_.toNat) k).a) k
     refine U2 Z1gc Z1gd rfl rfl rfl (U2 Z1ge Z1gf rfl rfl rfl (U1 rfl (mvs 0 1 rfl rfl (wlr 1 rfl (U17 rfl rfl rfl) (U5 rfl (nmk [2, 4, 7, 8, 9, 10, 38] rfl (U4 ?_)))))))
     refine Ue Z1gg Z1gh rfl rfl rfl rfl (fun hb38 => ?_) (fun hb38 => ?_)
     ·have ho : okD d (ga (ga (U6 d) m.at_.toNat) k) := hok _ (U2m (by omega))
      have hpo : 1 ≤ (ga (ga (U6 d) m.at_.toNat) k).a ∧ (ga (ga (U6 d) m.at_.toNat) k).a ≤ 2 * (d.crs.length : Int) := ho
      refine Uf rfl (nmk [2, 4, 7, 8, 9, 10] rfl (U4 (U2 Z1gi Z1gj rfl rfl rfl (Uc Z1gk 1 rfl rfl rfl (U2 Z1gl Z1gm rfl rfl rfl (Ux rfl (by kernel_rfl) S9 12 rfl ?_))))))
      clear S9
      refine wat 0 11 rfl (by kernel_rfl) (fun _ _ _ hz Sz => .inl (U8 (us := [_, _]) rfl rfl uT24 rfl sz24 (Sz.suf.boxcs (i := 3) rfl ⟨rfl, rfl, trivial⟩))) ?_
      refine wap 1 10 rfl (by kernel_rfl) (fun _ => run_move rfl rfl) ?_
      refine wap 2 9 rfl (by kernel_rfl) (fun _ => run_move rfl rfl) ?_
      refine wat 3 8 rfl (by kernel_rfl) (fun _ _ _ hz Sz => .inl (Uj (C := cdDa) k rfl rfl rfl sl141 (by first | rfl | omega) (hr2.mono hz) (by first | omega | (simp only [ls]; omega)))) ?_
      refine wap 4 7 rfl (by kernel_rfl) (fun _ => U0 rfl rfl uT26 rfl (ce3) (nf3)) ?_
      refine wat 5 6 rfl (by kernel_rfl) (fun _ _ _ hz Sz => .inl (U3 rfl rfl uT3 rfl ((hr2.mono hz).cell Sz.m (i := k) (by first | omega | (simp only [ls]; omega)) 0 rfl rfl))) ?_
      refine wat 6 5 rfl (by kernel_rfl) (fun _ _ _ hz Sz => Uq rfl rfl rfl rfl rfl cf81 Sz (heightOf_q d ((ga (ga (U6 d) m.at_.toNat) k).a) ((hdcrs.mono (Hp.Ua hz Sz.mx)).mono Sz.Uw) (hab) (by first | assumption | omega) Sz.lend)) ?_
      refine wat 7 4 rfl (by kernel_rfl) (fun _ _ _ hz Sz => .inl (U1d (e := hgt d ((ga (ga (U6 d) m.at_.toNat) k).a)) (k := 1) rfl rfl rfl uT150 sz3 (by first | rfl | omega) (by first | omega | (simp only [ls]; omega)))) ?_
      refine wat 8 3 rfl (by kernel_rfl) (fun _ _ _ hz Sz => .inl (U3 rfl rfl uT3 rfl (Sz.suf.boxc (i := 1) rfl (nth_fn3 (fun k => Value.int .i64 (mF k)) (by first | omega | (simp only [ls]; omega)))))) ?_
      refine wap 9 2 rfl (by kernel_rfl) (fun _ => Ug rfl rfl rfl (by first | omega | (simp only [ls]; omega))) ?_
      refine wat 10 1 rfl (by kernel_rfl) (fun _ _ _ hz Sz => .inl (U1d (e := hgt d ((ga (ga (U6 d) m.at_.toNat) k).a)) (k := 1) rfl rfl rfl uT150 sz3 (by first | rfl | omega) (by first | omega | (simp only [ls]; omega)))) ?_
      refine Um (i := 11) 0 rfl (by kernel_rfl) rfl rfl (fun w21 S22 => ?_)
      refine (U7 (i := 1) (us := [_]) (l' := [.int .i64 (upd mF (hgt d ((ga (ga (U6 d) m.at_.toNat) k).a)) ((mF (hgt d ((ga (ga (U6 d) m.at_.toNat) k).a))) + 1) 0), .int .i64 (upd mF (hgt d ((ga (ga (U6 d) m.at_.toNat) k).a)) ((mF (hgt d ((ga (ga (U6 d) m.at_.toNat) k).a))) + 1) 1), .int .i64 (upd mF (hgt d ((ga (ga (U6 d) m.at_.toNat) k).a)) ((mF (hgt d ((ga (ga (U6 d) m.at_.toNat) k).a))) + 1) 2)]) (H' := [_, _, _, _]) rfl rfl S22 rfl rfl rfl rfl sz3 (ble_fn3 (fun k => Value.int .i64 (mF k)) _ (by first | omega | (simp only [ls]; omega))) rfl (spl_i3 mF ((mF (hgt d ((ga (ga (U6 d) m.at_.toNat) k).a))) + 1) (by first | omega | (simp only [ls]; omega))) rfl ?_)
      intro w22 S23; clear S22
      refine U10.turn (by kernel_rfl) S23 ?_; clear S23
      change WA _ _ _ _ _ _ _ _ _ _ _ _ [_, _, _, _]
      refine Uu (by kernel_rfl) (fun w23 S24 => ?_)
      refine nmk [2, 4, 7, 8, 9, 10] rfl (U4 ?_)
      have S25 := S24.pick [0, 1, 2, 3] [_, _, _, _] (by decide) ⟨rfl, rfl, rfl, rfl, trivial⟩; clear S24
      refine U29 [_] [_, _, _] rfl (by kernel_rfl) S25 17 rfl ?_
      clear S25
      change WA _ _ _ _ _ _ _ _ _ _ _ _ [_, _, _, _]
      refine wap 0 16 rfl (by kernel_rfl) (fun _ => run_move rfl rfl) ?_
      refine wat 1 15 rfl (by kernel_rfl) (fun _ _ _ hz Sz => .inl (U8 (us := [_, _]) rfl rfl uT24 rfl sz24 (Sz.suf.boxcs (i := 2) rfl ⟨rfl, rfl, trivial⟩))) ?_
      refine wap 2 14 rfl (by kernel_rfl) (fun _ => run_move rfl rfl) ?_
      refine wap 3 13 rfl (by kernel_rfl) (fun _ => run_move rfl rfl) ?_
      refine wat 4 12 rfl (by kernel_rfl) (fun _ _ _ hz Sz => .inl (Uj (C := cdDa) k rfl rfl rfl sl141 (by first | rfl | omega) (hr2.mono hz) (by first | omega | (simp only [ls]; omega)))) ?_
      refine wap 5 11 rfl (by kernel_rfl) (fun _ => U0 rfl rfl uT26 rfl (ce3) (nf3)) ?_
      refine wat 6 10 rfl (by kernel_rfl) (fun _ _ _ hz Sz => .inl (U3 rfl rfl uT3 rfl ((hr2.mono hz).cell Sz.m (i := k) (by first | omega | (simp only [ls]; omega)) 0 rfl rfl))) ?_
      refine wap 7 9 rfl (by kernel_rfl) (fun _ => run_move rfl rfl) ?_
      refine wap 8 8 rfl (by kernel_rfl) (fun _ => run_move rfl rfl) ?_
      refine wat 9 7 rfl (by kernel_rfl) (fun _ _ _ hz Sz => .inl (Uj (C := cdDa) k rfl rfl rfl sl141 (by first | rfl | omega) (hr2.mono hz) (by first | omega | (simp only [ls]; omega)))) ?_
      refine wap 10 6 rfl (by kernel_rfl) (fun _ => U0 rfl rfl uT26 rfl (ce4) (nf4)) ?_
      refine wat 11 5 rfl (by kernel_rfl) (fun _ _ _ hz Sz => .inl (U3 rfl rfl uT4 rfl ((hr2.mono hz).cell Sz.m (i := k) (by first | omega | (simp only [ls]; omega)) 1 rfl rfl))) ?_
      refine wat 12 4 rfl (by kernel_rfl) (fun _ _ _ hz Sz => Uq rfl rfl rfl rfl rfl cf60 Sz (U33 d ((ga (ga (U6 d) m.at_.toNat) k).a) ((ga (ga (U6 d) m.at_.toNat) k).b) ((hdcrs.mono (Hp.Ua hz Sz.mx)).mono Sz.Uw) Sz.lend)) ?_
      refine wap 13 3 rfl (by kernel_rfl) (fun _ => U23 rfl rfl uT120 rfl uT3 rfl rfl) ?_
      refine Um (i := 14) 2 rfl (by kernel_rfl) rfl rfl (fun w39 S41 => ?_)
      refine (U13 (C := Uv) (l := [_]) rfl rfl rfl rfl sl53 rfl rfl rfl rfl S41 ?_)
      intro gb4 w40 S42; clear S41
      refine U10.grow [_, _] (Hp.le_refl _) S42 ?_; clear S42
      change WA _ _ _ _ _ _ _ _ _ _ _ _ [_, _, _, _, _]
      refine Um (i := 15) 1 rfl (by kernel_rfl) rfl rfl (fun w42 S44 => ?_)
      refine (U1l (C := Uv) (i := 1) (q := 0) ((Ud d ((ga (ga (U6 d) m.at_.toNat) k).a) ((ga (ga (U6 d) m.at_.toNat) k).b)).1 : Int) rfl rfl rfl rfl rfl rfl rfl rfl sl53 S44 rfl rfl rfl (by show (_ + 1) * 8 ≤ _; first | omega | (simp only [ls]; omega)) ?_)
      intro vre1 w43 S45; clear S44
      have S46 := S45.pick [1, 2, 3, 4] [_, _, _, _] (by decide) ⟨rfl, rfl, rfl, rfl, trivial⟩; clear S45
      refine U10.grow [_] (Hp.le_refl _) S46 ?_; clear S46
      change WA _ _ _ _ _ _ _ _ _ _ _ _ [_, _, _, _]
      refine wap 16 0 rfl (by kernel_rfl) (fun _ => run_assign rfl rfl) ?_
      refine Uu (by kernel_rfl) (fun w45 S48 => ?_)
      refine U12 (nmk [2, 4, 7, 8, 9, 10] rfl (U4 (U1 rfl (mvs 0 1 rfl rfl (wlr 1 rfl (Ug rfl rfl rfl (by first | omega | (simp only [ls]; omega))) ?_)))))
      refine mvs 2 1 rfl rfl (U5 rfl (U15 ?_))
      intro ax_ hax_
      refine ⟨_, ?hq2m, ⟨k + 1, (upd mF (hgt d (ga (ga (U6 d) m.at_.toNat) k).a) (mF (hgt d (ga (ga (U6 d) m.at_.toNat) k).a) + 1)), es ++ [((Ud d ((ga (ga (U6 d) m.at_.toNat) k).a) ((ga (ga (U6 d) m.at_.toNat) k).b)).1 : Int)], _, rfl, hax_.sub ⟨rfl, rfl, rfl, rfl, rfl, rfl, trivial⟩, S48.pick [0, 1, 2, 3] [_, _, _, _] (by decide) ⟨rfl, rfl, rfl, rfl, trivial⟩, ?hq2f0, ?hq2f1, ?hq2f2⟩⟩
      case hq2f0 => omega
      case hq2f1 => (intro q hq; have h9 := hmF q hq; unfold upd hcN; by_cases e : (hgt d (ga (ga (U6 d) m.at_.toNat) k).a) = q; (subst e; rw [if_pos rfl, if_pos rfl, h9]; rfl); (rw [if_neg (fun h => e h.symm), if_neg e, h9]; rfl))
      case hq2f2 => (rw [hes]; rfl)
      case hq2m => omega
     ·refine U16 rfl rfl (nmk [2, 4, 7, 8, 9] rfl (U4 (U2 Z1gn Z1go rfl rfl rfl (U2 Z1gp Z1gq rfl rfl rfl ?_))))
      obtain rfl : k = 3 := by omega
      have hel : es.length = 3 := by rw [hes]; exact hdN_len _ _ _
      have hm0 := hmF 0 (by omega)
      have hm1 := hmF 1 (by omega)
      have hm2 := hmF 2 (by omega)
      have hg0 : ga es 0 = (hdC d (ga (ga (U6 d) m.at_.toNat) 0) : Int) := by rw [hes]; rfl
      have hg1 : ga es 1 = (hdC d (ga (ga (U6 d) m.at_.toNat) 1) : Int) := by rw [hes]; rfl
      have hg2 : ga es 2 = (hdC d (ga (ga (U6 d) m.at_.toNat) 2) : Int) := by rw [hes]; rfl
      refine Ux rfl (by kernel_rfl) S9 40 rfl ?_
      clear S9
      refine wat 0 39 rfl (by kernel_rfl) (fun _ _ _ hz Sz => .inl (U1d (e := 0) (k := 1) rfl rfl rfl uT150 sz3 (by first | rfl | omega) (by first | omega | (simp only [ls]; omega)))) ?_
      refine wat 1 38 rfl (by kernel_rfl) (fun _ _ _ hz Sz => .inl (U3 rfl rfl uT3 rfl (Sz.suf.boxc (i := 1) rfl rfl))) ?_
      refine wap 2 37 rfl (by kernel_rfl) (fun _ => U2k rfl rfl rfl) ?_
      refine wap 3 36 rfl (by kernel_rfl) (fun _ => run_move rfl rfl) ?_
      refine U21 (t := 71) rfl (fun hg71 => ?_) (fun hg71 => ?_)
      ·refine Ur (i := 4) (d := 72) 35 rfl (by kernel_rfl) (by kernel_rfl) (by kernel_rfl) ⟨_, _, _, rfl, rfl, rfl, rfl⟩ rfl rfl ?_
       refine Ur (i := 5) (d := 73) 34 rfl (by kernel_rfl) (by kernel_rfl) (by kernel_rfl) ⟨_, _, _, rfl, rfl, rfl, rfl⟩ rfl rfl ?_
       refine Ur (i := 6) (d := 74) 33 rfl (by kernel_rfl) (by kernel_rfl) (by kernel_rfl) ⟨_, _, _, rfl, rfl, rfl, rfl⟩ rfl rfl ?_
       refine wap 7 32 rfl (by kernel_rfl) (fun _ => U1e rfl rfl rfl) ?_
       refine wap 8 31 rfl (by kernel_rfl) (fun _ => run_move rfl rfl) ?_
       refine Ur (i := 9) (d := 77) 30 rfl (by kernel_rfl) (by kernel_rfl) (by kernel_rfl) ⟨_, _, _, rfl, rfl, rfl, rfl⟩ rfl rfl ?_
       refine Ur (i := 10) (d := 78) 29 rfl (by kernel_rfl) (by kernel_rfl) (by kernel_rfl) ⟨_, _, _, rfl, rfl, rfl, rfl⟩ rfl rfl ?_
       refine Ur (i := 11) (d := 79) 28 rfl (by kernel_rfl) (by kernel_rfl) (by kernel_rfl) ⟨_, _, _, rfl, rfl, rfl, rfl⟩ rfl rfl ?_
       refine wap 12 27 rfl (by kernel_rfl) (fun _ => U1e rfl rfl rfl) ?_
       refine wap 13 26 rfl (by kernel_rfl) (fun _ => run_move rfl rfl) ?_
       refine Ur (i := 14) (d := 82) 25 rfl (by kernel_rfl) (by kernel_rfl) (by kernel_rfl) ⟨_, _, _, rfl, rfl, rfl, rfl⟩ rfl rfl ?_
       refine Ur (i := 15) (d := 83) 24 rfl (by kernel_rfl) (by kernel_rfl) (by kernel_rfl) ⟨_, _, _, rfl, rfl, rfl, rfl⟩ rfl rfl ?_
       refine Ur (i := 16) (d := 84) 23 rfl (by kernel_rfl) (by kernel_rfl) (by kernel_rfl) ⟨_, _, _, rfl, rfl, rfl, rfl⟩ rfl rfl ?_
       refine Ur (i := 17) (d := 85) 22 rfl (by kernel_rfl) (by kernel_rfl) (by kernel_rfl) ⟨_, _, _, rfl, rfl, rfl, rfl⟩ rfl rfl ?_
       refine Ur (i := 18) (d := 86) 21 rfl (by kernel_rfl) (by kernel_rfl) (by kernel_rfl) ⟨_, _, _, rfl, rfl, rfl, rfl⟩ rfl rfl ?_
       refine Ur (i := 19) (d := 87) 20 rfl (by kernel_rfl) (by kernel_rfl) (by kernel_rfl) ⟨_, _, _, rfl, rfl, rfl, rfl⟩ rfl rfl ?_
       refine Ur (i := 20) (d := 88) 19 rfl (by kernel_rfl) (by kernel_rfl) (by kernel_rfl) ⟨_, _, _, rfl, rfl, rfl, rfl⟩ rfl rfl ?_
       refine wap 21 18 rfl (by kernel_rfl) (fun _ => U1e rfl rfl rfl) ?_
       refine wap 22 17 rfl (by kernel_rfl) (fun _ => run_move rfl rfl) ?_
       refine Ur (i := 23) (d := 91) 16 rfl (by kernel_rfl) (by kernel_rfl) (by kernel_rfl) ⟨_, _, _, rfl, rfl, rfl, rfl⟩ rfl rfl ?_
       refine Ur (i := 24) (d := 92) 15 rfl (by kernel_rfl) (by kernel_rfl) (by kernel_rfl) ⟨_, _, _, rfl, rfl, rfl, rfl⟩ rfl rfl ?_
       refine Ur (i := 25) (d := 93) 14 rfl (by kernel_rfl) (by kernel_rfl) (by kernel_rfl) ⟨_, _, _, rfl, rfl, rfl, rfl⟩ rfl rfl ?_
       refine Ur (i := 26) (d := 94) 13 rfl (by kernel_rfl) (by kernel_rfl) (by kernel_rfl) ⟨_, _, _, rfl, rfl, rfl, rfl⟩ rfl rfl ?_
       refine Ur (i := 27) (d := 95) 12 rfl (by kernel_rfl) (by kernel_rfl) (by kernel_rfl) ⟨_, _, _, rfl, rfl, rfl, rfl⟩ rfl rfl ?_
       refine Ur (i := 28) (d := 96) 11 rfl (by kernel_rfl) (by kernel_rfl) (by kernel_rfl) ⟨_, _, _, rfl, rfl, rfl, rfl⟩ rfl rfl ?_
       refine Ur (i := 29) (d := 97) 10 rfl (by kernel_rfl) (by kernel_rfl) (by kernel_rfl) ⟨_, _, _, rfl, rfl, rfl, rfl⟩ rfl rfl ?_
       refine wap 30 9 rfl (by kernel_rfl) (fun _ => U1e rfl rfl rfl) ?_
       refine wap 31 8 rfl (by kernel_rfl) (fun _ => run_move rfl rfl) ?_
       refine Ur (i := 32) (d := 100) 7 rfl (by kernel_rfl) (by kernel_rfl) (by kernel_rfl) ⟨_, _, _, rfl, rfl, rfl, rfl⟩ rfl rfl ?_
       refine Ur (i := 33) (d := 101) 6 rfl (by kernel_rfl) (by kernel_rfl) (by kernel_rfl) ⟨_, _, _, rfl, rfl, rfl, rfl⟩ rfl rfl ?_
       refine Ur (i := 34) (d := 102) 5 rfl (by kernel_rfl) (by kernel_rfl) (by kernel_rfl) ⟨_, _, _, rfl, rfl, rfl, rfl⟩ rfl rfl ?_
       refine Ur (i := 35) (d := 103) 4 rfl (by kernel_rfl) (by kernel_rfl) (by kernel_rfl) ⟨_, _, _, rfl, rfl, rfl, rfl⟩ rfl rfl ?_
       refine Ur (i := 36) (d := 104) 3 rfl (by kernel_rfl) (by kernel_rfl) (by kernel_rfl) ⟨_, _, _, rfl, rfl, rfl, rfl⟩ rfl rfl ?_
       refine Ur (i := 37) (d := 105) 2 rfl (by kernel_rfl) (by kernel_rfl) (by kernel_rfl) ⟨_, _, _, rfl, rfl, rfl, rfl⟩ rfl rfl ?_
       refine Ur (i := 38) (d := 106) 1 rfl (by kernel_rfl) (by kernel_rfl) (by kernel_rfl) ⟨_, _, _, rfl, rfl, rfl, rfl⟩ rfl rfl ?_
       refine wap 39 0 rfl (by kernel_rfl) (fun _ => U1e rfl rfl rfl) ?_
       refine Uu (by kernel_rfl) (fun w59 S62 => ?_)
       refine nmk [2, 4, 7, 107] rfl (U4 (U1h Z1gr rfl rfl rfl (U2 Z1gt Z1gu rfl rfl rfl (U1 rfl (wlr 0 rfl (run_build (l := [_, _]) rfl rfl st24 rfl rfl) (wlo 1 2 rfl rfl rfl (U7 (i := 2) (us := [_, _]) (l' := [_, _]) (H' := [_, _, _, _]) rfl rfl S62 rfl rfl rfl rfl sz24 rfl rfl rfl rfl ?_)))))))
       intro w60 S63; clear S62
       refine mvs 2 1 rfl rfl (U5 rfl (nmk [4, 5] rfl (U4 (Uk hC [_, _] rfl rfl ⟨⟨_, rfl, Up (us := [_, _]) uT24 rfl sz24 (S63.boxcs (i := 2) rfl ⟨rfl, rfl, trivial⟩)⟩, rfl, trivial⟩ ?_))))
       refine ⟨_, rfl, _, hle1, (S63.pick [] [] (by decide) trivial), ?_⟩
       rw [U26 (c := 8) (by unfold slE; rw [if_pos hok3, if_neg (by first | (unfold U3d; rw [decide_eq_true_iff]; omega) | (rw [U3a hab hxm (by omega), decide_eq_true_iff]; omega))]) (by decide)]
       exact U1z 8
      ·refine wat 4 35 rfl (by kernel_rfl) (fun _ _ _ hz Sz => .inl (U1d (e := 1) (k := 1) rfl rfl rfl uT150 sz3 (by first | rfl | omega) (by first | omega | (simp only [ls]; omega)))) ?_
       refine wat 5 34 rfl (by kernel_rfl) (fun _ _ _ hz Sz => .inl (U3 rfl rfl uT3 rfl (Sz.suf.boxc (i := 1) rfl rfl))) ?_
       refine wap 6 33 rfl (by kernel_rfl) (fun _ => U2k rfl rfl rfl) ?_
       refine wap 7 32 rfl (by kernel_rfl) (fun _ => U1r rfl rfl rfl) ?_
       refine wap 8 31 rfl (by kernel_rfl) (fun _ => run_move rfl rfl) ?_
       refine U21 (t := 76) rfl (fun hg76 => ?_) (fun hg76 => ?_)
       ·refine Ur (i := 9) (d := 77) 30 rfl (by kernel_rfl) (by kernel_rfl) (by kernel_rfl) ⟨_, _, _, rfl, rfl, rfl, rfl⟩ rfl rfl ?_
        refine Ur (i := 10) (d := 78) 29 rfl (by kernel_rfl) (by kernel_rfl) (by kernel_rfl) ⟨_, _, _, rfl, rfl, rfl, rfl⟩ rfl rfl ?_
        refine Ur (i := 11) (d := 79) 28 rfl (by kernel_rfl) (by kernel_rfl) (by kernel_rfl) ⟨_, _, _, rfl, rfl, rfl, rfl⟩ rfl rfl ?_
        refine wap 12 27 rfl (by kernel_rfl) (fun _ => U1e rfl rfl rfl) ?_
        refine wap 13 26 rfl (by kernel_rfl) (fun _ => run_move rfl rfl) ?_
        refine Ur (i := 14) (d := 82) 25 rfl (by kernel_rfl) (by kernel_rfl) (by kernel_rfl) ⟨_, _, _, rfl, rfl, rfl, rfl⟩ rfl rfl ?_
        refine Ur (i := 15) (d := 83) 24 rfl (by kernel_rfl) (by kernel_rfl) (by kernel_rfl) ⟨_, _, _, rfl, rfl, rfl, rfl⟩ rfl rfl ?_
        refine Ur (i := 16) (d := 84) 23 rfl (by kernel_rfl) (by kernel_rfl) (by kernel_rfl) ⟨_, _, _, rfl, rfl, rfl, rfl⟩ rfl rfl ?_
        refine Ur (i := 17) (d := 85) 22 rfl (by kernel_rfl) (by kernel_rfl) (by kernel_rfl) ⟨_, _, _, rfl, rfl, rfl, rfl⟩ rfl rfl ?_
        refine Ur (i := 18) (d := 86) 21 rfl (by kernel_rfl) (by kernel_rfl) (by kernel_rfl) ⟨_, _, _, rfl, rfl, rfl, rfl⟩ rfl rfl ?_
        refine Ur (i := 19) (d := 87) 20 rfl (by kernel_rfl) (by kernel_rfl) (by kernel_rfl) ⟨_, _, _, rfl, rfl, rfl, rfl⟩ rfl rfl ?_
        refine Ur (i := 20) (d := 88) 19 rfl (by kernel_rfl) (by kernel_rfl) (by kernel_rfl) ⟨_, _, _, rfl, rfl, rfl, rfl⟩ rfl rfl ?_
        refine wap 21 18 rfl (by kernel_rfl) (fun _ => U1e rfl rfl rfl) ?_
        refine wap 22 17 rfl (by kernel_rfl) (fun _ => run_move rfl rfl) ?_
        refine Ur (i := 23) (d := 91) 16 rfl (by kernel_rfl) (by kernel_rfl) (by kernel_rfl) ⟨_, _, _, rfl, rfl, rfl, rfl⟩ rfl rfl ?_
        refine Ur (i := 24) (d := 92) 15 rfl (by kernel_rfl) (by kernel_rfl) (by kernel_rfl) ⟨_, _, _, rfl, rfl, rfl, rfl⟩ rfl rfl ?_
        refine Ur (i := 25) (d := 93) 14 rfl (by kernel_rfl) (by kernel_rfl) (by kernel_rfl) ⟨_, _, _, rfl, rfl, rfl, rfl⟩ rfl rfl ?_
        refine Ur (i := 26) (d := 94) 13 rfl (by kernel_rfl) (by kernel_rfl) (by kernel_rfl) ⟨_, _, _, rfl, rfl, rfl, rfl⟩ rfl rfl ?_
        refine Ur (i := 27) (d := 95) 12 rfl (by kernel_rfl) (by kernel_rfl) (by kernel_rfl) ⟨_, _, _, rfl, rfl, rfl, rfl⟩ rfl rfl ?_
        refine Ur (i := 28) (d := 96) 11 rfl (by kernel_rfl) (by kernel_rfl) (by kernel_rfl) ⟨_, _, _, rfl, rfl, rfl, rfl⟩ rfl rfl ?_
        refine Ur (i := 29) (d := 97) 10 rfl (by kernel_rfl) (by kernel_rfl) (by kernel_rfl) ⟨_, _, _, rfl, rfl, rfl, rfl⟩ rfl rfl ?_
        refine wap 30 9 rfl (by kernel_rfl) (fun _ => U1e rfl rfl rfl) ?_
        refine wap 31 8 rfl (by kernel_rfl) (fun _ => run_move rfl rfl) ?_
        refine Ur (i := 32) (d := 100) 7 rfl (by kernel_rfl) (by kernel_rfl) (by kernel_rfl) ⟨_, _, _, rfl, rfl, rfl, rfl⟩ rfl rfl ?_
        refine Ur (i := 33) (d := 101) 6 rfl (by kernel_rfl) (by kernel_rfl) (by kernel_rfl) ⟨_, _, _, rfl, rfl, rfl, rfl⟩ rfl rfl ?_
        refine Ur (i := 34) (d := 102) 5 rfl (by kernel_rfl) (by kernel_rfl) (by kernel_rfl) ⟨_, _, _, rfl, rfl, rfl, rfl⟩ rfl rfl ?_
        refine Ur (i := 35) (d := 103) 4 rfl (by kernel_rfl) (by kernel_rfl) (by kernel_rfl) ⟨_, _, _, rfl, rfl, rfl, rfl⟩ rfl rfl ?_
        refine Ur (i := 36) (d := 104) 3 rfl (by kernel_rfl) (by kernel_rfl) (by kernel_rfl) ⟨_, _, _, rfl, rfl, rfl, rfl⟩ rfl rfl ?_
        refine Ur (i := 37) (d := 105) 2 rfl (by kernel_rfl) (by kernel_rfl) (by kernel_rfl) ⟨_, _, _, rfl, rfl, rfl, rfl⟩ rfl rfl ?_
        refine Ur (i := 38) (d := 106) 1 rfl (by kernel_rfl) (by kernel_rfl) (by kernel_rfl) ⟨_, _, _, rfl, rfl, rfl, rfl⟩ rfl rfl ?_
        refine wap 39 0 rfl (by kernel_rfl) (fun _ => U1e rfl rfl rfl) ?_
        refine Uu (by kernel_rfl) (fun w73 S76 => ?_)
        refine nmk [2, 4, 7, 107] rfl (U4 (U1h Z1gr rfl rfl rfl (U2 Z1gt Z1gu rfl rfl rfl (U1 rfl (wlr 0 rfl (run_build (l := [_, _]) rfl rfl st24 rfl rfl) (wlo 1 2 rfl rfl rfl (U7 (i := 2) (us := [_, _]) (l' := [_, _]) (H' := [_, _, _, _]) rfl rfl S76 rfl rfl rfl rfl sz24 rfl rfl rfl rfl ?_)))))))
        intro w74 S77; clear S76
        refine mvs 2 1 rfl rfl (U5 rfl (nmk [4, 5] rfl (U4 (Uk hC [_, _] rfl rfl ⟨⟨_, rfl, Up (us := [_, _]) uT24 rfl sz24 (S77.boxcs (i := 2) rfl ⟨rfl, rfl, trivial⟩)⟩, rfl, trivial⟩ ?_))))
        refine ⟨_, rfl, _, hle1, (S77.pick [] [] (by decide) trivial), ?_⟩
        rw [U26 (c := 8) (by unfold slE; rw [if_pos hok3, if_neg (by first | (unfold U3d; rw [decide_eq_true_iff]; omega) | (rw [U3a hab hxm (by omega), decide_eq_true_iff]; omega))]) (by decide)]
        exact U1z 8
       ·refine wat 9 30 rfl (by kernel_rfl) (fun _ _ _ hz Sz => .inl (U1d (e := 2) (k := 1) rfl rfl rfl uT150 sz3 (by first | rfl | omega) (by first | omega | (simp only [ls]; omega)))) ?_
        refine wat 10 29 rfl (by kernel_rfl) (fun _ _ _ hz Sz => .inl (U3 rfl rfl uT3 rfl (Sz.suf.boxc (i := 1) rfl rfl))) ?_
        refine wap 11 28 rfl (by kernel_rfl) (fun _ => U2k rfl rfl rfl) ?_
        refine wap 12 27 rfl (by kernel_rfl) (fun _ => U1r rfl rfl rfl) ?_
        refine wap 13 26 rfl (by kernel_rfl) (fun _ => run_move rfl rfl) ?_
        refine U21 (t := 81) rfl (fun hg81 => ?_) (fun hg81 => ?_)
        ·refine Ur (i := 14) (d := 82) 25 rfl (by kernel_rfl) (by kernel_rfl) (by kernel_rfl) ⟨_, _, _, rfl, rfl, rfl, rfl⟩ rfl rfl ?_
         refine Ur (i := 15) (d := 83) 24 rfl (by kernel_rfl) (by kernel_rfl) (by kernel_rfl) ⟨_, _, _, rfl, rfl, rfl, rfl⟩ rfl rfl ?_
         refine Ur (i := 16) (d := 84) 23 rfl (by kernel_rfl) (by kernel_rfl) (by kernel_rfl) ⟨_, _, _, rfl, rfl, rfl, rfl⟩ rfl rfl ?_
         refine Ur (i := 17) (d := 85) 22 rfl (by kernel_rfl) (by kernel_rfl) (by kernel_rfl) ⟨_, _, _, rfl, rfl, rfl, rfl⟩ rfl rfl ?_
         refine Ur (i := 18) (d := 86) 21 rfl (by kernel_rfl) (by kernel_rfl) (by kernel_rfl) ⟨_, _, _, rfl, rfl, rfl, rfl⟩ rfl rfl ?_
         refine Ur (i := 19) (d := 87) 20 rfl (by kernel_rfl) (by kernel_rfl) (by kernel_rfl) ⟨_, _, _, rfl, rfl, rfl, rfl⟩ rfl rfl ?_
         refine Ur (i := 20) (d := 88) 19 rfl (by kernel_rfl) (by kernel_rfl) (by kernel_rfl) ⟨_, _, _, rfl, rfl, rfl, rfl⟩ rfl rfl ?_
         refine wap 21 18 rfl (by kernel_rfl) (fun _ => U1e rfl rfl rfl) ?_
         refine wap 22 17 rfl (by kernel_rfl) (fun _ => run_move rfl rfl) ?_
         refine Ur (i := 23) (d := 91) 16 rfl (by kernel_rfl) (by kernel_rfl) (by kernel_rfl) ⟨_, _, _, rfl, rfl, rfl, rfl⟩ rfl rfl ?_
         refine Ur (i := 24) (d := 92) 15 rfl (by kernel_rfl) (by kernel_rfl) (by kernel_rfl) ⟨_, _, _, rfl, rfl, rfl, rfl⟩ rfl rfl ?_
         refine Ur (i := 25) (d := 93) 14 rfl (by kernel_rfl) (by kernel_rfl) (by kernel_rfl) ⟨_, _, _, rfl, rfl, rfl, rfl⟩ rfl rfl ?_
         refine Ur (i := 26) (d := 94) 13 rfl (by kernel_rfl) (by kernel_rfl) (by kernel_rfl) ⟨_, _, _, rfl, rfl, rfl, rfl⟩ rfl rfl ?_
         refine Ur (i := 27) (d := 95) 12 rfl (by kernel_rfl) (by kernel_rfl) (by kernel_rfl) ⟨_, _, _, rfl, rfl, rfl, rfl⟩ rfl rfl ?_
         refine Ur (i := 28) (d := 96) 11 rfl (by kernel_rfl) (by kernel_rfl) (by kernel_rfl) ⟨_, _, _, rfl, rfl, rfl, rfl⟩ rfl rfl ?_
         refine Ur (i := 29) (d := 97) 10 rfl (by kernel_rfl) (by kernel_rfl) (by kernel_rfl) ⟨_, _, _, rfl, rfl, rfl, rfl⟩ rfl rfl ?_
         refine wap 30 9 rfl (by kernel_rfl) (fun _ => U1e rfl rfl rfl) ?_
         refine wap 31 8 rfl (by kernel_rfl) (fun _ => run_move rfl rfl) ?_
         refine Ur (i := 32) (d := 100) 7 rfl (by kernel_rfl) (by kernel_rfl) (by kernel_rfl) ⟨_, _, _, rfl, rfl, rfl, rfl⟩ rfl rfl ?_
         refine Ur (i := 33) (d := 101) 6 rfl (by kernel_rfl) (by kernel_rfl) (by kernel_rfl) ⟨_, _, _, rfl, rfl, rfl, rfl⟩ rfl rfl ?_
         refine Ur (i := 34) (d := 102) 5 rfl (by kernel_rfl) (by kernel_rfl) (by kernel_rfl) ⟨_, _, _, rfl, rfl, rfl, rfl⟩ rfl rfl ?_
         refine Ur (i := 35) (d := 103) 4 rfl (by kernel_rfl) (by kernel_rfl) (by kernel_rfl) ⟨_, _, _, rfl, rfl, rfl, rfl⟩ rfl rfl ?_
         refine Ur (i := 36) (d := 104) 3 rfl (by kernel_rfl) (by kernel_rfl) (by kernel_rfl) ⟨_, _, _, rfl, rfl, rfl, rfl⟩ rfl rfl ?_
         refine Ur (i := 37) (d := 105) 2 rfl (by kernel_rfl) (by kernel_rfl) (by kernel_rfl) ⟨_, _, _, rfl, rfl, rfl, rfl⟩ rfl rfl ?_
         refine Ur (i := 38) (d := 106) 1 rfl (by kernel_rfl) (by kernel_rfl) (by kernel_rfl) ⟨_, _, _, rfl, rfl, rfl, rfl⟩ rfl rfl ?_
         refine wap 39 0 rfl (by kernel_rfl) (fun _ => U1e rfl rfl rfl) ?_
         refine Uu (by kernel_rfl) (fun w85 S88 => ?_)
         refine nmk [2, 4, 7, 107] rfl (U4 (U1h Z1gr rfl rfl rfl (U2 Z1gt Z1gu rfl rfl rfl (U1 rfl (wlr 0 rfl (run_build (l := [_, _]) rfl rfl st24 rfl rfl) (wlo 1 2 rfl rfl rfl (U7 (i := 2) (us := [_, _]) (l' := [_, _]) (H' := [_, _, _, _]) rfl rfl S88 rfl rfl rfl rfl sz24 rfl rfl rfl rfl ?_)))))))
         intro w86 S89; clear S88
         refine mvs 2 1 rfl rfl (U5 rfl (nmk [4, 5] rfl (U4 (Uk hC [_, _] rfl rfl ⟨⟨_, rfl, Up (us := [_, _]) uT24 rfl sz24 (S89.boxcs (i := 2) rfl ⟨rfl, rfl, trivial⟩)⟩, rfl, trivial⟩ ?_))))
         refine ⟨_, rfl, _, hle1, (S89.pick [] [] (by decide) trivial), ?_⟩
         rw [U26 (c := 8) (by unfold slE; rw [if_pos hok3, if_neg (by first | (unfold U3d; rw [decide_eq_true_iff]; omega) | (rw [U3a hab hxm (by omega), decide_eq_true_iff]; omega))]) (by decide)]
         exact U1z 8
        ·refine wap 14 25 rfl (by kernel_rfl) (fun _ => run_move rfl rfl) ?_
         refine wat 15 24 rfl (by kernel_rfl) (fun _ _ _ hz Sz => .inl (Ui (C := Uv) (i := 0) 0 rfl rfl rfl sl53 Sz.suf rfl (by first | rfl | omega) (by first | omega | (simp only [ls]; omega)))) ?_
         refine wat 16 23 rfl (by kernel_rfl) (fun _ _ _ hz Sz => .inl (U3 rfl rfl uT3 rfl (Sz.suf.rowc (i := 0) (e := 0) (j := 0) rfl (by first | omega | (simp only [ls]; omega)) rfl rfl))) ?_
         refine wap 17 22 rfl (by kernel_rfl) (fun _ => run_move rfl rfl) ?_
         refine wat 18 21 rfl (by kernel_rfl) (fun _ _ _ hz Sz => .inl (Ui (C := Uv) (i := 0) 1 rfl rfl rfl sl53 Sz.suf rfl (by first | rfl | omega) (by first | omega | (simp only [ls]; omega)))) ?_
         refine wat 19 20 rfl (by kernel_rfl) (fun _ _ _ hz Sz => .inl (U3 rfl rfl uT3 rfl (Sz.suf.rowc (i := 0) (e := 1) (j := 0) rfl (by first | omega | (simp only [ls]; omega)) rfl rfl))) ?_
         refine wap 20 19 rfl (by kernel_rfl) (fun _ => Uz rfl rfl rfl) ?_
         refine wap 21 18 rfl (by kernel_rfl) (fun _ => U1r rfl rfl rfl) ?_
         refine wap 22 17 rfl (by kernel_rfl) (fun _ => run_move rfl rfl) ?_
         refine U21 (t := 90) rfl (fun hg90 => ?_) (fun hg90 => ?_)
         ·refine Ur (i := 23) (d := 91) 16 rfl (by kernel_rfl) (by kernel_rfl) (by kernel_rfl) ⟨_, _, _, rfl, rfl, rfl, rfl⟩ rfl rfl ?_
          refine Ur (i := 24) (d := 92) 15 rfl (by kernel_rfl) (by kernel_rfl) (by kernel_rfl) ⟨_, _, _, rfl, rfl, rfl, rfl⟩ rfl rfl ?_
          refine Ur (i := 25) (d := 93) 14 rfl (by kernel_rfl) (by kernel_rfl) (by kernel_rfl) ⟨_, _, _, rfl, rfl, rfl, rfl⟩ rfl rfl ?_
          refine Ur (i := 26) (d := 94) 13 rfl (by kernel_rfl) (by kernel_rfl) (by kernel_rfl) ⟨_, _, _, rfl, rfl, rfl, rfl⟩ rfl rfl ?_
          refine Ur (i := 27) (d := 95) 12 rfl (by kernel_rfl) (by kernel_rfl) (by kernel_rfl) ⟨_, _, _, rfl, rfl, rfl, rfl⟩ rfl rfl ?_
          refine Ur (i := 28) (d := 96) 11 rfl (by kernel_rfl) (by kernel_rfl) (by kernel_rfl) ⟨_, _, _, rfl, rfl, rfl, rfl⟩ rfl rfl ?_
          refine Ur (i := 29) (d := 97) 10 rfl (by kernel_rfl) (by kernel_rfl) (by kernel_rfl) ⟨_, _, _, rfl, rfl, rfl, rfl⟩ rfl rfl ?_
          refine wap 30 9 rfl (by kernel_rfl) (fun _ => U1e rfl rfl rfl) ?_
          refine wap 31 8 rfl (by kernel_rfl) (fun _ => run_move rfl rfl) ?_
          refine Ur (i := 32) (d := 100) 7 rfl (by kernel_rfl) (by kernel_rfl) (by kernel_rfl) ⟨_, _, _, rfl, rfl, rfl, rfl⟩ rfl rfl ?_
          refine Ur (i := 33) (d := 101) 6 rfl (by kernel_rfl) (by kernel_rfl) (by kernel_rfl) ⟨_, _, _, rfl, rfl, rfl, rfl⟩ rfl rfl ?_
          refine Ur (i := 34) (d := 102) 5 rfl (by kernel_rfl) (by kernel_rfl) (by kernel_rfl) ⟨_, _, _, rfl, rfl, rfl, rfl⟩ rfl rfl ?_
          refine Ur (i := 35) (d := 103) 4 rfl (by kernel_rfl) (by kernel_rfl) (by kernel_rfl) ⟨_, _, _, rfl, rfl, rfl, rfl⟩ rfl rfl ?_
          refine Ur (i := 36) (d := 104) 3 rfl (by kernel_rfl) (by kernel_rfl) (by kernel_rfl) ⟨_, _, _, rfl, rfl, rfl, rfl⟩ rfl rfl ?_
          refine Ur (i := 37) (d := 105) 2 rfl (by kernel_rfl) (by kernel_rfl) (by kernel_rfl) ⟨_, _, _, rfl, rfl, rfl, rfl⟩ rfl rfl ?_
          refine Ur (i := 38) (d := 106) 1 rfl (by kernel_rfl) (by kernel_rfl) (by kernel_rfl) ⟨_, _, _, rfl, rfl, rfl, rfl⟩ rfl rfl ?_
          refine wap 39 0 rfl (by kernel_rfl) (fun _ => U1e rfl rfl rfl) ?_
          refine Uu (by kernel_rfl) (fun w99 S102 => ?_)
          refine nmk [2, 4, 7, 107] rfl (U4 (U1h Z1gr rfl rfl rfl (U2 Z1gt Z1gu rfl rfl rfl (U1 rfl (wlr 0 rfl (run_build (l := [_, _]) rfl rfl st24 rfl rfl) (wlo 1 2 rfl rfl rfl (U7 (i := 2) (us := [_, _]) (l' := [_, _]) (H' := [_, _, _, _]) rfl rfl S102 rfl rfl rfl rfl sz24 rfl rfl rfl rfl ?_)))))))
          intro w100 S103; clear S102
          refine mvs 2 1 rfl rfl (U5 rfl (nmk [4, 5] rfl (U4 (Uk hC [_, _] rfl rfl ⟨⟨_, rfl, Up (us := [_, _]) uT24 rfl sz24 (S103.boxcs (i := 2) rfl ⟨rfl, rfl, trivial⟩)⟩, rfl, trivial⟩ ?_))))
          refine ⟨_, rfl, _, hle1, (S103.pick [] [] (by decide) trivial), ?_⟩
          rw [U26 (c := 8) (by unfold slE; rw [if_pos hok3, if_neg (by first | (unfold U3d; rw [decide_eq_true_iff]; omega) | (rw [U3a hab hxm (by omega), decide_eq_true_iff]; omega))]) (by decide)]
          exact U1z 8
         ·refine wap 23 16 rfl (by kernel_rfl) (fun _ => run_move rfl rfl) ?_
          refine wat 24 15 rfl (by kernel_rfl) (fun _ _ _ hz Sz => .inl (Ui (C := Uv) (i := 0) 0 rfl rfl rfl sl53 Sz.suf rfl (by first | rfl | omega) (by first | omega | (simp only [ls]; omega)))) ?_
          refine wat 25 14 rfl (by kernel_rfl) (fun _ _ _ hz Sz => .inl (U3 rfl rfl uT3 rfl (Sz.suf.rowc (i := 0) (e := 0) (j := 0) rfl (by first | omega | (simp only [ls]; omega)) rfl rfl))) ?_
          refine wap 26 13 rfl (by kernel_rfl) (fun _ => run_move rfl rfl) ?_
          refine wat 27 12 rfl (by kernel_rfl) (fun _ _ _ hz Sz => .inl (Ui (C := Uv) (i := 0) 2 rfl rfl rfl sl53 Sz.suf rfl (by first | rfl | omega) (by first | omega | (simp only [ls]; omega)))) ?_
          refine wat 28 11 rfl (by kernel_rfl) (fun _ _ _ hz Sz => .inl (U3 rfl rfl uT3 rfl (Sz.suf.rowc (i := 0) (e := 2) (j := 0) rfl (by first | omega | (simp only [ls]; omega)) rfl rfl))) ?_
          refine wap 29 10 rfl (by kernel_rfl) (fun _ => Uz rfl rfl rfl) ?_
          refine wap 30 9 rfl (by kernel_rfl) (fun _ => U1r rfl rfl rfl) ?_
          refine wap 31 8 rfl (by kernel_rfl) (fun _ => run_move rfl rfl) ?_
          refine U21 (t := 99) rfl (fun hg99 => ?_) (fun hg99 => ?_)
          ·refine Ur (i := 32) (d := 100) 7 rfl (by kernel_rfl) (by kernel_rfl) (by kernel_rfl) ⟨_, _, _, rfl, rfl, rfl, rfl⟩ rfl rfl ?_
           refine Ur (i := 33) (d := 101) 6 rfl (by kernel_rfl) (by kernel_rfl) (by kernel_rfl) ⟨_, _, _, rfl, rfl, rfl, rfl⟩ rfl rfl ?_
           refine Ur (i := 34) (d := 102) 5 rfl (by kernel_rfl) (by kernel_rfl) (by kernel_rfl) ⟨_, _, _, rfl, rfl, rfl, rfl⟩ rfl rfl ?_
           refine Ur (i := 35) (d := 103) 4 rfl (by kernel_rfl) (by kernel_rfl) (by kernel_rfl) ⟨_, _, _, rfl, rfl, rfl, rfl⟩ rfl rfl ?_
           refine Ur (i := 36) (d := 104) 3 rfl (by kernel_rfl) (by kernel_rfl) (by kernel_rfl) ⟨_, _, _, rfl, rfl, rfl, rfl⟩ rfl rfl ?_
           refine Ur (i := 37) (d := 105) 2 rfl (by kernel_rfl) (by kernel_rfl) (by kernel_rfl) ⟨_, _, _, rfl, rfl, rfl, rfl⟩ rfl rfl ?_
           refine Ur (i := 38) (d := 106) 1 rfl (by kernel_rfl) (by kernel_rfl) (by kernel_rfl) ⟨_, _, _, rfl, rfl, rfl, rfl⟩ rfl rfl ?_
           refine wap 39 0 rfl (by kernel_rfl) (fun _ => U1e rfl rfl rfl) ?_
           refine Uu (by kernel_rfl) (fun w111 S114 => ?_)
           refine nmk [2, 4, 7, 107] rfl (U4 (U1h Z1gr rfl rfl rfl (U2 Z1gt Z1gu rfl rfl rfl (U1 rfl (wlr 0 rfl (run_build (l := [_, _]) rfl rfl st24 rfl rfl) (wlo 1 2 rfl rfl rfl (U7 (i := 2) (us := [_, _]) (l' := [_, _]) (H' := [_, _, _, _]) rfl rfl S114 rfl rfl rfl rfl sz24 rfl rfl rfl rfl ?_)))))))
           intro w112 S115; clear S114
           refine mvs 2 1 rfl rfl (U5 rfl (nmk [4, 5] rfl (U4 (Uk hC [_, _] rfl rfl ⟨⟨_, rfl, Up (us := [_, _]) uT24 rfl sz24 (S115.boxcs (i := 2) rfl ⟨rfl, rfl, trivial⟩)⟩, rfl, trivial⟩ ?_))))
           refine ⟨_, rfl, _, hle1, (S115.pick [] [] (by decide) trivial), ?_⟩
           rw [U26 (c := 8) (by unfold slE; rw [if_pos hok3, if_neg (by first | (unfold U3d; rw [decide_eq_true_iff]; omega) | (rw [U3a hab hxm (by omega), decide_eq_true_iff]; omega))]) (by decide)]
           exact U1z 8
          ·refine wap 32 7 rfl (by kernel_rfl) (fun _ => run_move rfl rfl) ?_
           refine wat 33 6 rfl (by kernel_rfl) (fun _ _ _ hz Sz => .inl (Ui (C := Uv) (i := 0) 1 rfl rfl rfl sl53 Sz.suf rfl (by first | rfl | omega) (by first | omega | (simp only [ls]; omega)))) ?_
           refine wat 34 5 rfl (by kernel_rfl) (fun _ _ _ hz Sz => .inl (U3 rfl rfl uT3 rfl (Sz.suf.rowc (i := 0) (e := 1) (j := 0) rfl (by first | omega | (simp only [ls]; omega)) rfl rfl))) ?_
           refine wap 35 4 rfl (by kernel_rfl) (fun _ => run_move rfl rfl) ?_
           refine wat 36 3 rfl (by kernel_rfl) (fun _ _ _ hz Sz => .inl (Ui (C := Uv) (i := 0) 2 rfl rfl rfl sl53 Sz.suf rfl (by first | rfl | omega) (by first | omega | (simp only [ls]; omega)))) ?_
           refine wat 37 2 rfl (by kernel_rfl) (fun _ _ _ hz Sz => .inl (U3 rfl rfl uT3 rfl (Sz.suf.rowc (i := 0) (e := 2) (j := 0) rfl (by first | omega | (simp only [ls]; omega)) rfl rfl))) ?_
           refine wap 38 1 rfl (by kernel_rfl) (fun _ => Uz rfl rfl rfl) ?_
           refine wap 39 0 rfl (by kernel_rfl) (fun _ => U1r rfl rfl rfl) ?_
           refine Uu (by kernel_rfl) (fun w121 S124 => ?_)
           refine nmk [2, 4, 7, 107] rfl (U4 ?_)
           refine Ue Z1gr Z1gs rfl rfl rfl rfl (fun hb107 => ?_) (fun hb107 => ?_)
           ·refine U2 Z1gt Z1gu rfl rfl rfl (U1 rfl (wlr 0 rfl (run_build (l := [_, _]) rfl rfl st24 rfl rfl) (wlo 1 2 rfl rfl rfl (U7 (i := 2) (us := [_, _]) (l' := [_, _]) (H' := [_, _, _, _]) rfl rfl S124 rfl rfl rfl rfl sz24 rfl rfl rfl rfl ?_))))
            intro w122 S125; clear S124
            refine mvs 2 1 rfl rfl (U5 rfl (nmk [4, 5] rfl (U4 (Uk hC [_, _] rfl rfl ⟨⟨_, rfl, Up (us := [_, _]) uT24 rfl sz24 (S125.boxcs (i := 2) rfl ⟨rfl, rfl, trivial⟩)⟩, rfl, trivial⟩ ?_))))
            refine ⟨_, rfl, _, hle1, (S125.pick [] [] (by decide) trivial), ?_⟩
            rw [U26 (c := 8) (by unfold slE; rw [if_pos hok3, if_neg (by first | (unfold U3d; rw [decide_eq_true_iff]; omega) | (rw [U3a hab hxm (by omega), decide_eq_true_iff]; omega))]) (by decide)]
            exact U1z 8
           ·refine Uf rfl (nmk [2, 4, 7] rfl (U4 (U2 Z1gv Z1gw rfl rfl rfl (U1 rfl (wlr 0 rfl (U8 (us := [_, _]) rfl rfl uT24 rfl sz24 (S124.boxcs (i := 3) rfl ⟨rfl, rfl, trivial⟩)) (wlo 1 2 rfl rfl rfl (wo_co rfl rfl rfl rfl rfl rfl rfl cf9 S124 (DgOwn_o d (hdcrs.mono S124.Uw) S124.lend) ?_)))))))
            intro vw123 w123 Nw123 S126 hRw123; clear S124
            obtain ⟨voc1, rfl, rfl⟩ := hRw123
            have S127 : SH _ _ _ [_, _, _, _, _] := S126; clear S126
            refine wlo 2 3 rfl rfl rfl (Uh (l := [_, _]) rfl rfl rfl zr24 rfl S127 ?_)
            intro gb5 w124 S128; clear S127
            refine wlo 3 4 rfl rfl rfl (U7 (i := 0) (us := [_, _]) (l' := [_, _]) (H' := [_, _, _, _, _, _]) rfl rfl S128 rfl rfl rfl rfl sz24 rfl (Uy (S128.one (i := 1) rfl) (Uy rfl rfl)) rfl rfl ?_)
            intro w125 S129; clear S128
            refine U5 rfl (nmk [2, 4, 7, 11] rfl (U4 (U2 Z1gx Z1gy rfl rfl rfl (U2 Z1gz Z1h0 rfl rfl rfl (U1 rfl (mvs 0 1 rfl rfl (U5 rfl (U4 ?_))))))))
            refine Uc Z1h1 2 rfl rfl rfl ?_
            refine U11 (fun mx_ ax_ wx_ => ∃ (k2 : Nat) (xs : List Cr), mx_ = 3 - k2 ∧ Env 161 [(2, .pointer (some ⟨gb1, 0, none⟩)), (4, .pointer (some ⟨gb2, 0, none⟩)), (7, .slice ((ga vs1 m.at_.toNat).A) (ga (U6 d) m.at_.toNat).length ((ga vs1 m.at_.toNat).c)), (11, .pointer (some ⟨gb5, 0, none⟩)), (12, .int .i64 (k2 : Int))] ax_ ∧ SH wx_ M1 X [Rs.box gb5 24 [voc1, .int .i64 d.loops], Rs.row cdCr voc1 xs, Rs.box gb2 24 [.slice none 0 0, .int .i64 0], Rs.box gb1 24 [.slice dcrsA d.crs.length dcrsc, .int .i64 d.loops]] ∧ k2 ≤ 3 ∧ xs = docN d (ga (U6 d) m.at_.toNat) k2) rfl ?_ ?_
            ·intro ax_ hax_
             refine ⟨_, ⟨0, d.crs, rfl, hax_.sub ⟨rfl, rfl, rfl, rfl, rfl, trivial⟩, S129.pick [0, 1, 4, 5] [_, _, _, _] (by decide) ⟨rfl, rfl, rfl, rfl, trivial⟩, ?hq3f0, ?hq3f1⟩⟩
             case hq3f0 => omega
             case hq3f1 => rfl
            ·rintro m2 a2 w126 ⟨k2, xs, rfl, he2, S130, hk2, hxs⟩
             clear S129
             refine U1u he2 (c := Z1h2) rfl ?_
             clear he2 a2
             have hxl : xs.length = d.crs.length := by rw [hxs]; exact docN_len _ _ _
             refine U2 Z1h3 Z1h4 rfl rfl rfl (U2 Z1h5 Z1h6 rfl rfl rfl (U1 rfl (mvs 0 1 rfl rfl (wlr 1 rfl (U17 rfl rfl rfl) (U5 rfl (nmk [2, 4, 7, 11, 12, 112] rfl (U4 ?_)))))))
             refine Ue Z1h7 Z1h8 rfl rfl rfl rfl (fun hb112 => ?_) (fun hb112 => ?_)
             ·refine Uf rfl (nmk [2, 4, 7, 11, 12] rfl (U4 (U2 Z1h9 Z1ha rfl rfl rfl (Uc Z1hb 3 rfl rfl rfl (U2 Z1hc Z1hd rfl rfl rfl ?_)))))
              have ho2 : okD d (ga (ga (U6 d) m.at_.toNat) k2) := hok _ (U2m (by omega))
              obtain ⟨ht1, ht2, _⟩ := endD hab ho2 true
              obtain ⟨hf1, hf2, _⟩ := endD hab ho2 false
              refine U1 rfl (mvs 0 2 rfl rfl (wlr 2 rfl (Uj (C := cdDa) k2 rfl rfl rfl sl141 (by first | rfl | omega) hr2 (by first | omega | (simp only [ls]; omega))) ?_))
              refine wlr 3 rfl (U0 rfl rfl uT26 rfl (ce3) (nf3)) (wlr 4 rfl (U3 rfl rfl uT3 rfl (hr2.cell S130.m (i := k2) (by first | omega | (simp only [ls]; omega)) 0 rfl rfl)) ?_)
              refine mvs 5 1 rfl rfl (U5 rfl (nmk [2, 4, 7, 11, 12, 13] rfl (U4 (U2 Z1he Z1hf rfl rfl rfl ?_))))
              refine ws_cut (fun ax_ wx_ => ∃ (gbp : Nat) (gbq : Nat), Env 161 [(2, .pointer (some ⟨gb1, 0, none⟩)), (4, .pointer (some ⟨gb2, 0, none⟩)), (7, .slice ((ga vs1 m.at_.toNat).A) (ga (U6 d) m.at_.toNat).length ((ga vs1 m.at_.toNat).c)), (11, .pointer (some ⟨gb5, 0, none⟩)), (12, .int .i64 (k2 : Int)), (13, .int .i64 ((ga (ga (U6 d) m.at_.toNat) k2).a)), (14, .pointer (some ⟨gbp, 0, none⟩)), (15, .pointer (some ⟨gbq, 0, none⟩))] ax_ ∧ SH wx_ M1 X [Rs.box gbp 120 [.int .i64 ((Ud d (ga (ga (U6 d) m.at_.toNat) k2).a true).1 : Int), .int .i64 ((Ud d (ga (ga (U6 d) m.at_.toNat) k2).a true).2 : Int)], Rs.box gbq 120 [.int .i64 ((Ud d (ga (ga (U6 d) m.at_.toNat) k2).a false).1 : Int), .int .i64 ((Ud d (ga (ga (U6 d) m.at_.toNat) k2).a false).2 : Int)], Rs.box gb5 24 [voc1, .int .i64 d.loops], Rs.row cdCr voc1 xs, Rs.box gb2 24 [.slice none 0 0, .int .i64 0], Rs.box gb1 24 [.slice dcrsA d.crs.length dcrsc, .int .i64 d.loops]]) ?_ ?_
              ·refine Ux rfl (by kernel_rfl) S130 10 rfl ?_
               clear S130
               refine wat 0 9 rfl (by kernel_rfl) (fun _ _ _ hz Sz => .inl (U8 (us := [_, _]) rfl rfl uT24 rfl sz24 (Sz.suf.boxcs (i := 3) rfl ⟨rfl, rfl, trivial⟩))) ?_
               refine wap 1 8 rfl (by kernel_rfl) (fun _ => run_move rfl rfl) ?_
               refine wat 2 7 rfl (by kernel_rfl) (fun _ _ _ hz Sz => Uq rfl rfl rfl rfl rfl cf60 Sz (U33 d ((ga (ga (U6 d) m.at_.toNat) k2).a) true ((hdcrs.mono (Hp.Ua hz Sz.mx)).mono Sz.Uw) Sz.lend)) ?_
               refine wat 3 6 rfl (by kernel_rfl) (fun _ _ _ hz Sz => .inl (U8 (us := [_, _]) rfl rfl uT24 rfl sz24 (Sz.suf.boxcs (i := 3) rfl ⟨rfl, rfl, trivial⟩))) ?_
               refine wap 4 5 rfl (by kernel_rfl) (fun _ => run_move rfl rfl) ?_
               refine wat 5 4 rfl (by kernel_rfl) (fun _ _ _ hz Sz => Uq rfl rfl rfl rfl rfl cf60 Sz (U33 d ((ga (ga (U6 d) m.at_.toNat) k2).a) false ((hdcrs.mono (Hp.Ua hz Sz.mx)).mono Sz.Uw) Sz.lend)) ?_
               refine wa_two (i := 6) (j := 7) 3 rfl rfl (by kernel_rfl) rfl rfl rfl rfl (fun w136 S140 => ?_) (fun w136 S140 => ?_)
               ·refine (Uh (l := [_, _]) rfl rfl rfl zr120 rfl S140 ?_)
                intro gb6 w137 S141; clear S140
                refine U10.grow [_] (Hp.le_refl _) S141 ?_; clear S141
                change WA _ _ _ _ _ _ _ _ _ _ _ _ [_, _, _, _, _]
                refine Um (i := 7) 2 rfl (by kernel_rfl) rfl rfl (fun w139 S143 => ?_)
                refine (Uh (l := [_, _]) rfl rfl rfl zr120 rfl S143 ?_)
                intro gb7 w140 S144; clear S143
                refine U10.grow [_, _] (Hp.le_refl _) S144 ?_; clear S144
                change WA _ _ _ _ _ _ _ _ _ _ _ _ [_, _, _, _, _, _]
                refine Um (i := 8) 1 rfl (by kernel_rfl) rfl rfl (fun w142 S146 => ?_)
                refine (U7 (i := 1) (us := [_, _]) (l' := [_, _]) (H' := [_, _, _, _, _, _]) rfl rfl S146 rfl rfl rfl rfl sz120 rfl rfl rfl rfl ?_)
                intro w143 S147; clear S146
                refine U10.grow [_, _] (Hp.le_refl _) S147 ?_; clear S147
                change WA _ _ _ _ _ _ _ _ _ _ _ _ [_, _, _, _, _, _]
                refine Um (i := 9) 0 rfl (by kernel_rfl) rfl rfl (fun w145 S149 => ?_)
                refine (U7 (i := 0) (us := [_, _]) (l' := [_, _]) (H' := [_, _, _, _, _, _]) rfl rfl S149 rfl rfl rfl rfl sz120 rfl rfl rfl rfl ?_)
                intro w146 S150; clear S149
                refine U10.grow [_, _] (Hp.le_refl _) S150 ?_; clear S150
                change WA _ _ _ _ _ _ _ _ _ _ _ _ [_, _, _, _, _, _]
                refine Uu (by kernel_rfl) (fun w147 S151 => ?_)
                refine U15 ?_
                intro ax_ hax_
                refine ⟨_, _, hax_.sub ⟨rfl, rfl, rfl, rfl, rfl, rfl, rfl, rfl, trivial⟩, S151.pick [1, 0, 2, 3, 4, 5] [_, _, _, _, _, _] (by decide) ⟨rfl, rfl, rfl, rfl, rfl, rfl, trivial⟩⟩
               ·refine (Uh (l := [_, _]) rfl rfl rfl zr120 rfl S140 ?_)
                intro gb8 w148 S152; clear S140
                refine U10.grow [_] (Hp.le_refl _) S152 ?_; clear S152
                change WA _ _ _ _ _ _ _ _ _ _ _ _ [_, _, _, _, _]
                refine Um (i := 6) 2 rfl (by kernel_rfl) rfl rfl (fun w150 S154 => ?_)
                refine (Uh (l := [_, _]) rfl rfl rfl zr120 rfl S154 ?_)
                intro gb9 w151 S155; clear S154
                refine U10.grow [_, _] (Hp.le_refl _) S155 ?_; clear S155
                change WA _ _ _ _ _ _ _ _ _ _ _ _ [_, _, _, _, _, _]
                refine Um (i := 8) 1 rfl (by kernel_rfl) rfl rfl (fun w153 S157 => ?_)
                refine (U7 (i := 0) (us := [_, _]) (l' := [_, _]) (H' := [_, _, _, _, _, _]) rfl rfl S157 rfl rfl rfl rfl sz120 rfl rfl rfl rfl ?_)
                intro w154 S158; clear S157
                refine U10.grow [_, _] (Hp.le_refl _) S158 ?_; clear S158
                change WA _ _ _ _ _ _ _ _ _ _ _ _ [_, _, _, _, _, _]
                refine Um (i := 9) 0 rfl (by kernel_rfl) rfl rfl (fun w156 S160 => ?_)
                refine (U7 (i := 1) (us := [_, _]) (l' := [_, _]) (H' := [_, _, _, _, _, _]) rfl rfl S160 rfl rfl rfl rfl sz120 rfl rfl rfl rfl ?_)
                intro w157 S161; clear S160
                refine U10.grow [_, _] (Hp.le_refl _) S161 ?_; clear S161
                change WA _ _ _ _ _ _ _ _ _ _ _ _ [_, _, _, _, _, _]
                refine Uu (by kernel_rfl) (fun w158 S162 => ?_)
                refine U15 ?_
                intro ax_ hax_
                refine ⟨_, _, hax_.sub ⟨rfl, rfl, rfl, rfl, rfl, rfl, rfl, rfl, trivial⟩, S162.pick [0, 1, 2, 3, 4, 5] [_, _, _, _, _, _] (by decide) ⟨rfl, rfl, rfl, rfl, rfl, rfl, trivial⟩⟩
              ·rintro a3 w127 ⟨gbp, gbq, he3, S131⟩
               clear S130
               refine nm_in he3 ?_
               clear he3 a3
               refine U4 (U2 Z1hg Z1hh rfl rfl rfl ?_)
               refine ws_cut (fun ax_ wx_ => ∃ (gbi : Nat) (gbf : Nat), Env 161 [(2, .pointer (some ⟨gb1, 0, none⟩)), (4, .pointer (some ⟨gb2, 0, none⟩)), (7, .slice ((ga vs1 m.at_.toNat).A) (ga (U6 d) m.at_.toNat).length ((ga vs1 m.at_.toNat).c)), (11, .pointer (some ⟨gb5, 0, none⟩)), (12, .int .i64 (k2 : Int)), (13, .int .i64 ((ga (ga (U6 d) m.at_.toNat) k2).a)), (14, .pointer (some ⟨gbp, 0, none⟩)), (15, .pointer (some ⟨gbq, 0, none⟩)), (16, .pointer (some ⟨gbi, 0, none⟩)), (17, .pointer (some ⟨gbf, 0, none⟩))] ax_ ∧ SH wx_ M1 X [Rs.box gbi 120 [.int .i64 ((Ud d (ga (ga (U6 d) m.at_.toNat) k2).a true).1 : Int), .int .i64 ((((Ud d (ga (ga (U6 d) m.at_.toNat) k2).a true).2 + 2) % 4 : Nat) : Int)], Rs.box gbf 120 [.int .i64 ((Ud d (ga (ga (U6 d) m.at_.toNat) k2).a false).1 : Int), .int .i64 ((((Ud d (ga (ga (U6 d) m.at_.toNat) k2).a false).2 + 2) % 4 : Nat) : Int)], Rs.box gbp 120 [.int .i64 ((Ud d (ga (ga (U6 d) m.at_.toNat) k2).a true).1 : Int), .int .i64 ((Ud d (ga (ga (U6 d) m.at_.toNat) k2).a true).2 : Int)], Rs.box gbq 120 [.int .i64 ((Ud d (ga (ga (U6 d) m.at_.toNat) k2).a false).1 : Int), .int .i64 ((Ud d (ga (ga (U6 d) m.at_.toNat) k2).a false).2 : Int)], Rs.box gb5 24 [voc1, .int .i64 d.loops], Rs.row cdCr voc1 xs, Rs.box gb2 24 [.slice none 0 0, .int .i64 0], Rs.box gb1 24 [.slice dcrsA d.crs.length dcrsc, .int .i64 d.loops]]) ?_ ?_
               ·refine Ux rfl (by kernel_rfl) S131 18 rfl ?_
                clear S131
                refine wap 0 17 rfl (by kernel_rfl) (fun _ => U0 rfl rfl uT120 rfl (ce3) (nf3)) ?_
                refine wat 1 16 rfl (by kernel_rfl) (fun _ _ _ hz Sz => .inl (U3 rfl rfl uT3 rfl (Sz.suf.boxc (i := 0) rfl rfl))) ?_
                refine wap 2 15 rfl (by kernel_rfl) (fun _ => U0 rfl rfl uT120 rfl (ce3) (nf3)) ?_
                refine wat 3 14 rfl (by kernel_rfl) (fun _ _ _ hz Sz => .inl (U3 rfl rfl uT3 rfl (Sz.suf.boxc (i := 0) rfl rfl))) ?_
                refine wap 4 13 rfl (by kernel_rfl) (fun _ => Ug rfl rfl rfl (by first | omega | (simp only [ls]; omega))) ?_
                refine wap 5 12 rfl (by kernel_rfl) (fun _ => U2i rfl rfl rfl (by first | omega | (simp only [ls]; omega))) ?_
                refine wa_eq 131 (.int .i64 ((((Ud d (ga (ga (U6 d) m.at_.toNat) k2).a true).2 + 2) % 4 : Nat) : Int)) rfl (int_eq (by omega)) ?_
                refine wat 6 11 rfl (by kernel_rfl) (fun _ _ _ hz Sz => .inl (run_build (l := [_, _]) rfl rfl st120 rfl rfl)) ?_
                refine wap 7 10 rfl (by kernel_rfl) (fun _ => U0 rfl rfl uT120 rfl (ce3) (nf3)) ?_
                refine wat 8 9 rfl (by kernel_rfl) (fun _ _ _ hz Sz => .inl (U3 rfl rfl uT3 rfl (Sz.suf.boxc (i := 1) rfl rfl))) ?_
                refine wap 9 8 rfl (by kernel_rfl) (fun _ => U0 rfl rfl uT120 rfl (ce3) (nf3)) ?_
                refine wat 10 7 rfl (by kernel_rfl) (fun _ _ _ hz Sz => .inl (U3 rfl rfl uT3 rfl (Sz.suf.boxc (i := 1) rfl rfl))) ?_
                refine wap 11 6 rfl (by kernel_rfl) (fun _ => Ug rfl rfl rfl (by first | omega | (simp only [ls]; omega))) ?_
                refine wap 12 5 rfl (by kernel_rfl) (fun _ => U2i rfl rfl rfl (by first | omega | (simp only [ls]; omega))) ?_
                refine wa_eq 138 (.int .i64 ((((Ud d (ga (ga (U6 d) m.at_.toNat) k2).a false).2 + 2) % 4 : Nat) : Int)) rfl (int_eq (by omega)) ?_
                refine wat 13 4 rfl (by kernel_rfl) (fun _ _ _ hz Sz => .inl (run_build (l := [_, _]) rfl rfl st120 rfl rfl)) ?_
                refine wa_two (i := 14) (j := 15) 3 rfl rfl (by kernel_rfl) rfl rfl rfl rfl (fun w176 S180 => ?_) (fun w176 S180 => ?_)
                ·refine (Uh (l := [_, _]) rfl rfl rfl zr120 rfl S180 ?_)
                 intro gb10 w177 S181; clear S180
                 refine U10.grow [_] (Hp.le_refl _) S181 ?_; clear S181
                 change WA _ _ _ _ _ _ _ _ _ _ _ _ [_, _, _, _, _, _, _]
                 refine Um (i := 15) 2 rfl (by kernel_rfl) rfl rfl (fun w179 S183 => ?_)
                 refine (Uh (l := [_, _]) rfl rfl rfl zr120 rfl S183 ?_)
                 intro gb11 w180 S184; clear S183
                 refine U10.grow [_, _] (Hp.le_refl _) S184 ?_; clear S184
                 change WA _ _ _ _ _ _ _ _ _ _ _ _ [_, _, _, _, _, _, _, _]
                 refine Um (i := 16) 1 rfl (by kernel_rfl) rfl rfl (fun w182 S186 => ?_)
                 refine (U7 (i := 1) (us := [_, _]) (l' := [_, _]) (H' := [_, _, _, _, _, _, _, _]) rfl rfl S186 rfl rfl rfl rfl sz120 rfl rfl rfl rfl ?_)
                 intro w183 S187; clear S186
                 refine U10.grow [_, _] (Hp.le_refl _) S187 ?_; clear S187
                 change WA _ _ _ _ _ _ _ _ _ _ _ _ [_, _, _, _, _, _, _, _]
                 refine Um (i := 17) 0 rfl (by kernel_rfl) rfl rfl (fun w185 S189 => ?_)
                 refine (U7 (i := 0) (us := [_, _]) (l' := [_, _]) (H' := [_, _, _, _, _, _, _, _]) rfl rfl S189 rfl rfl rfl rfl sz120 rfl rfl rfl rfl ?_)
                 intro w186 S190; clear S189
                 refine U10.grow [_, _] (Hp.le_refl _) S190 ?_; clear S190
                 change WA _ _ _ _ _ _ _ _ _ _ _ _ [_, _, _, _, _, _, _, _]
                 refine Uu (by kernel_rfl) (fun w187 S191 => ?_)
                 refine U15 ?_
                 intro ax_ hax_
                 refine ⟨_, _, hax_.sub ⟨rfl, rfl, rfl, rfl, rfl, rfl, rfl, rfl, rfl, rfl, trivial⟩, S191.pick [1, 0, 2, 3, 4, 5, 6, 7] [_, _, _, _, _, _, _, _] (by decide) ⟨rfl, rfl, rfl, rfl, rfl, rfl, rfl, rfl, trivial⟩⟩
                ·refine (Uh (l := [_, _]) rfl rfl rfl zr120 rfl S180 ?_)
                 intro gb12 w188 S192; clear S180
                 refine U10.grow [_] (Hp.le_refl _) S192 ?_; clear S192
                 change WA _ _ _ _ _ _ _ _ _ _ _ _ [_, _, _, _, _, _, _]
                 refine Um (i := 14) 2 rfl (by kernel_rfl) rfl rfl (fun w190 S194 => ?_)
                 refine (Uh (l := [_, _]) rfl rfl rfl zr120 rfl S194 ?_)
                 intro gb13 w191 S195; clear S194
                 refine U10.grow [_, _] (Hp.le_refl _) S195 ?_; clear S195
                 change WA _ _ _ _ _ _ _ _ _ _ _ _ [_, _, _, _, _, _, _, _]
                 refine Um (i := 16) 1 rfl (by kernel_rfl) rfl rfl (fun w193 S197 => ?_)
                 refine (U7 (i := 0) (us := [_, _]) (l' := [_, _]) (H' := [_, _, _, _, _, _, _, _]) rfl rfl S197 rfl rfl rfl rfl sz120 rfl rfl rfl rfl ?_)
                 intro w194 S198; clear S197
                 refine U10.grow [_, _] (Hp.le_refl _) S198 ?_; clear S198
                 change WA _ _ _ _ _ _ _ _ _ _ _ _ [_, _, _, _, _, _, _, _]
                 refine Um (i := 17) 0 rfl (by kernel_rfl) rfl rfl (fun w196 S200 => ?_)
                 refine (U7 (i := 1) (us := [_, _]) (l' := [_, _]) (H' := [_, _, _, _, _, _, _, _]) rfl rfl S200 rfl rfl rfl rfl sz120 rfl rfl rfl rfl ?_)
                 intro w197 S201; clear S200
                 refine U10.grow [_, _] (Hp.le_refl _) S201 ?_; clear S201
                 change WA _ _ _ _ _ _ _ _ _ _ _ _ [_, _, _, _, _, _, _, _]
                 refine Uu (by kernel_rfl) (fun w198 S202 => ?_)
                 refine U15 ?_
                 intro ax_ hax_
                 refine ⟨_, _, hax_.sub ⟨rfl, rfl, rfl, rfl, rfl, rfl, rfl, rfl, rfl, rfl, trivial⟩, S202.pick [0, 1, 2, 3, 4, 5, 6, 7] [_, _, _, _, _, _, _, _] (by decide) ⟨rfl, rfl, rfl, rfl, rfl, rfl, rfl, rfl, trivial⟩⟩
               ·rintro a4 w159 ⟨gbi, gbf, he4, S163⟩
                clear S131
                refine nm_in he4 ?_
                clear he4 a4
                refine U4 (U2 Z1hi Z1hj rfl rfl rfl (Ux rfl (by kernel_rfl) S163 6 rfl ?_))
                clear S163
                refine wat 0 5 rfl (by kernel_rfl) (fun _ _ _ hz Sz => .inl (U8 (us := [_, _]) rfl rfl uT24 rfl sz24 (Sz.suf.boxcs (i := 4) rfl ⟨rfl, rfl, trivial⟩))) ?_
                refine wat 1 4 rfl (by kernel_rfl) (fun _ _ _ hz Sz => .inl (U8 (us := [_, _]) rfl rfl uT120 rfl sz120 (Sz.suf.boxcs (i := 3) rfl ⟨rfl, rfl, trivial⟩))) ?_
                refine wat 2 3 rfl (by kernel_rfl) (fun _ _ _ hz Sz => .inl (U8 (us := [_, _]) rfl rfl uT24 rfl sz24 (Sz.suf.boxcs (i := 7) rfl ⟨rfl, rfl, trivial⟩))) ?_
                refine wat 3 2 rfl (by kernel_rfl) (fun _ _ _ hz Sz => .inl (U8 (us := [_, _]) rfl rfl uT120 rfl sz120 (Sz.suf.boxcs (i := 0) rfl ⟨rfl, rfl, trivial⟩))) ?_
                refine wat 4 1 rfl (by kernel_rfl) (fun _ _ _ hz Sz => Uq rfl rfl rfl rfl rfl cf72 Sz (ArcAt_q d ((Ud d (ga (ga (U6 d) m.at_.toNat) k2).a true).1) (((Ud d (ga (ga (U6 d) m.at_.toNat) k2).a true).2 + 2) % 4) ((hdcrs.mono (Hp.Ua hz Sz.mx)).mono Sz.Uw) (by omega) (by omega) Sz.lend)) ?_
                refine Um (i := 5) 0 rfl (by kernel_rfl) rfl rfl (fun w205 S209 => ?_)
                have S210 := S209.pick [5, 0, 1, 2, 3, 4, 6, 7] [_, _, _, _, _, _, _, _] (by decide) ⟨rfl, rfl, rfl, rfl, rfl, rfl, rfl, rfl, trivial⟩; clear S209
                have S211 : SH _ _ _ (Rs.bun [_] :: [_, _, _, _, _, _, _]) := SH.bunC (A := [_]) (B := [_, _, _, _, _, _, _]) S210; clear S210
                have S212 : SH _ _ _ [_, _, _, _, _, _, _, _] := S211.less (i := 0) rfl
                have hcall1 := RSet_b xs d.loops ((Ud d (ga (ga (U6 d) m.at_.toNat) k2).a false).1) ((Ud d (ga (ga (U6 d) m.at_.toNat) k2).a false).2) (U1g d ((Ud d (ga (ga (U6 d) m.at_.toNat) k2).a true).1) (((Ud d (ga (ga (U6 d) m.at_.toNat) k2).a true).2 + 2) % 4)) (by rw [hxl]; exact hf1) (by exact hf2) (S211.lend1 (i := 0) rfl); clear S212
                refine (wo_c1 (i := 0) rfl rfl rfl rfl rfl rfl rfl cf75 S211 rfl hcall1 ?_)
                intro vw206 w206 M140 rw206 hle142 S213 hR1; clear S211
                obtain ⟨huhMX1, hMX1, hR2⟩ := hR1
                rw [hMX1] at S213
                clear hMX1
                subst huhMX1
                subst hR2
                replace S213 : SH _ _ _ (Rs.bun [_] :: [_, _, _, _, _, _, _]) := S213
                have S214 : SH _ _ _ [_, _, _, _, _, _, _, _] := SH.U2y (A := [_]) (B := [_, _, _, _, _, _, _]) S213; clear S213
                refine U10.turn (by kernel_rfl) S214 ?_; clear S214
                change WA _ _ _ _ _ _ _ _ _ _ _ _ [_, _, _, _, _, _, _, _]
                refine Uu (by kernel_rfl) (fun w207 S215 => ?_)
                refine nmk [2, 4, 7, 11, 12, 13, 14, 16, 17] rfl (U4 (U2 Z1hk Z1hl rfl rfl rfl (U1 rfl (wlr 0 rfl (U8 (us := [_, _]) rfl rfl uT24 rfl sz24 (S215.boxcs (i := 5) rfl ⟨rfl, rfl, trivial⟩)) (wlr 1 rfl (U8 (us := [_, _]) rfl rfl uT120 rfl sz120 (S215.boxcs (i := 2) rfl ⟨rfl, rfl, trivial⟩)) (mvs 2 1 rfl rfl ?_))))))
                have S216 := S215.pick [0, 1, 2, 3, 4, 5, 6, 7] [_, _, _, _, _, _, _, _] (by decide) ⟨rfl, rfl, rfl, rfl, rfl, rfl, rfl, rfl, trivial⟩; clear S215
                have S217 : SH _ _ _ (Rs.bun [_] :: [_, _, _, _, _, _, _]) := SH.bunC (A := [_]) (B := [_, _, _, _, _, _, _]) S216; clear S216
                have S218 : SH _ _ _ [_, _, _, _, _, _, _, _] := S217.less (i := 0) rfl
                have hcall2 := RSet_b (U1c xs ((Ud d (ga (ga (U6 d) m.at_.toNat) k2).a false).1) ((Ud d (ga (ga (U6 d) m.at_.toNat) k2).a false).2) (U1g d ((Ud d (ga (ga (U6 d) m.at_.toNat) k2).a true).1) (((Ud d (ga (ga (U6 d) m.at_.toNat) k2).a true).2 + 2) % 4))) d.loops ((Ud d (ga (ga (U6 d) m.at_.toNat) k2).a false).1) (((Ud d (ga (ga (U6 d) m.at_.toNat) k2).a false).2 + 2) % 4) ((ga (ga (U6 d) m.at_.toNat) k2).a) (by rw [U1o, hxl]; exact hf1) (by omega) (S217.lend1 (i := 0) rfl); clear S218
                refine wlo 3 4 rfl rfl rfl (wo_c1 (i := 0) rfl rfl rfl rfl rfl rfl rfl cf75 S217 rfl hcall2 ?_)
                intro vw208 w208 M141 rw208 hle143 S219 hR3; clear S217
                obtain ⟨huhMX2, hMX2, hR4⟩ := hR3
                rw [hMX2] at S219
                clear hMX2
                subst huhMX2
                subst hR4
                replace S219 : SH _ _ _ (Rs.bun [_] :: [_, _, _, _, _, _, _]) := S219
                have S220 : SH _ _ _ [_, _, _, _, _, _, _, _] := SH.U2y (A := [_]) (B := [_, _, _, _, _, _, _]) S219; clear S219
                refine U5 rfl (nmk [2, 4, 7, 11, 12, 13, 14, 16, 17] rfl (U4 (U2 Z1hm Z1hn rfl rfl rfl (U1 rfl (wlr 0 rfl (U8 (us := [_, _]) rfl rfl uT24 rfl sz24 (S220.boxcs (i := 5) rfl ⟨rfl, rfl, trivial⟩)) (wlr 1 rfl (U8 (us := [_, _]) rfl rfl uT120 rfl sz120 (S220.boxcs (i := 1) rfl ⟨rfl, rfl, trivial⟩)) (mvs 2 1 rfl rfl ?_)))))))
                have S221 := S220.pick [0, 1, 2, 3, 4, 5, 6, 7] [_, _, _, _, _, _, _, _] (by decide) ⟨rfl, rfl, rfl, rfl, rfl, rfl, rfl, rfl, trivial⟩; clear S220
                have S222 : SH _ _ _ (Rs.bun [_] :: [_, _, _, _, _, _, _]) := SH.bunC (A := [_]) (B := [_, _, _, _, _, _, _]) S221; clear S221
                have S223 : SH _ _ _ [_, _, _, _, _, _, _, _] := S222.less (i := 0) rfl
                have hcall3 := RSet_b (U1c (U1c xs ((Ud d (ga (ga (U6 d) m.at_.toNat) k2).a false).1) ((Ud d (ga (ga (U6 d) m.at_.toNat) k2).a false).2) (U1g d ((Ud d (ga (ga (U6 d) m.at_.toNat) k2).a true).1) (((Ud d (ga (ga (U6 d) m.at_.toNat) k2).a true).2 + 2) % 4))) ((Ud d (ga (ga (U6 d) m.at_.toNat) k2).a false).1) (((Ud d (ga (ga (U6 d) m.at_.toNat) k2).a false).2 + 2) % 4) ((ga (ga (U6 d) m.at_.toNat) k2).a)) d.loops ((Ud d (ga (ga (U6 d) m.at_.toNat) k2).a true).1) (((Ud d (ga (ga (U6 d) m.at_.toNat) k2).a true).2 + 2) % 4) ((ga (ga (U6 d) m.at_.toNat) k2).a) (by rw [U1o, U1o, hxl]; exact ht1) (by omega) (S222.lend1 (i := 0) rfl); clear S223
                refine wlo 3 4 rfl rfl rfl (wo_c1 (i := 0) rfl rfl rfl rfl rfl rfl rfl cf75 S222 rfl hcall3 ?_)
                intro vw209 w209 M142 rw209 hle144 S224 hR5; clear S222
                obtain ⟨huhMX3, hMX3, hR6⟩ := hR5
                rw [hMX3] at S224
                clear hMX3
                subst huhMX3
                subst hR6
                replace S224 : SH _ _ _ (Rs.bun [_] :: [_, _, _, _, _, _, _]) := S224
                have S225 : SH _ _ _ [_, _, _, _, _, _, _, _] := SH.U2y (A := [_]) (B := [_, _, _, _, _, _, _]) S224; clear S224
                refine U5 rfl (nmk [2, 4, 7, 11, 12, 14, 17] rfl (U4 (Ux rfl (by kernel_rfl) S225 6 rfl ?_)))
                clear S225
                refine wat 0 5 rfl (by kernel_rfl) (fun _ _ _ hz Sz => .inl (U8 (us := [_, _]) rfl rfl uT24 rfl sz24 (Sz.suf.boxcs (i := 5) rfl ⟨rfl, rfl, trivial⟩))) ?_
                refine wat 1 4 rfl (by kernel_rfl) (fun _ _ _ hz Sz => .inl (U8 (us := [_, _]) rfl rfl uT120 rfl sz120 (Sz.suf.boxcs (i := 3) rfl ⟨rfl, rfl, trivial⟩))) ?_
                refine wat 2 3 rfl (by kernel_rfl) (fun _ _ _ hz Sz => .inl (U8 (us := [_, _]) rfl rfl uT24 rfl sz24 (Sz.suf.boxcs (i := 7) rfl ⟨rfl, rfl, trivial⟩))) ?_
                refine wat 3 2 rfl (by kernel_rfl) (fun _ _ _ hz Sz => .inl (U8 (us := [_, _]) rfl rfl uT120 rfl sz120 (Sz.suf.boxcs (i := 2) rfl ⟨rfl, rfl, trivial⟩))) ?_
                refine wat 4 1 rfl (by kernel_rfl) (fun _ _ _ hz Sz => Uq rfl rfl rfl rfl rfl cf72 Sz (ArcAt_q d ((Ud d (ga (ga (U6 d) m.at_.toNat) k2).a false).1) (((Ud d (ga (ga (U6 d) m.at_.toNat) k2).a false).2 + 2) % 4) ((hdcrs.mono (Hp.Ua hz Sz.mx)).mono Sz.Uw) (by omega) (by omega) Sz.lend)) ?_
                refine Um (i := 5) 0 rfl (by kernel_rfl) rfl rfl (fun w216 S232 => ?_)
                have S233 := S232.pick [0, 1, 2, 3, 4, 5, 6, 7] [_, _, _, _, _, _, _, _] (by decide) ⟨rfl, rfl, rfl, rfl, rfl, rfl, rfl, rfl, trivial⟩; clear S232
                have S234 : SH _ _ _ (Rs.bun [_] :: [_, _, _, _, _, _, _]) := SH.bunC (A := [_]) (B := [_, _, _, _, _, _, _]) S233; clear S233
                have S235 : SH _ _ _ [_, _, _, _, _, _, _, _] := S234.less (i := 0) rfl
                have hcall4 := RSet_b (U1c (U1c (U1c xs ((Ud d (ga (ga (U6 d) m.at_.toNat) k2).a false).1) ((Ud d (ga (ga (U6 d) m.at_.toNat) k2).a false).2) (U1g d ((Ud d (ga (ga (U6 d) m.at_.toNat) k2).a true).1) (((Ud d (ga (ga (U6 d) m.at_.toNat) k2).a true).2 + 2) % 4))) ((Ud d (ga (ga (U6 d) m.at_.toNat) k2).a false).1) (((Ud d (ga (ga (U6 d) m.at_.toNat) k2).a false).2 + 2) % 4) ((ga (ga (U6 d) m.at_.toNat) k2).a)) ((Ud d (ga (ga (U6 d) m.at_.toNat) k2).a true).1) (((Ud d (ga (ga (U6 d) m.at_.toNat) k2).a true).2 + 2) % 4) ((ga (ga (U6 d) m.at_.toNat) k2).a)) d.loops ((Ud d (ga (ga (U6 d) m.at_.toNat) k2).a true).1) ((Ud d (ga (ga (U6 d) m.at_.toNat) k2).a true).2) (U1g d ((Ud d (ga (ga (U6 d) m.at_.toNat) k2).a false).1) (((Ud d (ga (ga (U6 d) m.at_.toNat) k2).a false).2 + 2) % 4)) (by rw [U1o, U1o, U1o, hxl]; exact ht1) (by exact ht2) (S234.lend1 (i := 0) rfl); clear S235
                refine (wo_c1 (i := 0) rfl rfl rfl rfl rfl rfl rfl cf75 S234 rfl hcall4 ?_)
                intro vw217 w217 M149 rw217 hle151 S236 hR7; clear S234
                obtain ⟨huhMX4, hMX4, hR8⟩ := hR7
                rw [hMX4] at S236
                clear hMX4
                subst huhMX4
                subst hR8
                replace S236 : SH _ _ _ (Rs.bun [_] :: [_, _, _, _, _, _, _]) := S236
                have S237 : SH _ _ _ [_, _, _, _, _, _, _, _] := SH.U2y (A := [_]) (B := [_, _, _, _, _, _, _]) S236; clear S236
                refine U10.turn (by kernel_rfl) S237 ?_; clear S237
                change WA _ _ _ _ _ _ _ _ _ _ _ _ [_, _, _, _, _, _, _, _]
                refine Uu (by kernel_rfl) (fun w218 S238 => ?_)
                refine U12 (nmk [2, 4, 7, 11, 12] rfl (U4 (U1 rfl (mvs 0 1 rfl rfl (wlr 1 rfl (Ug rfl rfl rfl (by first | omega | (simp only [ls]; omega))) ?_)))))
                refine mvs 2 1 rfl rfl (U5 rfl (U15 ?_))
                intro ax_ hax_
                refine ⟨_, ?hq8m, ⟨k2 + 1, U1c (U1c (U1c (U1c xs ((Ud d (ga (ga (U6 d) m.at_.toNat) k2).a false).1) ((Ud d (ga (ga (U6 d) m.at_.toNat) k2).a false).2) (U1g d ((Ud d (ga (ga (U6 d) m.at_.toNat) k2).a true).1) (((Ud d (ga (ga (U6 d) m.at_.toNat) k2).a true).2 + 2) % 4))) ((Ud d (ga (ga (U6 d) m.at_.toNat) k2).a false).1) (((Ud d (ga (ga (U6 d) m.at_.toNat) k2).a false).2 + 2) % 4) ((ga (ga (U6 d) m.at_.toNat) k2).a)) ((Ud d (ga (ga (U6 d) m.at_.toNat) k2).a true).1) (((Ud d (ga (ga (U6 d) m.at_.toNat) k2).a true).2 + 2) % 4) ((ga (ga (U6 d) m.at_.toNat) k2).a)) ((Ud d (ga (ga (U6 d) m.at_.toNat) k2).a true).1) ((Ud d (ga (ga (U6 d) m.at_.toNat) k2).a true).2) (U1g d ((Ud d (ga (ga (U6 d) m.at_.toNat) k2).a false).1) (((Ud d (ga (ga (U6 d) m.at_.toNat) k2).a false).2 + 2) % 4)), rfl, hax_.sub ⟨rfl, rfl, rfl, rfl, rfl, trivial⟩, S238.pick [5, 0, 6, 7] [_, _, _, _] (by decide) ⟨rfl, rfl, rfl, rfl, trivial⟩, ?hq8f0, ?hq8f1⟩⟩
                case hq8f0 => omega
                case hq8f1 => (rw [hxs]; rfl)
                case hq8m => omega
             ·refine U16 rfl rfl (nmk [4, 11] rfl (U4 (U2 Z1ho Z1hp rfl rfl rfl ?_)))
              obtain rfl : k2 = 3 := by omega
              have hxl9 : xs.length = d.crs.length := by rw [hxs]; exact docN_len _ _ _
              refine U1 rfl (wlr 0 rfl (U8 (us := [_, _]) rfl rfl uT24 rfl sz24 (S130.boxcs (i := 0) rfl ⟨rfl, rfl, trivial⟩)) (wlo 1 2 rfl rfl rfl (U7 (i := 2) (us := [_, _]) (l' := [_, _]) (H' := [_, _, _, _]) rfl rfl S130 rfl rfl rfl rfl sz24 rfl (Uy (S130.one (i := 1) rfl) (Uy rfl rfl)) rfl rfl ?_)))
              intro w219 S239; clear S130
              refine mvs 2 1 rfl rfl (U5 rfl (nmk [4, 5] rfl (U4 ?_)))
              obtain ⟨M150, hle152, S240, ⟨A2, c2, e1, hr3⟩⟩ := S239.pubrow (i := 1) (H' := [_, _, _, _]) rfl rfl (by show _ * 40 ≤ _; first | omega | (simp only [ls]; omega))
              clear S239; subst e1
              replace hdcrs := hdcrs.mono (Hp.Ua hle152 S240.mx)
              replace hr1 := hr1.mono hle152
              replace hd1 := hd1.mono hle152
              replace hr2 := hr2.mono hle152
              refine Uk hC [_, _] rfl rfl ⟨⟨_, rfl, Up (us := [_, _]) uT24 rfl sz24 (S240.boxcs (i := 2) rfl ⟨rfl, rfl, trivial⟩)⟩, rfl, trivial⟩ ?_
              refine ⟨_, rfl, _, hle1.trans hle152, (S240.pick [] [] (by decide) trivial), ?_⟩
              have hsl : U3d d (ga (U6 d) m.at_.toNat) = true := by rw [U3a hab hxm (by omega), decide_eq_true_iff]; omega
              rw [mvR_ok (E := ⟨xs, d.loops⟩) (by unfold slE; rw [if_pos hok3, if_pos hsl]) (by unfold slD; rw [hxs, docN_eq hab hok 3 (by omega)])]
              exact ⟨_, _, rfl, hr3⟩
end Go.Proofs.YthppkofceancjaaGreat
