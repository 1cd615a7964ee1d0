/- Part 8 of the proof of the law MovesDo: the walks through its functions and the plain laws that they need. -/
import Derived.Test.YthppkofceancjaaGreatMvZ7
set_option linter.unusedSimpArgs false
set_option linter.unusedVariables false
noncomputable section
namespace Go.Proofs.YthppkofceancjaaGreat
open Go.ChangeShapes Go.WideShapes Go.ChangeAt Go.RowKit
def BnR (gb gs : Nat) (fV iV oV : Value) (D : Dg) (u : Value) (N : Hp) (r : Rs) : Prop := u = .tuple [].toArray ∧ ∃ A c, r = Rs.bun [Rs.box gb 67 [.pointer (some ⟨gs, 0, none⟩), fV], Rs.box gs 70 [.slice A D.crs.length c, .int .i64 D.loops, iV, oV]] ∧ RdA cdCr N A c D.crs
def takE (d : Dg) (gs : List Nat) : Int := if (tkD d (inG gs)).loops ≤ 16 then 0 else 2
def curlN (x : Cr) : Nat → Bool
 | 0 => false
 | k + 1 => curlN x k || decide (U24 x k = U24 x ((k + 1) % 4))
def uncE (d : Dg) (m : Mv) : Int := if 0 ≤ m.at_ ∧ m.at_ < (d.crs.length : Int) then (if curlN (ga d.crs m.at_.toNat) 4 = true then takE d [m.at_.toNat] else 8) else 3
def uncD (d : Dg) (m : Mv) : Dg := tkD d (inG [m.at_.toNat])
theorem and2_ok {b : Int} (h : 0 ≤ b ∧ b ≤ 3) : Value.bool (decide (IntKind.i64.wrap (((BitVec.ofInt 64 b &&& BitVec.ofInt 64 2).toNat : Nat) : Int) ≠ 0)) = .bool (decide (2 ≤ b)) := by
 obtain rfl | rfl | rfl | rfl : b = 0 ∨ b = 1 ∨ b = 2 ∨ b = 3 := by omega
 all_goals rfl
theorem and1_ok {b : Int} (h : 0 ≤ b ∧ b ≤ 3) : Value.bool (decide (IntKind.i64.wrap (((BitVec.ofInt 64 b &&& BitVec.ofInt 64 1).toNat : Nat) : Int) ≠ 0)) = .bool (decide (b % 2 = 1)) := by
 obtain rfl | rfl | rfl | rfl : b = 0 ∨ b = 1 ∨ b = 2 ∨ b = 3 := by omega
 all_goals rfl
noncomputable def Ztz:=Tryz.f116.body.getD .skip
def Zu0 := cL Ztz
def Zu1 := cR Ztz
def Zu2 := cL Zu1
def Zu3 := cR Zu1
set_option maxHeartbeats 1000000 in
set_option maxRecDepth 10000 in
theorem Take_m {w : World} {M : Hp} {X : Fr} (d : Dg) {ggb ggs : Nat} {vcr : Value} {iA oA fA : Option Addr} {ic oc fc : Nat} {fv : List SlV} (gone : List Int) {goneA : Option Addr} {gonec : Nat} (hsi : RdA cdPl M iA ic (tabL d false (4 * d.crs.length))) (hso : RdA cdPl M oA oc (tabL d true (4 * d.crs.length))) (hfa : RdA (cdV 141) M fA fc fv) (hfd : Rd2 cdDa M fv (U6 d)) (hgone : RdA Uv (M.un X.h) goneA gonec gone) {gs : List Nat} (hsq : gone = gs.map fun x : Nat => (x : Int)) (hn : d.crs.length ≤ 16) (hab : U1b d = true) (hlo : 0 ≤ d.loops ∧ d.loops ≤ 16) (S : SH w M X [Rs.bun [Rs.box ggb 67 [.pointer (some ⟨ggs, 0, none⟩), .slice fA fv.length fc], Rs.box ggs 70 [vcr, .int .i64 d.loops, .slice iA (tabL d false (4 * d.crs.length)).length ic, .slice oA (tabL d true (4 * d.crs.length)).length oc], Rs.row cdCr vcr d.crs]]) : Cm 116 [.pointer (some ⟨ggb, 0, none⟩), .slice goneA gone.length gonec] w M X (takE d gs) (BnR ggb ggs (.slice fA fv.length fc) (.slice iA (tabL d false (4 * d.crs.length)).length ic) (.slice oA (tabL d true (4 * d.crs.length)).length oc) (tkD d (inG gs))) := by
 unfold Cm
 replace S := S.unbun
 have rmhgone : gone.length * 8 ≤ 140737488355328 := hgone.room
 obtain ⟨cA, cc, ecr, _⟩ := S.sl (i := 2) rfl
 refine Uo (b := Ztz) Tryz.func116 rfl Tryz.ntmps116 rfl (fun C hC => (U14 [(0, _), (1, _)] ⟨rfl, rfl, trivial⟩ (U2 Zu0 Zu1 rfl rfl rfl (U1 rfl (mvs 0 1 rfl rfl (wlr 1 rfl (U9 rfl rfl) (wlr 2 rfl (U0 rfl rfl uT67 rfl (ce64) (nf64)) (wlr 3 rfl (U3 rfl rfl uT64 rfl (S.boxc (i := 0) rfl rfl)) (mvs 4 1 rfl rfl ?_)))))))))
 refine wlo 5 6 rfl rfl rfl (U2w rfl rfl rfl rfl rfl rfl rfl cf87 S (WithoutM_t d gone (SH.bxOf (N := []) (i := 1) S rfl (by rw [ecr])) (SH.rdOf (N := []) (i := 2) S rfl ecr (by show _ * 40 ≤ _; omega)) (hsi.mono (Hp.U1p _ _)) (hso.mono (Hp.U1p _ _)) (hgone.mono S.Uw) hsq hn hab (by omega) S.lend) ?_)
 intro vw1 w1 M1 hle1 S1 hRw1; clear S
 replace hsi := hsi.mono hle1
 replace hso := hso.mono hle1
 replace hfa := hfa.mono hle1
 replace hfd := hfd.mono hle1
 replace hgone := hgone.mono (Hp.Ua hle1 S1.mx)
 obtain ⟨A1, c1, rfl, hr1⟩ := hRw1
 refine wlo 6 7 rfl rfl rfl (Uh (l := [_, _]) rfl rfl rfl zr24 rfl S1 ?_)
 intro gb1 w2 S2; clear S1
 refine wlo 7 8 rfl rfl rfl (U7 (i := 0) (us := [_, _]) (l' := [_, _]) (H' := [_, _, _, _]) rfl rfl S2 rfl rfl rfl rfl sz24 rfl rfl rfl rfl ?_)
 intro w3 S3; clear S2
 refine U5 rfl (nmk [0, 4] rfl (U4 (U2 Zu2 Zu3 rfl rfl rfl (U1 rfl (wlr 0 rfl (U0 rfl rfl uT24 rfl (ce3) (nf3)) (wlr 1 rfl (U3 rfl rfl uT3 rfl (S3.boxc (i := 0) rfl rfl)) (wlr 2 rfl (U41 rfl rfl rfl) ?_)))))))
 refine Ut (t := 13) rfl (fun hn13 => ?_) (fun hn13 => ?_)
 ·refine wlo 3 4 rfl rfl rfl (U20 rfl rfl rfl rfl rfl rfl rfl cf109 S3 (U31 2 S3.lend) ?_)
  rintro _ w4 S4 rfl; clear S3
  refine U5 rfl (nmk [0, 4] rfl (U4 (Ux rfl (by kernel_rfl) S4 8 rfl ?_)))
  clear S4
  refine wap 0 7 rfl (by kernel_rfl) (fun _ => run_move rfl rfl) ?_
  refine wap 1 6 rfl (by kernel_rfl) (fun _ => U9 rfl rfl) ?_
  refine wap 2 5 rfl (by kernel_rfl) (fun _ => U0 rfl rfl uT67 rfl (ce64) (nf64)) ?_
  refine wat 3 4 rfl (by kernel_rfl) (fun _ _ _ hz Sz => .inl (U3 rfl rfl uT64 rfl (Sz.suf.boxc (i := 1) rfl rfl))) ?_
  refine wat 4 3 rfl (by kernel_rfl) (fun _ _ _ hz Sz => .inl (U8 (us := [_, _]) rfl rfl uT24 rfl sz24 (Sz.suf.boxcs (i := 0) rfl ⟨rfl, rfl, trivial⟩))) ?_
  refine wap 5 2 rfl (by kernel_rfl) (fun _ => U9 rfl rfl) ?_
  refine wap 6 1 rfl (by kernel_rfl) (fun _ => U0 rfl rfl uT70 rfl (ce24) (nf24)) ?_
  refine Um (i := 7) 0 rfl (by kernel_rfl) rfl rfl (fun w13 S13 => ?_)
  refine (U7 (i := 2) (us := [_, _]) (l' := [_, _, _, _]) (H' := [_, _, _, _]) rfl rfl S13 rfl rfl rfl rfl sz24 rfl rfl rfl rfl ?_)
  intro w14 S14; clear S13
  refine U10.turn (by kernel_rfl) S14 ?_; clear S14
  change WA _ _ _ _ _ _ _ _ _ _ _ _ [_, _, _, _]
  refine Uu (by kernel_rfl) (fun w15 S15 => ?_)
  refine U2j hC [] rfl trivial ?_
  have herr : takE d gs = 0 := by unfold takE; rw [if_pos hn13]
  refine .inl ⟨herr, _, rfl, _, _, hle1, (S15.pick [1, 2] [_, _] (by decide) ⟨rfl, rfl, trivial⟩).bun, ?_⟩
  exact ⟨rfl, _, _, rfl, hr1⟩
 ·have herr : takE d gs = 2 := by unfold takE; rw [if_neg hn13]
  refine U2e (k := 3) rfl rfl rfl rfl rfl rfl rfl cf109 S3 (U25 2 S3.lend) ?_
  intro w9 M9 hle9 S9
  subst hC
  exact .inr ⟨by rw [herr]; first | decide | assumption, by rw [herr], M9, (hle1).trans hle9, S9.pick [] [] (by decide) trivial⟩
noncomputable def Zu4:=Tryz.f68.body.getD .skip
def Zu5 := cL Zu4
def Zu6 := cR Zu4
def Zu7 := cL Zu6
def Zu8 := cR Zu6
def Zu9 := cL Zu8
def Zua := cR Zu8
def Zub := cL Zua
def Zuc := cR Zua
def Zud := cL Zuc
def Zue := cR Zuc
def Zuf := cL Zud
def Zug := cR Zud
def Zuh := cL Zug
def Zui := cL Zuh
def Zuj := cL Zui
def Zuk := cR Zui
def Zul := cL Zuk
def Zum := cR Zuk
def Zun := cL Zul
def Zuo := cR Zul
def Zup := cL Zum
def Zuq := cR Zum
def Zur := cL Zup
def Zus := cL Zur
def Zut := cR Zur
def Zuu := cL Zue
def Zuv := cR Zue
set_option maxHeartbeats 1000000 in
set_option maxRecDepth 10000 in
theorem Uncurl_m {w : World} {M : Hp} {X : Fr} (d : Dg) {ggb ggs : Nat} {vcr : Value} {iA oA fA : Option Addr} {ic oc fc : Nat} {fv : List SlV} (m : Mv) (hsi : RdA cdPl M iA ic (tabL d false (4 * d.crs.length))) (hso : RdA cdPl M oA oc (tabL d true (4 * d.crs.length))) (hfa : RdA (cdV 141) M fA fc fv) (hfd : Rd2 cdDa M fv (U6 d)) (hn : d.crs.length ≤ 16) (hab : U1b d = true) (hlo : 0 ≤ d.loops ∧ d.loops ≤ 16) (S : SH w M X [Rs.bun [Rs.box ggb 67 [.pointer (some ⟨ggs, 0, none⟩), .slice fA fv.length fc], Rs.box ggs 70 [vcr, .int .i64 d.loops, .slice iA (tabL d false (4 * d.crs.length)).length ic, .slice oA (tabL d true (4 * d.crs.length)).length oc], Rs.row cdCr vcr d.crs]]) : Cm 68 [.pointer (some ⟨ggb, 0, none⟩), .agg [.int .i64 m.kd, .int .i64 m.at_, .int .i64 m.by_, .int .i64 m.ua, .bool m.ub, .int .i64 m.va, .bool m.vb, .bool m.ov].toArray] w M X (uncE d m) (BnR ggb ggs (.slice fA fv.length fc) (.slice iA (tabL d false (4 * d.crs.length)).length ic) (.slice oA (tabL d true (4 * d.crs.length)).length oc) (uncD d m)) := by
 unfold Cm
 replace S := S.unbun
 obtain ⟨cA, cc, ecr, _⟩ := S.sl (i := 2) rfl
 refine Uo (b := Zu4) Tryz.func68 rfl Tryz.ntmps68 rfl (fun C hC => (U14 [(0, _), (1, _)] ⟨rfl, rfl, trivial⟩ (U2 Zu5 Zu6 rfl rfl rfl (U1 rfl (wlo 0 1 rfl rfl rfl (U18 (l := [_, _, _, _, _, _, _, _]) rfl rfl rfl rfl rfl S ?_))))))
 intro gb1 w1 S1; clear S
 refine U5 rfl (nmk [0, 3] rfl (U4 (U2 Zu7 Zu8 rfl rfl rfl (U1 rfl (mvs 0 1 rfl rfl (wlr 1 rfl (U0 rfl rfl uT28 rfl (ce3) (nf3)) (wlr 2 rfl (U3 rfl rfl uT3 rfl (S1.boxc (i := 0) rfl rfl)) (wlo 3 4 rfl rfl rfl (U20 rfl rfl rfl rfl rfl rfl rfl cf114 S1 (isCross_q d m.at_ (SH.bxOf (N := []) (i := 1) S1 rfl rfl) (SH.bxOf (N := []) (i := 2) S1 rfl (by rw [ecr])) (SH.rdOf (N := []) (i := 3) S1 rfl ecr (by show _ * 40 ≤ _; omega)) (hsi.mono (Hp.U1p _ _)) (hso.mono (Hp.U1p _ _)) (by omega) S1.lend) ?_)))))))))
 rintro _ w2 S2 rfl; clear S1
 refine Ut (t := 10) rfl (fun hn10 => ?_) (fun hn10 => ?_)
 ·refine wlo 4 5 rfl rfl rfl (U20 rfl rfl rfl rfl rfl rfl rfl cf109 S2 (U31 3 S2.lend) ?_)
  rintro _ w3 S3 rfl; clear S2
  refine U5 rfl (nmk [0, 3] rfl (U4 (U2 Zu9 Zua rfl rfl rfl (Ux rfl (by kernel_rfl) S3 14 rfl ?_))))
  clear S3
  refine wap 0 13 rfl (by kernel_rfl) (fun _ => run_move rfl rfl) ?_
  refine wap 1 12 rfl (by kernel_rfl) (fun _ => U9 rfl rfl) ?_
  refine wap 2 11 rfl (by kernel_rfl) (fun _ => U0 rfl rfl uT67 rfl (ce64) (nf64)) ?_
  refine wat 3 10 rfl (by kernel_rfl) (fun _ _ _ hz Sz => .inl (U3 rfl rfl uT64 rfl (Sz.suf.boxc (i := 1) rfl rfl))) ?_
  refine wap 4 9 rfl (by kernel_rfl) (fun _ => U9 rfl rfl) ?_
  refine wap 5 8 rfl (by kernel_rfl) (fun _ => U0 rfl rfl uT70 rfl (ce24) (nf24)) ?_
  refine wap 6 7 rfl (by kernel_rfl) (fun _ => U0 rfl rfl uT24 rfl (ce22) (nf22)) ?_
  refine wat 7 6 rfl (by kernel_rfl) (fun _ _ _ hz Sz => .inl (U3 rfl rfl uT22 rfl (Sz.suf.boxc (i := 2) rfl rfl))) ?_
  refine wap 8 5 rfl (by kernel_rfl) (fun _ => U0 rfl rfl uT28 rfl (ce3) (nf3)) ?_
  refine wat 9 4 rfl (by kernel_rfl) (fun _ _ _ hz Sz => .inl (U3 rfl rfl uT3 rfl (Sz.suf.boxc (i := 0) rfl rfl))) ?_
  refine wa_eq 21 (.int .i64 ((m.at_.toNat : Nat) : Int)) rfl (int_eq (by omega)) ?_
  refine wat 10 3 rfl (by kernel_rfl) (fun _ _ _ hz Sz => .inl (Ui (C := cdCr) (i := 3) m.at_.toNat rfl rfl rfl sl22 Sz.suf rfl (by first | rfl | omega) (by first | omega | (simp only [ls]; omega)))) ?_
  refine wat 11 2 rfl (by kernel_rfl) (fun _ _ _ hz Sz => .inl (U8 (us := [_, _, _, _, _]) rfl rfl uT77 rfl sz77 (Sz.suf.rowcs (i := 3) (e := m.at_.toNat) (j := 0) rfl (by first | omega | (simp only [ls]; omega)) ⟨rfl, rfl, rfl, rfl, rfl, trivial⟩))) ?_
  refine Um (i := 12) 1 rfl (by kernel_rfl) rfl rfl (fun w17 S17 => ?_)
  refine (Uh (l := [_, _, _, _, _]) rfl rfl rfl zr77 rfl S17 ?_)
  intro gb2 w18 S18; clear S17
  refine U10.grow [_] (Hp.le_refl _) S18 ?_; clear S18
  change WA _ _ _ _ _ _ _ _ _ _ _ _ [_, _, _, _, _]
  refine Um (i := 13) 0 rfl (by kernel_rfl) rfl rfl (fun w20 S20 => ?_)
  refine (U7 (i := 0) (us := [_, _, _, _, _]) (l' := [_, _, _, _, _]) (H' := [_, _, _, _, _]) rfl rfl S20 rfl rfl rfl rfl sz77 rfl rfl rfl rfl ?_)
  intro w21 S21; clear S20
  refine U10.grow [_] (Hp.le_refl _) S21 ?_; clear S21
  change WA _ _ _ _ _ _ _ _ _ _ _ _ [_, _, _, _, _]
  refine Uu (by kernel_rfl) (fun w22 S22 => ?_)
  refine nmk [0, 3, 4] rfl (U4 (U2 Zub Zuc rfl rfl rfl (U1 rfl (mvs 0 1 rfl rfl (U5 rfl (U4 (U2 Zud Zue rfl rfl rfl (U2 Zuf Zug rfl rfl rfl ?_))))))))
  refine U1 rfl (mvs 0 1 rfl rfl (U5 rfl (U4 (Uc Zuh 0 rfl rfl rfl ?_))))
  refine U11 (fun mx_ ax_ wx_ => ∃ (s9 : Nat), mx_ = 4 - s9 ∧ Env 47 [(0, .pointer (some ⟨ggb, 0, none⟩)), (3, .pointer (some ⟨gb1, 0, none⟩)), (4, .pointer (some ⟨gb2, 0, none⟩)), (5, .bool (curlN (ga d.crs m.at_.toNat) s9)), (24, .int .i64 (s9 : Int))] ax_ ∧ SH wx_ M X [Rs.box gb2 77 [.int .i64 ((ga d.crs m.at_.toNat).a), .int .i64 ((ga d.crs m.at_.toNat).b), .int .i64 ((ga d.crs m.at_.toNat).c), .int .i64 ((ga d.crs m.at_.toNat).d), .bool ((ga d.crs m.at_.toNat).plus)], Rs.box gb1 28 [.int .i64 m.kd, .int .i64 m.at_, .int .i64 m.by_, .int .i64 m.ua, .bool m.ub, .int .i64 m.va, .bool m.vb, .bool m.ov], Rs.box ggb 67 [.pointer (some ⟨ggs, 0, none⟩), .slice fA fv.length fc], Rs.box ggs 70 [vcr, .int .i64 d.loops, .slice iA (tabL d false (4 * d.crs.length)).length ic, .slice oA (tabL d true (4 * d.crs.length)).length oc], Rs.row cdCr vcr d.crs] ∧ s9 ≤ 4) rfl ?_ ?_
  ·intro ax_ hax_
   refine ⟨_, ⟨0, rfl, hax_.sub ⟨rfl, rfl, rfl, rfl, rfl, trivial⟩, S22.pick [0, 1, 2, 3, 4] [_, _, _, _, _] (by decide) ⟨rfl, rfl, rfl, rfl, rfl, trivial⟩, ?hq1f0⟩⟩
   case hq1f0 => omega
  ·rintro m1 a1 w23 ⟨s9, rfl, he1, S23, hs9⟩
   clear S22
   refine U1u he1 (c := Zui) rfl ?_
   clear he1 a1
   refine U2 Zuj Zuk rfl rfl rfl (U1 rfl (wlr 0 rfl (U17 rfl rfl rfl) (U5 rfl (U4 (U2 Zul Zum rfl rfl rfl ?_)))))
   refine Ue Zun Zuo rfl rfl rfl rfl (fun hb25 => ?_) (fun hb25 => ?_)
   ·refine Uf rfl (nmk [0, 3, 4, 5, 24] rfl (U4 (U2 Zup Zuq rfl rfl rfl (Uc Zur 1 rfl rfl rfl (U2 Zus Zut rfl rfl rfl (U1 rfl (mvs 0 2 rfl rfl (U5 rfl ?_))))))))
    refine nmk [0, 3, 4, 5, 24, 6] rfl (U4 (Ux rfl (by kernel_rfl) S23 13 rfl ?_))
    clear S23
    refine wap 0 12 rfl (by kernel_rfl) (fun _ => run_move rfl rfl) ?_
    refine wap 1 11 rfl (by kernel_rfl) (fun _ => run_move rfl rfl) ?_
    refine wa_split (t := 28) rfl (fun hg28 => ?_) (fun hg28 => ?_)
    ·refine Ur (i := 2) (d := 29) 10 rfl (by kernel_rfl) (by kernel_rfl) (by kernel_rfl) ⟨_, _, _, rfl, rfl, rfl, rfl⟩ rfl rfl ?_
     refine Ur (i := 3) (d := 30) 9 rfl (by kernel_rfl) (by kernel_rfl) (by kernel_rfl) ⟨_, _, _, rfl, rfl, rfl, rfl⟩ rfl rfl ?_
     refine Ur (i := 4) (d := 31) 8 rfl (by kernel_rfl) (by kernel_rfl) (by kernel_rfl) ⟨_, _, _, rfl, rfl, rfl, rfl⟩ rfl rfl ?_
     refine Ur (i := 5) (d := 32) 7 rfl (by kernel_rfl) (by kernel_rfl) (by kernel_rfl) ⟨_, _, _, rfl, rfl, rfl, rfl⟩ rfl rfl ?_
     refine Ur (i := 6) (d := 33) 6 rfl (by kernel_rfl) (by kernel_rfl) (by kernel_rfl) ⟨_, _, _, rfl, rfl, rfl, rfl⟩ rfl rfl ?_
     refine Ur (i := 7) (d := 34) 5 rfl (by kernel_rfl) (by kernel_rfl) (by kernel_rfl) ⟨_, _, _, rfl, rfl, rfl, rfl⟩ rfl rfl ?_
     refine Ur (i := 8) (d := 35) 4 rfl (by kernel_rfl) (by kernel_rfl) (by kernel_rfl) ⟨_, _, _, rfl, rfl, rfl, rfl⟩ rfl rfl ?_
     refine Ur (i := 9) (d := 36) 3 rfl (by kernel_rfl) (by kernel_rfl) (by kernel_rfl) ⟨_, _, _, rfl, rfl, rfl, rfl⟩ rfl rfl ?_
     refine Ur (i := 10) (d := 37) 2 rfl (by kernel_rfl) (by kernel_rfl) (by kernel_rfl) ⟨_, _, _, rfl, rfl, rfl, rfl⟩ rfl rfl ?_
     refine wap 11 1 rfl (by kernel_rfl) (fun _ => U1e rfl rfl rfl) ?_
     refine wap 12 0 rfl (by kernel_rfl) (fun _ => run_assign rfl rfl) ?_
     refine Uu (by kernel_rfl) (fun w28 S28 => ?_)
     refine U12 (nmk [0, 3, 4, 5, 24] rfl (U4 (ws_eq 5 (.bool (curlN (ga d.crs m.at_.toNat) (s9 + 1))) rfl (by show Value.bool _ = Value.bool (curlN _ s9 || _); rw [hg28]; rfl) ?_)))
     refine U1 rfl (wlr 0 rfl (Ug rfl rfl rfl (by first | omega | (simp only [ls]; omega))) ?_)
     refine mvs 1 1 rfl rfl (U5 rfl (U15 ?_))
     intro ax_ hax_
     refine ⟨_, ?hq2m, ⟨s9 + 1, rfl, hax_.sub ⟨rfl, rfl, rfl, rfl, rfl, trivial⟩, S28.pick [0, 1, 2, 3, 4] [_, _, _, _, _] (by decide) ⟨rfl, rfl, rfl, rfl, rfl, trivial⟩, ?hq2f0⟩⟩
     case hq2f0 => omega
     case hq2m => omega
    ·refine wat 2 10 rfl (by kernel_rfl) (fun _ _ _ hz Sz => .inl (U8 (us := [_, _, _, _, _]) rfl rfl uT77 rfl sz77 (Sz.suf.boxcs (i := 0) rfl ⟨rfl, rfl, rfl, rfl, rfl, trivial⟩))) ?_
     refine wap 3 9 rfl (by kernel_rfl) (fun _ => run_move rfl rfl) ?_
     refine wat 4 8 rfl (by kernel_rfl) (fun _ _ _ hz Sz => Uq rfl rfl rfl rfl rfl cf115 Sz (Arc_q (ga d.crs m.at_.toNat) s9 (by omega) Sz.lend)) ?_
     refine wat 5 7 rfl (by kernel_rfl) (fun _ _ _ hz Sz => .inl (U8 (us := [_, _, _, _, _]) rfl rfl uT77 rfl sz77 (Sz.suf.boxcs (i := 0) rfl ⟨rfl, rfl, rfl, rfl, rfl, trivial⟩))) ?_
     refine wap 6 6 rfl (by kernel_rfl) (fun _ => run_move rfl rfl) ?_
     refine wap 7 5 rfl (by kernel_rfl) (fun _ => Ug rfl rfl rfl (by first | omega | (simp only [ls]; omega))) ?_
     refine wap 8 4 rfl (by kernel_rfl) (fun _ => U2i rfl rfl rfl (by first | omega | (simp only [ls]; omega))) ?_
     refine wa_eq 35 (.int .i64 (((s9 + 1) % 4 : Nat) : Int)) rfl (int_eq (by omega)) ?_
     refine wat 9 3 rfl (by kernel_rfl) (fun _ _ _ hz Sz => Uq rfl rfl rfl rfl rfl cf115 Sz (Arc_q (ga d.crs m.at_.toNat) ((s9 + 1) % 4) (by omega) Sz.lend)) ?_
     refine wap 10 2 rfl (by kernel_rfl) (fun _ => Uz rfl rfl rfl) ?_
     refine wap 11 1 rfl (by kernel_rfl) (fun _ => U1r rfl rfl rfl) ?_
     refine wap 12 0 rfl (by kernel_rfl) (fun _ => run_assign rfl rfl) ?_
     refine Uu (by kernel_rfl) (fun w40 S40 => ?_)
     refine U12 (nmk [0, 3, 4, 5, 24] rfl (U4 (ws_eq 5 (.bool (curlN (ga d.crs m.at_.toNat) (s9 + 1))) rfl (by show Value.bool _ = Value.bool (curlN _ s9 || _); rw [hg28]; rfl) ?_)))
     refine U1 rfl (wlr 0 rfl (Ug rfl rfl rfl (by first | omega | (simp only [ls]; omega))) ?_)
     refine mvs 1 1 rfl rfl (U5 rfl (U15 ?_))
     intro ax_ hax_
     refine ⟨_, ?hq3m, ⟨s9 + 1, rfl, hax_.sub ⟨rfl, rfl, rfl, rfl, rfl, trivial⟩, S40.pick [0, 1, 2, 3, 4] [_, _, _, _, _] (by decide) ⟨rfl, rfl, rfl, rfl, rfl, trivial⟩, ?hq3f0⟩⟩
     case hq3f0 => omega
     case hq3m => omega
   ·refine U16 rfl rfl (nmk [0, 3, 5] rfl (U4 (U2 Zuu Zuv rfl rfl rfl ?_)))
    obtain rfl : s9 = 4 := by omega
    refine U1 rfl (mvs 0 1 rfl rfl ?_)
    refine U2x (t := 40) rfl (fun hn40 => ?_) (fun hn40 => ?_)
    ·refine wlo 1 2 rfl rfl rfl (U20 rfl rfl rfl rfl rfl rfl rfl cf109 S23 (U31 8 S23.lend) ?_)
     rintro _ w41 S41 rfl; clear S23
     refine U5 rfl (nmk [0, 3] rfl (U4 (U1 rfl (mvs 0 1 rfl rfl (wlr 1 rfl (U0 rfl rfl uT28 rfl (ce3) (nf3)) (wlr 2 rfl (U3 rfl rfl uT3 rfl (S41.boxc (i := 1) rfl rfl)) (U1t 44 (.int .i64 ((m.at_.toNat : Nat) : Int)) rfl (int_eq (by omega)) ?_)))))))
     refine wlo 3 4 rfl rfl rfl (U13 (C := Uv) (l := [_]) rfl rfl rfl rfl sl53 rfl rfl rfl rfl S41 ?_)
     intro gb3 w42 S42; clear S41
     by_cases herr046 : takE d [m.at_.toNat] = 0
     ·have S43 := S42.pick [3, 4, 5, 0, 1, 2] [_, _, _, _, _, _] (by decide) ⟨rfl, rfl, rfl, rfl, rfl, rfl, trivial⟩; clear S42
      have S44 : SH _ _ _ (Rs.bun [_, _, _] :: [_, _, _]) := SH.bunC (A := [_, _, _]) (B := [_, _, _]) S43; clear S43
      have S45 : SH _ _ _ [_, _, _, _] := S44.less (i := 0) rfl
      have hr1 := S45.lendBox (C := Uv) (z := ((m.at_.toNat : Nat) : Int)) (i := 1) rfl rfl (by decide)
      have hcall1 := Take_m d ([((m.at_.toNat : Nat) : Int)]) hsi hso hfa hfd hr1 (gs := [m.at_.toNat]) rfl hn hab hlo (S44.lend1 (i := 0) rfl)
      clear S45
      refine wlo 4 5 rfl rfl rfl (wo_c1 (i := 0) rfl rfl rfl rfl rfl rfl rfl cf116 S44 rfl (hcall1.ok herr046) ?_)
      intro vw43 w43 M30 rw43 hle31 S46 hR1; clear S44
      obtain ⟨rfl, A1, c1, rfl, hr2⟩ := hR1
      replace hsi := hsi.mono hle31
      replace hso := hso.mono hle31
      replace hfa := hfa.mono hle31
      replace hfd := hfd.mono hle31
      replace S46 : SH _ _ _ (Rs.bun [_, _] :: [_, _, _]) := S46
      have S47 : SH _ _ _ [_, _, _, _, _] := SH.U2y (A := [_, _]) (B := [_, _, _]) S46; clear S46
      refine U5 rfl (U2j hC [] rfl trivial ?_)
      have herr : uncE d m = 0 := by unfold uncE; rw [if_pos hn10, if_pos hn40]; exact herr046
      refine .inl ⟨herr, _, rfl, _, _, hle31, (S47.pick [0, 1] [_, _] (by decide) ⟨rfl, rfl, trivial⟩).bun, ?_⟩
      exact ⟨rfl, _, _, rfl, hr2⟩
     ·have herr : uncE d m = takE d [m.at_.toNat] := by unfold uncE; rw [if_pos hn10, if_pos hn40]
      have S48 := S42.pick [3, 4, 5, 0, 1, 2] [_, _, _, _, _, _] (by decide) ⟨rfl, rfl, rfl, rfl, rfl, rfl, trivial⟩; clear S42
      have S49 : SH _ _ _ (Rs.bun [_, _, _] :: [_, _, _]) := SH.bunC (A := [_, _, _]) (B := [_, _, _]) S48; clear S48
      have S50 : SH _ _ _ [_, _, _, _] := S49.less (i := 0) rfl
      have hr3 := S50.lendBox (C := Uv) (z := ((m.at_.toNat : Nat) : Int)) (i := 1) rfl rfl (by decide)
      have hcall2 := Take_m d ([((m.at_.toNat : Nat) : Int)]) hsi hso hfa hfd hr3 (gs := [m.at_.toNat]) rfl hn hab hlo (S49.lend1 (i := 0) rfl)
      refine U2e (k := 4) rfl rfl rfl rfl rfl rfl rfl cf116 S50 (hcall2.no herr046) ?_
      intro w9 M9 hle9 S9
      subst hC
      exact .inr ⟨by rw [herr]; first | decide | assumption, by rw [herr], M9, (Hp.le_refl _).trans hle9, S9.pick [] [] (by decide) trivial⟩
    ·have herr : uncE d m = 8 := by unfold uncE; rw [if_pos hn10, if_neg (by rw [hn40]; exact Bool.false_ne_true)]
     refine U2e (k := 1) rfl rfl rfl rfl rfl rfl rfl cf109 S23 (U25 8 S23.lend) ?_
     intro w9 M9 hle9 S9
     subst hC
     exact .inr ⟨by rw [herr]; first | decide | assumption, by rw [herr], M9, (Hp.le_refl _).trans hle9, S9.pick [] [] (by decide) trivial⟩
 ·have herr : uncE d m = 3 := by unfold uncE; rw [if_neg hn10]
  refine U2e (k := 4) rfl rfl rfl rfl rfl rfl rfl cf109 S2 (U25 3 S2.lend) ?_
  intro w9 M9 hle9 S9
  subst hC
  exact .inr ⟨by rw [herr]; first | decide | assumption, by rw [herr], M9, (Hp.le_refl _).trans hle9, S9.pick [] [] (by decide) trivial⟩
end Go.Proofs.YthppkofceancjaaGreat
namespace Go.Proofs.YthppkofceancjaaGreat
open Go.ChangeShapes Go.WideShapes Go.ChangeAt Go.RowKit
section
variable {P : Program} {o : Oper} {L : List (Nat × Value)} {w : World} {x y : Operand} {t t' src dst : TypeId} {a b : Int} {k k2 : IntKind}
theorem run_binK {bo : BinOp} {v : Value} (ho : o.op = .binOp bo t x y t') (hx : oev L x = some (.int k a)) (hy : oev L y = some (.int k2 b)) (h : ∀ w, (binOp bo t (.int k a) (.int k2 b)).run P w = .ok v w) : Run P o L w v w := by
  intro n c hc
  unfold execOp
  simp only [ho, hc.eval hx, hc.eval hy]
  have : ∀ w, (eqGuard bo t x y (.int k a) (.int k2 b)).run P w = .ok () w := by
    intro w
    unfold eqGuard
    split <;> simp
  simp [this, h]
theorem run_andK (ho : o.op = .binOp .and t x y t') (hx : oev L x = some (.int k a)) (hy : oev L y = some (.int k b)) : Run P o L w (.int k (k.wrap ((BitVec.ofInt k.bits a &&& BitVec.ofInt k.bits b).toNat : Nat))) w :=
  run_binK ho hx hy fun w => by simp [binOp, Op.intBits]
end
end Go.Proofs.YthppkofceancjaaGreat
namespace Go.Proofs.YthppkofceancjaaGreat
open Go.ChangeShapes Go.WideShapes Go.ChangeAt Go.RowKit
def U2d (b0 b1 a0 a1 : Int) (p : Bool) : Cr := if p = true then ⟨b0, a1, b1, a0, true⟩ else ⟨b0, a0, b1, a1, false⟩
noncomputable def Zuw:=Tryz.f113.body.getD .skip
def Zux := cL Zuw
def Zuy := cR Zuw
def Zuz := cL Zuy
def Zv0 := cR Zuy
def Zv1 := cL Zv0
def Zv2 := cR Zv0
def Zv3 := cL Zv1
def Zv4 := cR Zv1
def Zv5 := cL Zv4
def Zv6 := cR Zv4
def Zv7 := cL Zv2
def Zv8 := cR Zv2
set_option maxRecDepth 10000 in
theorem Make_q {w : World} {M : Hp} {X : Fr} (b0 b1 : Int) (a0 a1 : Int) (p : Bool) (S : SH w M X []) : Cq Tryz.prog 113 [.agg [.int .i64 b0, .int .i64 b1].toArray, .agg [.int .i64 a0, .int .i64 a1].toArray, .bool p] w M X (fun u => u = .agg (crF (U2d b0 b1 a0 a1 p)).toArray) := by
 unfold Cq
 refine Uo (b := Zuw) Tryz.func113 rfl Tryz.ntmps113 rfl (fun C hC => (U14 [(0, _), (1, _), (2, _)] ⟨rfl, rfl, rfl, trivial⟩ (U2 Zux Zuy rfl rfl rfl (U1 rfl (wlo 0 1 rfl rfl rfl (U18 (l := [_, _]) rfl rfl rfl rfl rfl S ?_))))))
 intro gb1 w1 S1; clear S
 refine wlo 1 2 rfl rfl rfl (U18 (l := [_, _]) rfl rfl rfl rfl rfl S1 ?_)
 intro gb2 w2 S2; clear S1
 refine wlo 2 3 rfl rfl rfl (Uh (l := [_, _, _, _, _]) rfl rfl rfl zr77 rfl S2 ?_)
 intro gb3 w3 S3; clear S2
 refine U5 rfl (nmk [2, 3, 4, 6] rfl (U4 (U2 Zuz Zv0 rfl rfl rfl (U1 rfl (wlr 0 rfl (U1d (e := 0) (k := 1) rfl rfl rfl uT128 sz3 (by first | rfl | omega) (by first | omega | (simp only [ls]; omega))) ?_)))))
 refine wlr 1 rfl (U3 rfl rfl uT3 rfl (S3.boxc (i := 2) rfl rfl)) (wlr 2 rfl (U1d (e := 1) (k := 1) rfl rfl rfl uT128 sz3 (by first | rfl | omega) (by first | omega | (simp only [ls]; omega))) ?_)
 refine wlr 3 rfl (U3 rfl rfl uT3 rfl (S3.boxc (i := 2) rfl rfl)) (wlr 4 rfl (U1d (e := 0) (k := 1) rfl rfl rfl uT128 sz3 (by first | rfl | omega) (by first | omega | (simp only [ls]; omega))) ?_)
 refine wlr 5 rfl (U3 rfl rfl uT3 rfl (S3.boxc (i := 1) rfl rfl)) (wlr 6 rfl (U1d (e := 1) (k := 1) rfl rfl rfl uT128 sz3 (by first | rfl | omega) (by first | omega | (simp only [ls]; omega))) ?_)
 refine wlr 7 rfl (U3 rfl rfl uT3 rfl (S3.boxc (i := 1) rfl rfl)) (mvs 8 1 rfl rfl (wlr 9 rfl (run_build (l := [_, _, _, _, _]) rfl rfl st77 rfl rfl) (wlo 10 11 rfl rfl rfl (Uh (l := [_, _, _, _, _]) rfl rfl rfl zr77 rfl S3 ?_))))
 intro gb4 w4 S4; clear S3
 refine wlo 11 12 rfl rfl rfl (U7 (i := 0) (us := [_, _, _, _, _]) (l' := [_, _, _, _, _]) (H' := [_, _, _, _]) rfl rfl S4 rfl rfl rfl rfl sz77 rfl rfl rfl rfl ?_)
 intro w5 S5; clear S4
 refine U5 rfl (nmk [2, 4, 6, 7] rfl (U4 (U2 Zv1 Zv2 rfl rfl rfl (U2 Zv3 Zv4 rfl rfl rfl (U1 rfl (mvs 0 1 rfl rfl (U5 rfl (nmk [4, 6, 7, 18] rfl ?_))))))))
 refine U4 ?_
 refine U19 Zv5 Zv6 rfl rfl rfl rfl (fun hb18 => ?_) (fun hb18 => ?_)
 ·have S6 := S5.pick [0, 1, 2, 3] [_, _, _, _] (by decide) ⟨rfl, rfl, rfl, rfl, trivial⟩; clear S5
  refine U29 [_] [_, _, _] rfl (by kernel_rfl) S6 8 rfl ?_
  clear S6
  change WA _ _ _ _ _ _ _ _ _ _ _ _ [_, _, _, _]
  refine wat 0 7 rfl (by kernel_rfl) (fun _ _ _ hz Sz => .inl (U1d (e := 1) (k := 1) rfl rfl rfl uT128 sz3 (by first | rfl | omega) (by first | omega | (simp only [ls]; omega)))) ?_
  refine wat 1 6 rfl (by kernel_rfl) (fun _ _ _ hz Sz => .inl (U3 rfl rfl uT3 rfl (Sz.suf.boxc (i := 1) rfl rfl))) ?_
  refine wat 2 5 rfl (by kernel_rfl) (fun _ _ _ hz Sz => .inl (U1d (e := 0) (k := 1) rfl rfl rfl uT128 sz3 (by first | rfl | omega) (by first | omega | (simp only [ls]; omega)))) ?_
  refine wat 3 4 rfl (by kernel_rfl) (fun _ _ _ hz Sz => .inl (U3 rfl rfl uT3 rfl (Sz.suf.boxc (i := 1) rfl rfl))) ?_
  refine wap 4 3 rfl (by kernel_rfl) (fun _ => U0 rfl rfl uT77 rfl (ce3) (nf3)) ?_
  refine Um (i := 5) 2 rfl (by kernel_rfl) rfl rfl (fun w12 S13 => ?_)
  refine (U7 (i := 0) (us := [_]) (l' := [_, _, _, _, _]) (H' := [_, _, _, _]) rfl rfl S13 rfl rfl rfl rfl sz3 rfl rfl rfl rfl ?_)
  intro w13 S14; clear S13
  refine U10.grow [_] (Hp.le_refl _) S14 ?_; clear S14
  change WA _ _ _ _ _ _ _ _ _ _ _ _ [_, _, _, _]
  refine wap 6 1 rfl (by kernel_rfl) (fun _ => U0 rfl rfl uT77 rfl (ce3) (nf3)) ?_
  refine Um (i := 7) 0 rfl (by kernel_rfl) rfl rfl (fun w16 S17 => ?_)
  refine (U7 (i := 0) (us := [_]) (l' := [_, _, _, _, _]) (H' := [_, _, _, _]) rfl rfl S17 rfl rfl rfl rfl sz3 rfl rfl rfl rfl ?_)
  intro w17 S18; clear S17
  refine U10.grow [_] (Hp.le_refl _) S18 ?_; clear S18
  change WA _ _ _ _ _ _ _ _ _ _ _ _ [_, _, _, _]
  refine Uu (by kernel_rfl) (fun w18 S19 => ?_)
  refine nmk [6, 7] rfl (U4 (U2 Zv7 Zv8 rfl rfl rfl (U1 rfl (wlr 0 rfl (U8 (us := [_, _, _, _, _]) rfl rfl uT77 rfl sz77 (S19.boxcs (i := 0) rfl ⟨rfl, rfl, rfl, rfl, rfl, trivial⟩)) (wlo 1 2 rfl rfl rfl (U7 (i := 1) (us := [_, _, _, _, _]) (l' := [_, _, _, _, _]) (H' := [_, _, _, _]) rfl rfl S19 rfl rfl rfl rfl sz77 rfl rfl rfl rfl ?_))))))
  intro w19 S20; clear S19
  refine U5 rfl (nmk [6] rfl (U4 (Uk hC [_] rfl rfl ⟨⟨_, rfl, Up (us := [_, _, _, _, _]) uT77 rfl sz77 (S20.boxcs (i := 1) rfl ⟨rfl, rfl, rfl, rfl, rfl, trivial⟩)⟩, trivial⟩ ?_)))
  exact ⟨_, rfl, (S20.pick [] [] (by decide) trivial), (by subst hb18; rfl)⟩
 ·refine Uf rfl (nmk [6, 7] rfl (U4 (U2 Zv7 Zv8 rfl rfl rfl (U1 rfl (wlr 0 rfl (U8 (us := [_, _, _, _, _]) rfl rfl uT77 rfl sz77 (S5.boxcs (i := 0) rfl ⟨rfl, rfl, rfl, rfl, rfl, trivial⟩)) (wlo 1 2 rfl rfl rfl (U7 (i := 1) (us := [_, _, _, _, _]) (l' := [_, _, _, _, _]) (H' := [_, _, _, _]) rfl rfl S5 rfl rfl rfl rfl sz77 rfl rfl rfl rfl ?_)))))))
  intro w20 S21; clear S5
  refine U5 rfl (nmk [6] rfl (U4 (Uk hC [_] rfl rfl ⟨⟨_, rfl, Up (us := [_, _, _, _, _]) uT77 rfl sz77 (S21.boxcs (i := 1) rfl ⟨rfl, rfl, rfl, rfl, rfl, trivial⟩)⟩, trivial⟩ ?_)))
  exact ⟨_, rfl, (S21.pick [] [] (by decide) trivial), (by subst hb18; rfl)⟩
theorem and2_iff {b : Int} (h : 0 ≤ b ∧ b ≤ 3) : IntKind.i64.wrap (((BitVec.ofInt 64 b &&& BitVec.ofInt 64 2).toNat : Nat) : Int) ≠ 0 ↔ 2 ≤ b := by
 have := and2_ok h
 injection this with h1
 exact decide_eq_decide.1 h1
def U34 (f0 f1 s0 s1 b : Int) : Cr := if 2 ≤ b then U2d s0 s1 f0 f1 (decide (b % 2 = 1)) else U2d f0 f1 s0 s1 (decide (b % 2 = 1))
def curE (d : Dg) (m : Mv) : Int := if (1 ≤ m.at_ ∧ m.at_ ≤ 2 * (d.crs.length : Int) ∨ m.at_ = 0 ∧ 0 < d.loops) ∧ 0 ≤ m.by_ ∧ m.by_ ≤ 3 then (if (d.crs.length : Int) < 16 then 0 else 2) else 3
def curD (d : Dg) (m : Mv) : Dg := if m.at_ = 0 then ⟨d.crs ++ [U34 (2 * (d.crs.length : Int) + 1) (2 * (d.crs.length : Int) + 2) (2 * (d.crs.length : Int) + 2) (2 * (d.crs.length : Int) + 1) m.by_], d.loops - 1⟩ else ⟨U1c d.crs (Ud d m.at_ false).1 (Ud d m.at_ false).2 (2 * (d.crs.length : Int) + 2) ++ [U34 m.at_ (2 * (d.crs.length : Int) + 1) (2 * (d.crs.length : Int) + 1) (2 * (d.crs.length : Int) + 2) m.by_], d.loops⟩
noncomputable def Zv9:=Tryz.f67.body.getD .skip
def Zva := cL Zv9
def Zvb := cR Zv9
def Zvc := cL Zvb
def Zvd := cR Zvb
def Zve := cL Zvd
def Zvf := cR Zvd
def Zvg := cL Zvf
def Zvh := cR Zvf
def Zvi := cL Zvh
def Zvj := cR Zvh
def Zvk := cL Zvj
def Zvl := cR Zvj
def Zvm := cL Zvl
def Zvn := cR Zvl
def Zvo := cL Zvm
def Zvp := cR Zvm
def Zvq := cL Zvp
def Zvr := cR Zvp
def Zvs := cL Zvq
def Zvt := cR Zvq
def Zvu := cL Zvn
def Zvv := cR Zvn
def Zvw := cL Zvu
def Zvx := cR Zvu
def Zvy := cL Zvx
def Zvz := cR Zvx
set_option maxHeartbeats 1000000 in
set_option maxRecDepth 10000 in
theorem Curl_m {w : World} {M : Hp} {X : Fr} (d : Dg) {ggb ggs : Nat} {vcr : Value} {iA oA fA : Option Addr} {ic oc fc : Nat} {fv : List SlV} (m : Mv) (hsi : RdA cdPl M iA ic (tabL d false (4 * d.crs.length))) (hso : RdA cdPl M oA oc (tabL d true (4 * d.crs.length))) (hfa : RdA (cdV 141) M fA fc fv) (hfd : Rd2 cdDa M fv (U6 d)) (hn : d.crs.length ≤ 16) (hab : U1b d = true) (hlo : 0 ≤ d.loops ∧ d.loops ≤ 16) (S : SH w M X [Rs.bun [Rs.box ggb 67 [.pointer (some ⟨ggs, 0, none⟩), .slice fA fv.length fc], Rs.box ggs 70 [vcr, .int .i64 d.loops, .slice iA (tabL d false (4 * d.crs.length)).length ic, .slice oA (tabL d true (4 * d.crs.length)).length oc], Rs.row cdCr vcr d.crs]]) : Cm 67 [.pointer (some ⟨ggb, 0, none⟩), .agg [.int .i64 m.kd, .int .i64 m.at_, .int .i64 m.by_, .int .i64 m.ua, .bool m.ub, .int .i64 m.va, .bool m.vb, .bool m.ov].toArray] w M X (curE d m) (BnR ggb ggs (.slice fA fv.length fc) (.slice iA (tabL d false (4 * d.crs.length)).length ic) (.slice oA (tabL d true (4 * d.crs.length)).length oc) (curD d m)) := by
 unfold Cm
 replace S := S.unbun
 obtain ⟨cA, cc, ecr, _⟩ := S.sl (i := 2) rfl
 refine Uo (b := Zv9) Tryz.func67 rfl Tryz.ntmps67 rfl (fun C hC => (U14 [(0, _), (1, _)] ⟨rfl, rfl, trivial⟩ (U2 Zva Zvb rfl rfl rfl (U1 rfl (wlo 0 1 rfl rfl rfl (U18 (l := [_, _, _, _, _, _, _, _]) rfl rfl rfl rfl rfl S ?_))))))
 intro gb1 w1 S1; clear S
 refine U5 rfl (nmk [0, 3] rfl (U4 (U2 Zvc Zvd rfl rfl rfl (U1 rfl (wlr 0 rfl (U0 rfl rfl uT28 rfl (ce3) (nf3)) (wlr 1 rfl (U3 rfl rfl uT3 rfl (S1.boxc (i := 0) rfl rfl)) (wlr 2 rfl (Uz rfl rfl rfl) (mvs 3 1 rfl rfl ?_))))))))
 refine Ut (t := 12) rfl (fun hg12 => ?_) (fun hg12 => ?_)
 ·refine mvs 4 1 rfl rfl (wlg 5 6 rfl rfl rfl rfl rfl rfl rfl rfl (Ub rfl rfl (U9 rfl rfl) (wlg 6 7 rfl rfl rfl rfl rfl rfl rfl rfl (Ub rfl rfl (U0 rfl rfl uT67 rfl (ce64) (nf64)) (wlg 7 8 rfl rfl rfl rfl rfl rfl rfl rfl (Ub rfl rfl (U3 rfl rfl uT64 rfl (S1.boxc (i := 1) rfl rfl)) (wlg 8 9 rfl rfl rfl rfl rfl rfl rfl rfl (Ub rfl rfl (U9 rfl rfl) (wlg 9 10 rfl rfl rfl rfl rfl rfl rfl rfl (Ub rfl rfl (U0 rfl rfl uT70 rfl (ce24) (nf24)) (wlg 10 11 rfl rfl rfl rfl rfl rfl rfl rfl (Ub rfl rfl (U0 rfl rfl uT24 rfl (ce3) (nf3)) (wlg 11 12 rfl rfl rfl rfl rfl rfl rfl rfl (Ub rfl rfl (U3 rfl rfl uT3 rfl (S1.boxc (i := 2) rfl rfl)) (wlg 12 13 rfl rfl rfl rfl rfl rfl rfl rfl (Ub rfl rfl (run_gtr rfl rfl rfl) ?_))))))))))))))))
  refine mvs 13 2 rfl rfl (U5 rfl (nmk [0, 3, 4] rfl (U4 (U2 Zve Zvf rfl rfl rfl (Ux rfl (by kernel_rfl) S1 21 rfl ?_)))))
  clear S1
  refine wap 0 20 rfl (by kernel_rfl) (fun _ => run_move rfl rfl) ?_
  refine wap 1 19 rfl (by kernel_rfl) (fun _ => U9 rfl rfl) ?_
  refine wap 2 18 rfl (by kernel_rfl) (fun _ => U0 rfl rfl uT67 rfl (ce64) (nf64)) ?_
  refine wat 3 17 rfl (by kernel_rfl) (fun _ _ _ hz Sz => .inl (U3 rfl rfl uT64 rfl (Sz.suf.boxc (i := 1) rfl rfl))) ?_
  refine wap 4 16 rfl (by kernel_rfl) (fun _ => U0 rfl rfl uT28 rfl (ce3) (nf3)) ?_
  refine wat 5 15 rfl (by kernel_rfl) (fun _ _ _ hz Sz => .inl (U3 rfl rfl uT3 rfl (Sz.suf.boxc (i := 0) rfl rfl))) ?_
  refine wat 6 14 rfl (by kernel_rfl) (fun _ _ _ hz Sz => Uq rfl rfl rfl rfl rfl cf110 Sz (IsArcM_q d m.at_ (SH.bxOf (i := 2) Sz rfl (by rw [ecr])) (SH.rdOf (i := 3) Sz rfl ecr (by show _ * 40 ≤ _; omega)) ((hsi.mono hz).mono (Hp.U1p _ _)) ((hso.mono hz).mono (Hp.U1p _ _)) (by omega) Sz.lend)) ?_
  refine wap 7 13 rfl (by kernel_rfl) (fun _ => run_move rfl rfl) ?_
  refine U21 (t := 30) rfl (fun hg30 => ?_) (fun hg30 => ?_)
  ·exfalso; omega
  ·refine wap 8 12 rfl (by kernel_rfl) (fun _ => run_move rfl rfl) ?_
   refine wap 9 11 rfl (by kernel_rfl) (fun _ => U1r rfl rfl rfl) ?_
   refine wap 10 10 rfl (by kernel_rfl) (fun _ => run_move rfl rfl) ?_
   refine U21 (t := 33) rfl (fun hg33 => ?_) (fun hg33 => ?_)
   ·refine wap 11 9 rfl (by kernel_rfl) (fun _ => U0 rfl rfl uT28 rfl (ce3) (nf3)) ?_
    refine wat 12 8 rfl (by kernel_rfl) (fun _ _ _ hz Sz => .inl (U3 rfl rfl uT3 rfl (Sz.suf.boxc (i := 0) rfl rfl))) ?_
    refine wap 13 7 rfl (by kernel_rfl) (fun _ => U2q rfl rfl rfl) ?_
    refine wap 14 6 rfl (by kernel_rfl) (fun _ => U1e rfl rfl rfl) ?_
    refine wap 15 5 rfl (by kernel_rfl) (fun _ => run_move rfl rfl) ?_
    refine U21 (t := 38) rfl (fun hg38 => ?_) (fun hg38 => ?_)
    ·refine wap 16 4 rfl (by kernel_rfl) (fun _ => U0 rfl rfl uT28 rfl (ce3) (nf3)) ?_
     refine wat 17 3 rfl (by kernel_rfl) (fun _ _ _ hz Sz => .inl (U3 rfl rfl uT3 rfl (Sz.suf.boxc (i := 0) rfl rfl))) ?_
     refine wap 18 2 rfl (by kernel_rfl) (fun _ => U41 rfl rfl rfl) ?_
     refine wap 19 1 rfl (by kernel_rfl) (fun _ => U1e rfl rfl rfl) ?_
     refine U21 (t := 42) rfl (fun hn42 => ?_) (fun hn42 => ?_)
     ·refine wat 20 0 rfl (by kernel_rfl) (fun _ _ _ hz Sz => Uq rfl rfl rfl rfl rfl cf109 Sz (U31 3 Sz.lend)) ?_
      refine Uu (by kernel_rfl) (fun w24 S24 => ?_)
      refine nmk [0, 3, 4] rfl (U4 (U2 Zvg Zvh rfl rfl rfl (U1 rfl (mvs 0 1 rfl rfl (wlr 1 rfl (U9 rfl rfl) (wlr 2 rfl (U0 rfl rfl uT67 rfl (ce64) (nf64)) (wlr 3 rfl (U3 rfl rfl uT64 rfl (S24.boxc (i := 1) rfl rfl)) (wlr 4 rfl (U9 rfl rfl) ?_))))))))
      refine wlr 5 rfl (U0 rfl rfl uT70 rfl (ce24) (nf24)) (wlr 6 rfl (U0 rfl rfl uT24 rfl (ce22) (nf22)) (wlr 7 rfl (U3 rfl rfl uT22 rfl (S24.boxc (i := 2) rfl rfl)) (wlr 8 rfl (U38 (C := cdCr) (i := 3) rfl rfl rfl rfl rfl rfl sl22 S24 rfl) (wlr 9 rfl (U17 rfl rfl rfl) ?_))))
      refine Ut (t := 53) rfl (fun hn53 => ?_) (fun hn53 => ?_)
      ·refine wlo 10 11 rfl rfl rfl (U20 rfl rfl rfl rfl rfl rfl rfl cf109 S24 (U31 2 S24.lend) ?_)
       rintro _ w25 S25 rfl; clear S24
       refine U5 rfl (nmk [0, 3, 4] rfl (U4 (U2 Zvi Zvj rfl rfl rfl (Ux rfl (by kernel_rfl) S25 14 rfl ?_))))
       clear S25
       refine wap 0 13 rfl (by kernel_rfl) (fun _ => run_move rfl rfl) ?_
       refine wap 1 12 rfl (by kernel_rfl) (fun _ => U9 rfl rfl) ?_
       refine wap 2 11 rfl (by kernel_rfl) (fun _ => U0 rfl rfl uT67 rfl (ce64) (nf64)) ?_
       refine wat 3 10 rfl (by kernel_rfl) (fun _ _ _ hz Sz => .inl (U3 rfl rfl uT64 rfl (Sz.suf.boxc (i := 1) rfl rfl))) ?_
       refine wat 4 9 rfl (by kernel_rfl) (fun _ _ _ hz Sz => Uq rfl rfl rfl rfl rfl cf111 Sz (Arcs_q d  (SH.bxOf (i := 2) Sz rfl (by rw [ecr])) (SH.rdOf (i := 3) Sz rfl ecr (by show _ * 40 ≤ _; omega)) ((hsi.mono hz).mono (Hp.U1p _ _)) ((hso.mono hz).mono (Hp.U1p _ _)) (by omega) Sz.lend)) ?_
       refine wap 5 8 rfl (by kernel_rfl) (fun _ => Ug rfl rfl rfl (by first | omega | (simp only [ls]; omega))) ?_
       refine wap 6 7 rfl (by kernel_rfl) (fun _ => run_move rfl rfl) ?_
       refine wap 7 6 rfl (by kernel_rfl) (fun _ => U9 rfl rfl) ?_
       refine wap 8 5 rfl (by kernel_rfl) (fun _ => U0 rfl rfl uT67 rfl (ce64) (nf64)) ?_
       refine wat 9 4 rfl (by kernel_rfl) (fun _ _ _ hz Sz => .inl (U3 rfl rfl uT64 rfl (Sz.suf.boxc (i := 1) rfl rfl))) ?_
       refine wat 10 3 rfl (by kernel_rfl) (fun _ _ _ hz Sz => Uq rfl rfl rfl rfl rfl cf111 Sz (Arcs_q d  (SH.bxOf (i := 2) Sz rfl (by rw [ecr])) (SH.rdOf (i := 3) Sz rfl ecr (by show _ * 40 ≤ _; omega)) ((hsi.mono hz).mono (Hp.U1p _ _)) ((hso.mono hz).mono (Hp.U1p _ _)) (by omega) Sz.lend)) ?_
       refine wap 11 2 rfl (by kernel_rfl) (fun _ => Ug rfl rfl rfl (by first | omega | (simp only [ls]; omega))) ?_
       refine wap 12 1 rfl (by kernel_rfl) (fun _ => run_assign rfl rfl) ?_
       refine wap 13 0 rfl (by kernel_rfl) (fun _ => run_assign rfl rfl) ?_
       refine Uu (by kernel_rfl) (fun w40 S40 => ?_)
       refine nmk [0, 3, 4, 5, 6] rfl (U4 (U2 Zvk Zvl rfl rfl rfl (U1 rfl (wlr 0 rfl (U0 rfl rfl uT28 rfl (ce3) (nf3)) (wlr 1 rfl (U3 rfl rfl uT3 rfl (S40.boxc (i := 0) rfl rfl)) (mvs 2 1 rfl rfl (wlr 3 rfl (U1n (l := [_, _]) (pl := [(0, 1), (1, 1)]) rfl rfl uT128 zr128 sz3 rfl rfl rfl) (mvs 4 2 rfl rfl ?_))))))))
       refine wlr 6 rfl (U1n (l := [_, _]) (pl := [(0, 1), (1, 1)]) rfl rfl uT128 zr128 sz3 rfl rfl rfl) (wlo 7 8 rfl rfl rfl (Uh (l := [_, _]) rfl rfl rfl zr128 rfl S40 ?_))
       intro gb2 w41 S41; clear S40
       refine wlo 8 9 rfl rfl rfl (Uh (l := [_, _]) rfl rfl rfl zr128 rfl S41 ?_)
       intro gb3 w42 S42; clear S41
       refine wlo 9 10 rfl rfl rfl (U7 (i := 1) (us := [_, _]) (l' := [_, _]) (H' := [_, _, _, _, _, _]) rfl rfl S42 rfl rfl rfl rfl sz128 rfl rfl rfl rfl ?_)
       intro w43 S43; clear S42
       refine wlo 10 11 rfl rfl rfl (U7 (i := 0) (us := [_, _]) (l' := [_, _]) (H' := [_, _, _, _, _, _]) rfl rfl S43 rfl rfl rfl rfl sz128 rfl rfl rfl rfl ?_)
       intro w44 S44; clear S43
       refine U5 rfl (nmk [0, 3, 4, 5, 6, 7, 8] rfl (U4 (U2 Zvm Zvn rfl rfl rfl (U2 Zvo Zvp rfl rfl rfl (U1 rfl (mvs 0 1 rfl rfl (U5 rfl (nmk [0, 3, 5, 6, 7, 8, 74] rfl ?_))))))))
       refine U4 ?_
       refine Ue Zvq Zvr rfl rfl rfl rfl (fun hb74 => ?_) (fun hb74 => ?_)
       ·refine U2 Zvs Zvt rfl rfl rfl (U1 rfl (mvs 0 2 rfl rfl (wlr 2 rfl (U1n (l := [_, _]) (pl := [(0, 1), (1, 1)]) rfl rfl uT128 zr128 sz3 rfl rfl rfl) (mvs 3 2 rfl rfl (wlr 5 rfl (U1n (l := [_, _]) (pl := [(0, 1), (1, 1)]) rfl rfl uT128 zr128 sz3 rfl rfl rfl) (wlo 6 7 rfl rfl rfl (U7 (i := 1) (us := [_, _]) (l' := [_, _]) (H' := [_, _, _, _, _, _]) rfl rfl S44 rfl rfl rfl rfl sz128 rfl rfl rfl rfl ?_)))))))
        intro w45 S45; clear S44
        refine wlo 7 8 rfl rfl rfl (U7 (i := 0) (us := [_, _]) (l' := [_, _]) (H' := [_, _, _, _, _, _]) rfl rfl S45 rfl rfl rfl rfl sz128 rfl rfl rfl rfl ?_)
        intro w46 S46; clear S45
        refine U5 rfl (nmk [0, 3, 7, 8] rfl (U4 (U1 rfl (mvs 0 1 rfl rfl (wlr 1 rfl (U9 rfl rfl) (wlr 2 rfl (U0 rfl rfl uT67 rfl (ce64) (nf64)) (wlr 3 rfl (U3 rfl rfl uT64 rfl (S46.boxc (i := 3) rfl rfl)) (wlr 4 rfl (U9 rfl rfl) ?_))))))))
        refine wlr 5 rfl (U0 rfl rfl uT70 rfl (ce24) (nf24)) (wlr 6 rfl (U0 rfl rfl uT24 rfl (ce3) (nf3)) (wlr 7 rfl (U3 rfl rfl uT3 rfl (S46.boxc (i := 4) rfl rfl)) (wlr 8 rfl (run_sub rfl rfl rfl (by first | omega | (simp only [ls]; omega))) ?_)))
        refine wlr 9 rfl (U9 rfl rfl) (wlr 10 rfl (U0 rfl rfl uT70 rfl (ce24) (nf24)) (wlr 11 rfl (U0 rfl rfl uT24 rfl (ce3) (nf3)) (wlo 12 13 rfl rfl rfl (U7 (i := 4) (us := [_]) (l' := [_, _, _, _]) (H' := [_, _, _, _, _, _]) rfl rfl S46 rfl rfl rfl rfl sz3 rfl rfl rfl rfl ?_))))
        intro w47 S47; clear S46
        refine U5 rfl (nmk [0, 3, 7, 8] rfl (U4 (U2 Zvu Zvv rfl rfl rfl ?_)))
        have hby : 0 ≤ m.by_ ∧ m.by_ ≤ 3 := by omega
        refine ws_cut (fun ax_ wx_ => ∃ (z0 : Int) (z1 : Int) (z2 : Int) (z3 : Int), Env 137 [(0, .pointer (some ⟨ggb, 0, none⟩)), (3, .pointer (some ⟨gb1, 0, none⟩)), (7, .pointer (some ⟨gb2, 0, none⟩)), (8, .pointer (some ⟨gb3, 0, none⟩))] ax_ ∧ SH wx_ M X [Rs.box gb3 128 [.int .i64 z2, .int .i64 z3], Rs.box gb2 128 [.int .i64 z0, .int .i64 z1], Rs.box gb1 28 [.int .i64 m.kd, .int .i64 m.at_, .int .i64 m.by_, .int .i64 m.ua, .bool m.ub, .int .i64 m.va, .bool m.vb, .bool m.ov], Rs.box ggb 67 [.pointer (some ⟨ggs, 0, none⟩), .slice fA fv.length fc], Rs.box ggs 70 [vcr, .int .i64 (d.loops - 1), .slice iA (tabL d false (4 * d.crs.length)).length ic, .slice oA (tabL d true (4 * d.crs.length)).length oc], Rs.row cdCr vcr d.crs] ∧ U2d z0 z1 z2 z3 (decide (m.by_ % 2 = 1)) = U34 ((2 * (d.crs.length : Int)) + 1) ((2 * (d.crs.length : Int)) + 2) ((2 * (d.crs.length : Int)) + 2) ((2 * (d.crs.length : Int)) + 1) m.by_) ?_ ?_
        ·refine U2 Zvw Zvx rfl rfl rfl (U1 rfl (wlr 0 rfl (U0 rfl rfl uT28 rfl (ce3) (nf3)) (wlr 1 rfl (U3 rfl rfl uT3 rfl (S47.boxc (i := 2) rfl rfl)) (wlr 2 rfl (run_andK rfl rfl rfl) (wlr 3 rfl (U2k rfl rfl rfl) (U5 rfl (nmk [0, 3, 7, 8, 110] rfl (U4 ?_))))))))
         refine Ue Zvy Zvz rfl rfl rfl rfl (fun hb110 => ?_) (fun hb110 => ?_)
         ·replace hb110 := (and2_iff hby).1 hb110
          refine U1 rfl (wlr 0 rfl (U8 (us := [_, _]) rfl rfl uT128 rfl sz128 (S47.boxcs (i := 0) rfl ⟨rfl, rfl, trivial⟩)) (wlr 1 rfl (U8 (us := [_, _]) rfl rfl uT128 rfl sz128 (S47.boxcs (i := 1) rfl ⟨rfl, rfl, trivial⟩)) (wlo 2 3 rfl rfl rfl (U7 (i := 1) (us := [_, _]) (l' := [_, _]) (H' := [_, _, _, _, _, _]) rfl rfl S47 rfl rfl rfl rfl sz128 rfl rfl rfl rfl ?_))))
          intro w49 S49; clear S47
          refine wlo 3 4 rfl rfl rfl (U7 (i := 0) (us := [_, _]) (l' := [_, _]) (H' := [_, _, _, _, _, _]) rfl rfl S49 rfl rfl rfl rfl sz128 rfl rfl rfl rfl ?_)
          intro w50 S50; clear S49
          refine U5 rfl (U15 ?_)
          intro ax_ hax_
          refine ⟨(2 * (d.crs.length : Int)) + 2, (2 * (d.crs.length : Int)) + 1, (2 * (d.crs.length : Int)) + 1, (2 * (d.crs.length : Int)) + 2, hax_.sub ⟨rfl, rfl, rfl, rfl, trivial⟩, S50.pick [0, 1, 2, 3, 4, 5] [_, _, _, _, _, _] (by decide) ⟨rfl, rfl, rfl, rfl, rfl, rfl, trivial⟩, ?hq1f0⟩
          case hq1f0 => (unfold U34; rw [if_pos (by omega)])
         ·replace hb110 := fun h => hb110 ((and2_iff hby).2 h)
          refine Uf rfl (U15 ?_)
          intro ax_ hax_
          refine ⟨(2 * (d.crs.length : Int)) + 1, (2 * (d.crs.length : Int)) + 2, (2 * (d.crs.length : Int)) + 2, (2 * (d.crs.length : Int)) + 1, hax_.sub ⟨rfl, rfl, rfl, rfl, trivial⟩, S47.pick [0, 1, 2, 3, 4, 5] [_, _, _, _, _, _] (by decide) ⟨rfl, rfl, rfl, rfl, rfl, rfl, trivial⟩, ?hq2f0⟩
          case hq2f0 => (unfold U34; rw [if_neg (by omega)])
        ·rintro a1 w48 ⟨z0, z1, z2, z3, he1, S48, hzz⟩
         clear S47
         refine nm_in he1 ?_
         clear he1 a1
         refine U4 ?_
         have S51 := S48.pick [5, 0, 1, 2, 3, 4] [_, _, _, _, _, _] (by decide) ⟨rfl, rfl, rfl, rfl, rfl, rfl, trivial⟩; clear S48
         refine U29 [_] [_, _, _, _, _] rfl (by kernel_rfl) S51 25 rfl ?_
         clear S51
         change WA _ _ _ _ _ _ _ _ _ _ _ _ [_, _, _, _, _, _]
         refine wap 0 24 rfl (by kernel_rfl) (fun _ => run_move rfl rfl) ?_
         refine wap 1 23 rfl (by kernel_rfl) (fun _ => U9 rfl rfl) ?_
         refine wap 2 22 rfl (by kernel_rfl) (fun _ => U0 rfl rfl uT67 rfl (ce64) (nf64)) ?_
         refine wat 3 21 rfl (by kernel_rfl) (fun _ _ _ hz Sz => .inl (U3 rfl rfl uT64 rfl (Sz.suf.boxc (i := 3) rfl rfl))) ?_
         refine wap 4 20 rfl (by kernel_rfl) (fun _ => run_move rfl rfl) ?_
         refine wap 5 19 rfl (by kernel_rfl) (fun _ => U9 rfl rfl) ?_
         refine wap 6 18 rfl (by kernel_rfl) (fun _ => U0 rfl rfl uT67 rfl (ce64) (nf64)) ?_
         refine wat 7 17 rfl (by kernel_rfl) (fun _ _ _ hz Sz => .inl (U3 rfl rfl uT64 rfl (Sz.suf.boxc (i := 3) rfl rfl))) ?_
         refine wap 8 16 rfl (by kernel_rfl) (fun _ => U9 rfl rfl) ?_
         refine wap 9 15 rfl (by kernel_rfl) (fun _ => U0 rfl rfl uT70 rfl (ce24) (nf24)) ?_
         refine wap 10 14 rfl (by kernel_rfl) (fun _ => U0 rfl rfl uT24 rfl (ce22) (nf22)) ?_
         refine wat 11 13 rfl (by kernel_rfl) (fun _ _ _ hz Sz => .inl (U3 rfl rfl uT22 rfl (Sz.suf.boxc (i := 4) rfl rfl))) ?_
         refine wat 12 12 rfl (by kernel_rfl) (fun _ _ _ hz Sz => .inl (U8 (us := [_, _]) rfl rfl uT128 rfl sz128 (Sz.suf.boxcs (i := 1) rfl ⟨rfl, rfl, trivial⟩))) ?_
         refine wat 13 11 rfl (by kernel_rfl) (fun _ _ _ hz Sz => .inl (U8 (us := [_, _]) rfl rfl uT128 rfl sz128 (Sz.suf.boxcs (i := 0) rfl ⟨rfl, rfl, trivial⟩))) ?_
         refine wap 14 10 rfl (by kernel_rfl) (fun _ => U0 rfl rfl uT28 rfl (ce3) (nf3)) ?_
         refine wat 15 9 rfl (by kernel_rfl) (fun _ _ _ hz Sz => .inl (U3 rfl rfl uT3 rfl (Sz.suf.boxc (i := 2) rfl rfl))) ?_
         refine wap 16 8 rfl (by kernel_rfl) (fun _ => run_andK rfl rfl rfl) ?_
         refine wap 17 7 rfl (by kernel_rfl) (fun _ => U2k rfl rfl rfl) ?_
         refine wa_eq 130 (.bool (decide (m.by_ % 2 = 1))) rfl (and1_ok hby) (wat 18 6 rfl (by kernel_rfl) (fun _ _ _ hz Sz => Uq rfl rfl rfl rfl rfl cf113 Sz (Make_q z0 z1 z2 z3 (decide (m.by_ % 2 = 1))  Sz.lend)) ?_)
         refine Um (i := 19) 5 rfl (by kernel_rfl) rfl rfl (fun w71 S72 => ?_)
         refine (U13 (C := cdCr) (l := [_, _, _, _, _]) rfl rfl rfl rfl sl22 rfl rfl rfl rfl S72 ?_)
         intro gb4 w72 S73; clear S72
         refine U10.grow [_, _] (Hp.le_refl _) S73 ?_; clear S73
         change WA _ _ _ _ _ _ _ _ _ _ _ _ [_, _, _, _, _, _, _]
         refine Um (i := 20) 4 rfl (by kernel_rfl) rfl rfl (fun w74 S75 => ?_)
         refine (U1l (C := cdCr) (i := 1) (q := 0) (⟨(U2d z0 z1 z2 z3 (decide (m.by_ % 2 = 1))).a, (U2d z0 z1 z2 z3 (decide (m.by_ % 2 = 1))).b, (U2d z0 z1 z2 z3 (decide (m.by_ % 2 = 1))).c, (U2d z0 z1 z2 z3 (decide (m.by_ % 2 = 1))).d, (U2d z0 z1 z2 z3 (decide (m.by_ % 2 = 1))).plus⟩ : Cr) rfl rfl rfl rfl rfl rfl rfl rfl sl22 S75 rfl rfl rfl (by show (_ + 1) * 40 ≤ _; first | omega | (simp only [ls]; omega)) ?_)
         intro vcr1 w75 S76; clear S75
         have S77 := S76.pick [1, 2, 3, 4, 5, 6] [_, _, _, _, _, _] (by decide) ⟨rfl, rfl, rfl, rfl, rfl, rfl, trivial⟩; clear S76
         refine U10.grow [_] (Hp.le_refl _) S77 ?_; clear S77
         change WA _ _ _ _ _ _ _ _ _ _ _ _ [_, _, _, _, _, _]
         refine wap 21 3 rfl (by kernel_rfl) (fun _ => U9 rfl rfl) ?_
         refine wap 22 2 rfl (by kernel_rfl) (fun _ => U0 rfl rfl uT70 rfl (ce24) (nf24)) ?_
         refine wap 23 1 rfl (by kernel_rfl) (fun _ => U0 rfl rfl uT24 rfl (ce22) (nf22)) ?_
         refine Um (i := 24) 0 rfl (by kernel_rfl) rfl rfl (fun w80 S82 => ?_)
         refine (U7 (i := 5) (us := [_]) (l' := [_, _, _, _]) (H' := [_, _, _, _, _, _]) rfl rfl S82 rfl rfl rfl (S82.cells1 (i := 0) rfl) sz22 rfl (Uy (S82.one (i := 0) rfl) rfl) rfl rfl ?_)
         intro w81 S83; clear S82
         refine U10.turn (by kernel_rfl) S83 ?_; clear S83
         change WA _ _ _ _ _ _ _ _ _ _ _ _ [_, _, _, _, _, _]
         refine Uu (by kernel_rfl) (fun w82 S84 => ?_)
         refine U2j hC [] rfl trivial ?_
         obtain ⟨M63, hle63, S85, ⟨A1, c1, e1, hr1⟩⟩ := S84.pubrow (i := 0) (H' := [_, _, _, _, _, _]) rfl rfl (by show _ * 40 ≤ _; first | omega | (simp only [ls]; omega))
         clear S84; subst e1
         replace hsi := hsi.mono hle63
         replace hso := hso.mono hle63
         replace hfa := hfa.mono hle63
         replace hfd := hfd.mono hle63
         have herr : curE d m = 0 := by unfold curE; rw [if_pos (by omega), if_pos hn53]
         refine .inl ⟨herr, _, rfl, _, _, hle63, (S85.pick [4, 5] [_, _] (by decide) ⟨rfl, rfl, trivial⟩).bun, ?_⟩
         have e8 : curD d m = ⟨d.crs ++ [(⟨(U2d z0 z1 z2 z3 (decide (m.by_ % 2 = 1))).a, (U2d z0 z1 z2 z3 (decide (m.by_ % 2 = 1))).b, (U2d z0 z1 z2 z3 (decide (m.by_ % 2 = 1))).c, (U2d z0 z1 z2 z3 (decide (m.by_ % 2 = 1))).d, (U2d z0 z1 z2 z3 (decide (m.by_ % 2 = 1))).plus⟩ : Cr)], d.loops - 1⟩ := by unfold curD; rw [if_pos (by omega), ← hzz]
         rw [e8]
         exact ⟨rfl, _, _, rfl, hr1⟩
       ·exfalso; omega
      ·have herr : curE d m = 2 := by unfold curE; rw [if_pos (by omega), if_neg hn53]
       refine U2e (k := 10) rfl rfl rfl rfl rfl rfl rfl cf109 S24 (U25 2 S24.lend) ?_
       intro w9 M9 hle9 S9
       subst hC
       exact .inr ⟨by rw [herr]; first | decide | assumption, by rw [herr], M9, (Hp.le_refl _).trans hle9, S9.pick [] [] (by decide) trivial⟩
     ·have herr : curE d m = 3 := by unfold curE; rw [if_neg (by omega)]
      refine U37 (i := 20) 0 rfl (by kernel_rfl) rfl rfl rfl rfl rfl rfl rfl cf109 (fun w9 S9 => U25 3 S9.lend) ?_
      intro w9 M9 hle9 S9
      subst hC
      exact .inr ⟨by rw [herr]; first | decide | assumption, by rw [herr], M9, (Hp.le_refl _).trans hle9, S9.pick [] [] (by decide) trivial⟩
    ·refine Ur (i := 16) (d := 39) 4 rfl (by kernel_rfl) (by kernel_rfl) (by kernel_rfl) ⟨_, _, _, rfl, rfl, rfl, rfl⟩ rfl rfl ?_
     refine Ur (i := 17) (d := 40) 3 rfl (by kernel_rfl) (by kernel_rfl) (by kernel_rfl) ⟨_, _, _, rfl, rfl, rfl, rfl⟩ rfl rfl ?_
     refine Ur (i := 18) (d := 41) 2 rfl (by kernel_rfl) (by kernel_rfl) (by kernel_rfl) ⟨_, _, _, rfl, rfl, rfl, rfl⟩ rfl rfl ?_
     refine wap 19 1 rfl (by kernel_rfl) (fun _ => U1r rfl rfl rfl) ?_
     have herr : curE d m = 3 := by unfold curE; rw [if_neg (by omega)]
     refine U37 (i := 20) 0 rfl (by kernel_rfl) rfl rfl rfl rfl rfl rfl rfl cf109 (fun w9 S9 => U25 3 S9.lend) ?_
     intro w9 M9 hle9 S9
     subst hC
     exact .inr ⟨by rw [herr]; first | decide | assumption, by rw [herr], M9, (Hp.le_refl _).trans hle9, S9.pick [] [] (by decide) trivial⟩
   ·refine Ur (i := 11) (d := 34) 9 rfl (by kernel_rfl) (by kernel_rfl) (by kernel_rfl) ⟨_, _, _, rfl, rfl, rfl, rfl⟩ rfl rfl ?_
    refine Ur (i := 12) (d := 35) 8 rfl (by kernel_rfl) (by kernel_rfl) (by kernel_rfl) ⟨_, _, _, rfl, rfl, rfl, rfl⟩ rfl rfl ?_
    refine Ur (i := 13) (d := 36) 7 rfl (by kernel_rfl) (by kernel_rfl) (by kernel_rfl) ⟨_, _, _, rfl, rfl, rfl, rfl⟩ rfl rfl ?_
    refine wap 14 6 rfl (by kernel_rfl) (fun _ => U1r rfl rfl rfl) ?_
    refine wap 15 5 rfl (by kernel_rfl) (fun _ => run_move rfl rfl) ?_
    refine Ur (i := 16) (d := 39) 4 rfl (by kernel_rfl) (by kernel_rfl) (by kernel_rfl) ⟨_, _, _, rfl, rfl, rfl, rfl⟩ rfl rfl ?_
    refine Ur (i := 17) (d := 40) 3 rfl (by kernel_rfl) (by kernel_rfl) (by kernel_rfl) ⟨_, _, _, rfl, rfl, rfl, rfl⟩ rfl rfl ?_
    refine Ur (i := 18) (d := 41) 2 rfl (by kernel_rfl) (by kernel_rfl) (by kernel_rfl) ⟨_, _, _, rfl, rfl, rfl, rfl⟩ rfl rfl ?_
    refine wap 19 1 rfl (by kernel_rfl) (fun _ => U1r rfl rfl rfl) ?_
    have herr : curE d m = 3 := by unfold curE; rw [if_neg (by omega)]
    refine U37 (i := 20) 0 rfl (by kernel_rfl) rfl rfl rfl rfl rfl rfl rfl cf109 (fun w9 S9 => U25 3 S9.lend) ?_
    intro w9 M9 hle9 S9
    subst hC
    exact .inr ⟨by rw [herr]; first | decide | assumption, by rw [herr], M9, (Hp.le_refl _).trans hle9, S9.pick [] [] (by decide) trivial⟩
 ·refine mvs 4 6 rfl rfl (mvs 10 5 rfl rfl (U5 rfl (nmk [0, 3, 4] rfl (U4 (U2 Zve Zvf rfl rfl rfl (Ux rfl (by kernel_rfl) S1 21 rfl ?_))))))
  clear S1
  refine wap 0 20 rfl (by kernel_rfl) (fun _ => run_move rfl rfl) ?_
  refine wap 1 19 rfl (by kernel_rfl) (fun _ => U9 rfl rfl) ?_
  refine wap 2 18 rfl (by kernel_rfl) (fun _ => U0 rfl rfl uT67 rfl (ce64) (nf64)) ?_
  refine wat 3 17 rfl (by kernel_rfl) (fun _ _ _ hz Sz => .inl (U3 rfl rfl uT64 rfl (Sz.suf.boxc (i := 1) rfl rfl))) ?_
  refine wap 4 16 rfl (by kernel_rfl) (fun _ => U0 rfl rfl uT28 rfl (ce3) (nf3)) ?_
  refine wat 5 15 rfl (by kernel_rfl) (fun _ _ _ hz Sz => .inl (U3 rfl rfl uT3 rfl (Sz.suf.boxc (i := 0) rfl rfl))) ?_
  refine wat 6 14 rfl (by kernel_rfl) (fun _ _ _ hz Sz => Uq rfl rfl rfl rfl rfl cf110 Sz (IsArcM_q d m.at_ (SH.bxOf (i := 2) Sz rfl (by rw [ecr])) (SH.rdOf (i := 3) Sz rfl ecr (by show _ * 40 ≤ _; omega)) ((hsi.mono hz).mono (Hp.U1p _ _)) ((hso.mono hz).mono (Hp.U1p _ _)) (by omega) Sz.lend)) ?_
  refine wap 7 13 rfl (by kernel_rfl) (fun _ => run_move rfl rfl) ?_
  refine U21 (t := 30) rfl (fun hg30 => ?_) (fun hg30 => ?_)
  ·refine Ur (i := 8) (d := 31) 12 rfl (by kernel_rfl) (by kernel_rfl) (by kernel_rfl) ⟨_, _, _, rfl, rfl, rfl, rfl⟩ rfl rfl ?_
   refine wap 9 11 rfl (by kernel_rfl) (fun _ => U1e rfl rfl rfl) ?_
   refine wap 10 10 rfl (by kernel_rfl) (fun _ => run_move rfl rfl) ?_
   refine wap 11 9 rfl (by kernel_rfl) (fun _ => U0 rfl rfl uT28 rfl (ce3) (nf3)) ?_
   refine wat 12 8 rfl (by kernel_rfl) (fun _ _ _ hz Sz => .inl (U3 rfl rfl uT3 rfl (Sz.suf.boxc (i := 0) rfl rfl))) ?_
   refine wap 13 7 rfl (by kernel_rfl) (fun _ => U2q rfl rfl rfl) ?_
   refine wap 14 6 rfl (by kernel_rfl) (fun _ => U1e rfl rfl rfl) ?_
   refine wap 15 5 rfl (by kernel_rfl) (fun _ => run_move rfl rfl) ?_
   refine U21 (t := 38) rfl (fun hg38 => ?_) (fun hg38 => ?_)
   ·refine wap 16 4 rfl (by kernel_rfl) (fun _ => U0 rfl rfl uT28 rfl (ce3) (nf3)) ?_
    refine wat 17 3 rfl (by kernel_rfl) (fun _ _ _ hz Sz => .inl (U3 rfl rfl uT3 rfl (Sz.suf.boxc (i := 0) rfl rfl))) ?_
    refine wap 18 2 rfl (by kernel_rfl) (fun _ => U41 rfl rfl rfl) ?_
    refine wap 19 1 rfl (by kernel_rfl) (fun _ => U1e rfl rfl rfl) ?_
    refine U21 (t := 42) rfl (fun hn42 => ?_) (fun hn42 => ?_)
    ·refine wat 20 0 rfl (by kernel_rfl) (fun _ _ _ hz Sz => Uq rfl rfl rfl rfl rfl cf109 Sz (U31 3 Sz.lend)) ?_
     refine Uu (by kernel_rfl) (fun w111 S114 => ?_)
     refine nmk [0, 3, 4] rfl (U4 (U2 Zvg Zvh rfl rfl rfl (U1 rfl (mvs 0 1 rfl rfl (wlr 1 rfl (U9 rfl rfl) (wlr 2 rfl (U0 rfl rfl uT67 rfl (ce64) (nf64)) (wlr 3 rfl (U3 rfl rfl uT64 rfl (S114.boxc (i := 1) rfl rfl)) (wlr 4 rfl (U9 rfl rfl) ?_))))))))
     refine wlr 5 rfl (U0 rfl rfl uT70 rfl (ce24) (nf24)) (wlr 6 rfl (U0 rfl rfl uT24 rfl (ce22) (nf22)) (wlr 7 rfl (U3 rfl rfl uT22 rfl (S114.boxc (i := 2) rfl rfl)) (wlr 8 rfl (U38 (C := cdCr) (i := 3) rfl rfl rfl rfl rfl rfl sl22 S114 rfl) (wlr 9 rfl (U17 rfl rfl rfl) ?_))))
     refine Ut (t := 53) rfl (fun hn53 => ?_) (fun hn53 => ?_)
     ·refine wlo 10 11 rfl rfl rfl (U20 rfl rfl rfl rfl rfl rfl rfl cf109 S114 (U31 2 S114.lend) ?_)
      rintro _ w112 S115 rfl; clear S114
      refine U5 rfl (nmk [0, 3, 4] rfl (U4 (U2 Zvi Zvj rfl rfl rfl (Ux rfl (by kernel_rfl) S115 14 rfl ?_))))
      clear S115
      refine wap 0 13 rfl (by kernel_rfl) (fun _ => run_move rfl rfl) ?_
      refine wap 1 12 rfl (by kernel_rfl) (fun _ => U9 rfl rfl) ?_
      refine wap 2 11 rfl (by kernel_rfl) (fun _ => U0 rfl rfl uT67 rfl (ce64) (nf64)) ?_
      refine wat 3 10 rfl (by kernel_rfl) (fun _ _ _ hz Sz => .inl (U3 rfl rfl uT64 rfl (Sz.suf.boxc (i := 1) rfl rfl))) ?_
      refine wat 4 9 rfl (by kernel_rfl) (fun _ _ _ hz Sz => Uq rfl rfl rfl rfl rfl cf111 Sz (Arcs_q d  (SH.bxOf (i := 2) Sz rfl (by rw [ecr])) (SH.rdOf (i := 3) Sz rfl ecr (by show _ * 40 ≤ _; omega)) ((hsi.mono hz).mono (Hp.U1p _ _)) ((hso.mono hz).mono (Hp.U1p _ _)) (by omega) Sz.lend)) ?_
      refine wap 5 8 rfl (by kernel_rfl) (fun _ => Ug rfl rfl rfl (by first | omega | (simp only [ls]; omega))) ?_
      refine wap 6 7 rfl (by kernel_rfl) (fun _ => run_move rfl rfl) ?_
      refine wap 7 6 rfl (by kernel_rfl) (fun _ => U9 rfl rfl) ?_
      refine wap 8 5 rfl (by kernel_rfl) (fun _ => U0 rfl rfl uT67 rfl (ce64) (nf64)) ?_
      refine wat 9 4 rfl (by kernel_rfl) (fun _ _ _ hz Sz => .inl (U3 rfl rfl uT64 rfl (Sz.suf.boxc (i := 1) rfl rfl))) ?_
      refine wat 10 3 rfl (by kernel_rfl) (fun _ _ _ hz Sz => Uq rfl rfl rfl rfl rfl cf111 Sz (Arcs_q d  (SH.bxOf (i := 2) Sz rfl (by rw [ecr])) (SH.rdOf (i := 3) Sz rfl ecr (by show _ * 40 ≤ _; omega)) ((hsi.mono hz).mono (Hp.U1p _ _)) ((hso.mono hz).mono (Hp.U1p _ _)) (by omega) Sz.lend)) ?_
      refine wap 11 2 rfl (by kernel_rfl) (fun _ => Ug rfl rfl rfl (by first | omega | (simp only [ls]; omega))) ?_
      refine wap 12 1 rfl (by kernel_rfl) (fun _ => run_assign rfl rfl) ?_
      refine wap 13 0 rfl (by kernel_rfl) (fun _ => run_assign rfl rfl) ?_
      refine Uu (by kernel_rfl) (fun w127 S130 => ?_)
      refine nmk [0, 3, 4, 5, 6] rfl (U4 (U2 Zvk Zvl rfl rfl rfl (U1 rfl (wlr 0 rfl (U0 rfl rfl uT28 rfl (ce3) (nf3)) (wlr 1 rfl (U3 rfl rfl uT3 rfl (S130.boxc (i := 0) rfl rfl)) (mvs 2 1 rfl rfl (wlr 3 rfl (U1n (l := [_, _]) (pl := [(0, 1), (1, 1)]) rfl rfl uT128 zr128 sz3 rfl rfl rfl) (mvs 4 2 rfl rfl ?_))))))))
      refine wlr 6 rfl (U1n (l := [_, _]) (pl := [(0, 1), (1, 1)]) rfl rfl uT128 zr128 sz3 rfl rfl rfl) (wlo 7 8 rfl rfl rfl (Uh (l := [_, _]) rfl rfl rfl zr128 rfl S130 ?_))
      intro gb5 w128 S131; clear S130
      refine wlo 8 9 rfl rfl rfl (Uh (l := [_, _]) rfl rfl rfl zr128 rfl S131 ?_)
      intro gb6 w129 S132; clear S131
      refine wlo 9 10 rfl rfl rfl (U7 (i := 1) (us := [_, _]) (l' := [_, _]) (H' := [_, _, _, _, _, _]) rfl rfl S132 rfl rfl rfl rfl sz128 rfl rfl rfl rfl ?_)
      intro w130 S133; clear S132
      refine wlo 10 11 rfl rfl rfl (U7 (i := 0) (us := [_, _]) (l' := [_, _]) (H' := [_, _, _, _, _, _]) rfl rfl S133 rfl rfl rfl rfl sz128 rfl rfl rfl rfl ?_)
      intro w131 S134; clear S133
      refine U5 rfl (nmk [0, 3, 4, 5, 6, 7, 8] rfl (U4 (U2 Zvm Zvn rfl rfl rfl (U2 Zvo Zvp rfl rfl rfl (U1 rfl (mvs 0 1 rfl rfl (U5 rfl (nmk [0, 3, 5, 6, 7, 8, 74] rfl ?_))))))))
      refine U4 (U2c Zvr rfl rfl rfl (Ux rfl (by kernel_rfl) S134 14 rfl ?_))
      clear S134
      refine wap 0 13 rfl (by kernel_rfl) (fun _ => run_move rfl rfl) ?_
      refine wap 1 12 rfl (by kernel_rfl) (fun _ => run_move rfl rfl) ?_
      refine wap 2 11 rfl (by kernel_rfl) (fun _ => U9 rfl rfl) ?_
      refine wap 3 10 rfl (by kernel_rfl) (fun _ => U0 rfl rfl uT67 rfl (ce64) (nf64)) ?_
      refine wat 4 9 rfl (by kernel_rfl) (fun _ _ _ hz Sz => .inl (U3 rfl rfl uT64 rfl (Sz.suf.boxc (i := 3) rfl rfl))) ?_
      refine wap 5 8 rfl (by kernel_rfl) (fun _ => U9 rfl rfl) ?_
      refine wap 6 7 rfl (by kernel_rfl) (fun _ => U0 rfl rfl uT70 rfl (ce68) (nf68)) ?_
      refine wat 7 6 rfl (by kernel_rfl) (fun _ _ _ hz Sz => .inl (U3 rfl rfl uT68 rfl (Sz.suf.boxc (i := 4) rfl rfl))) ?_
      refine wap 8 5 rfl (by kernel_rfl) (fun _ => U0 rfl rfl uT28 rfl (ce3) (nf3)) ?_
      refine wat 9 4 rfl (by kernel_rfl) (fun _ _ _ hz Sz => .inl (U3 rfl rfl uT3 rfl (Sz.suf.boxc (i := 2) rfl rfl))) ?_
      obtain ⟨he1, he2, hge, _⟩ := endD hab (a := m.at_) (by omega) false
      have hlt := U1m d false (4 * d.crs.length)
      refine wa_eq 102 (.int .i64 ((m.at_.toNat : Nat) : Int)) rfl (int_eq (by omega)) ?_
      refine wat 10 3 rfl (by kernel_rfl) (fun _ _ _ hz Sz => .inl (Uj (C := cdPl) m.at_.toNat rfl rfl rfl sl68 (by first | rfl | omega) (hsi.mono hz) (by first | omega | (simp only [ls]; omega)))) ?_
      refine wat 11 2 rfl (by kernel_rfl) (fun _ _ _ hz Sz => .inl (U8 (us := [_, _]) rfl rfl uT190 rfl sz190 ((hsi.mono hz).U1x Sz.m (e := m.at_.toNat) (by first | omega | (simp only [ls]; omega)) (j := 0) ⟨rfl, rfl, trivial⟩))) ?_
      refine wap 12 1 rfl (by kernel_rfl) (fun _ => run_move rfl rfl) ?_
      refine Um (i := 13) 0 rfl (by kernel_rfl) rfl rfl (fun w146 S149 => ?_)
      have S150 := S149.pick [3, 4, 5, 0, 1, 2] [_, _, _, _, _, _] (by decide) ⟨rfl, rfl, rfl, rfl, rfl, rfl, trivial⟩; clear S149
      have S151 : SH _ _ _ (Rs.bun [_, _, _] :: [_, _, _]) := SH.bunC (A := [_, _, _]) (B := [_, _, _]) S150; clear S150
      have S152 : SH _ _ _ [_, _, _, _] := S151.less (i := 0) rfl
      have hcall1 := Set_b d.crs ((ga (tabL d false (4 * d.crs.length)) m.at_.toNat).1) ((ga (tabL d false (4 * d.crs.length)) m.at_.toNat).2) ((2 * (d.crs.length : Int)) + 2) (by rw [hge]; exact he1) (by rw [hge]; exact he2) (S151.lend1 (i := 0) rfl); clear S152
      refine (wo_c1 (i := 0) rfl rfl rfl rfl rfl rfl rfl cf112 S151 rfl hcall1 ?_)
      intro vw147 w147 M120 rw147 hle120 S153 hR1; clear S151
      obtain ⟨huhMX1, hMX1, hR2⟩ := hR1
      rw [hMX1] at S153
      clear hMX1
      subst huhMX1
      subst hR2
      replace S153 : SH _ _ _ (Rs.bun [_, _, _] :: [_, _, _]) := S153
      have S154 : SH _ _ _ [_, _, _, _, _, _] := SH.U2y (A := [_, _, _]) (B := [_, _, _]) S153; clear S153
      refine U10.turn (by kernel_rfl) S154 ?_; clear S154
      change WA _ _ _ _ _ _ _ _ _ _ _ _ [_, _, _, _, _, _]
      refine Uu (by kernel_rfl) (fun w148 S155 => ?_)
      refine nmk [0, 3, 7, 8] rfl (U4 (U2 Zvu Zvv rfl rfl rfl ?_))
      have hby : 0 ≤ m.by_ ∧ m.by_ ≤ 3 := by omega
      have hrc1 : U1c d.crs ((ga (tabL d false (4 * d.crs.length)) m.at_.toNat).1) ((ga (tabL d false (4 * d.crs.length)) m.at_.toNat).2) ((2 * (d.crs.length : Int)) + 2) = U1c d.crs (Ud d m.at_ false).1 (Ud d m.at_ false).2 (2 * (d.crs.length : Int) + 2) := by rw [hge]
      rw [hrc1] at S155; clear hrc1
      have hsl := U1o d.crs (Ud d m.at_ false).1 (Ud d m.at_ false).2 (2 * (d.crs.length : Int) + 2)
      refine ws_cut (fun ax_ wx_ => ∃ (z0 : Int) (z1 : Int) (z2 : Int) (z3 : Int), Env 137 [(0, .pointer (some ⟨ggb, 0, none⟩)), (3, .pointer (some ⟨gb1, 0, none⟩)), (7, .pointer (some ⟨gb5, 0, none⟩)), (8, .pointer (some ⟨gb6, 0, none⟩))] ax_ ∧ SH wx_ M X [Rs.box ggb 67 [.pointer (some ⟨ggs, 0, none⟩), .slice fA fv.length fc], Rs.box ggs 70 [vcr, .int .i64 d.loops, .slice iA (tabL d false (4 * d.crs.length)).length ic, .slice oA (tabL d true (4 * d.crs.length)).length oc], Rs.row cdCr vcr (U1c d.crs (Ud d m.at_ false).1 (Ud d m.at_ false).2 (2 * (d.crs.length : Int) + 2)), Rs.box gb6 128 [.int .i64 z2, .int .i64 z3], Rs.box gb5 128 [.int .i64 z0, .int .i64 z1], Rs.box gb1 28 [.int .i64 m.kd, .int .i64 m.at_, .int .i64 m.by_, .int .i64 m.ua, .bool m.ub, .int .i64 m.va, .bool m.vb, .bool m.ov]] ∧ U2d z0 z1 z2 z3 (decide (m.by_ % 2 = 1)) = U34 m.at_ ((2 * (d.crs.length : Int)) + 1) ((2 * (d.crs.length : Int)) + 1) ((2 * (d.crs.length : Int)) + 2) m.by_) ?_ ?_
      ·refine U2 Zvw Zvx rfl rfl rfl (U1 rfl (wlr 0 rfl (U0 rfl rfl uT28 rfl (ce3) (nf3)) (wlr 1 rfl (U3 rfl rfl uT3 rfl (S155.boxc (i := 5) rfl rfl)) (wlr 2 rfl (run_andK rfl rfl rfl) (wlr 3 rfl (U2k rfl rfl rfl) (U5 rfl (nmk [0, 3, 7, 8, 110] rfl (U4 ?_))))))))
       refine Ue Zvy Zvz rfl rfl rfl rfl (fun hb110 => ?_) (fun hb110 => ?_)
       ·replace hb110 := (and2_iff hby).1 hb110
        refine U1 rfl (wlr 0 rfl (U8 (us := [_, _]) rfl rfl uT128 rfl sz128 (S155.boxcs (i := 3) rfl ⟨rfl, rfl, trivial⟩)) (wlr 1 rfl (U8 (us := [_, _]) rfl rfl uT128 rfl sz128 (S155.boxcs (i := 4) rfl ⟨rfl, rfl, trivial⟩)) (wlo 2 3 rfl rfl rfl (U7 (i := 4) (us := [_, _]) (l' := [_, _]) (H' := [_, _, _, _, _, _]) rfl rfl S155 rfl rfl rfl rfl sz128 rfl rfl rfl rfl ?_))))
        intro w150 S157; clear S155
        refine wlo 3 4 rfl rfl rfl (U7 (i := 3) (us := [_, _]) (l' := [_, _]) (H' := [_, _, _, _, _, _]) rfl rfl S157 rfl rfl rfl rfl sz128 rfl rfl rfl rfl ?_)
        intro w151 S158; clear S157
        refine U5 rfl (U15 ?_)
        intro ax_ hax_
        refine ⟨(2 * (d.crs.length : Int)) + 1, (2 * (d.crs.length : Int)) + 2, m.at_, (2 * (d.crs.length : Int)) + 1, hax_.sub ⟨rfl, rfl, rfl, rfl, trivial⟩, S158.pick [0, 1, 2, 3, 4, 5] [_, _, _, _, _, _] (by decide) ⟨rfl, rfl, rfl, rfl, rfl, rfl, trivial⟩, ?hq3f0⟩
        case hq3f0 => (unfold U34; rw [if_pos (by omega)])
       ·replace hb110 := fun h => hb110 ((and2_iff hby).2 h)
        refine Uf rfl (U15 ?_)
        intro ax_ hax_
        refine ⟨m.at_, (2 * (d.crs.length : Int)) + 1, (2 * (d.crs.length : Int)) + 1, (2 * (d.crs.length : Int)) + 2, hax_.sub ⟨rfl, rfl, rfl, rfl, trivial⟩, S155.pick [0, 1, 2, 3, 4, 5] [_, _, _, _, _, _] (by decide) ⟨rfl, rfl, rfl, rfl, rfl, rfl, trivial⟩, ?hq4f0⟩
        case hq4f0 => (unfold U34; rw [if_neg (by omega)])
      ·rintro a2 w149 ⟨z0, z1, z2, z3, he2, S156, hzz⟩
       clear S155
       refine nm_in he2 ?_
       clear he2 a2
       refine U4 ?_
       have S159 := S156.pick [2, 0, 1, 3, 4, 5] [_, _, _, _, _, _] (by decide) ⟨rfl, rfl, rfl, rfl, rfl, rfl, trivial⟩; clear S156
       refine U29 [_] [_, _, _, _, _] rfl (by kernel_rfl) S159 25 rfl ?_
       clear S159
       change WA _ _ _ _ _ _ _ _ _ _ _ _ [_, _, _, _, _, _]
       refine wap 0 24 rfl (by kernel_rfl) (fun _ => run_move rfl rfl) ?_
       refine wap 1 23 rfl (by kernel_rfl) (fun _ => U9 rfl rfl) ?_
       refine wap 2 22 rfl (by kernel_rfl) (fun _ => U0 rfl rfl uT67 rfl (ce64) (nf64)) ?_
       refine wat 3 21 rfl (by kernel_rfl) (fun _ _ _ hz Sz => .inl (U3 rfl rfl uT64 rfl (Sz.suf.boxc (i := 0) rfl rfl))) ?_
       refine wap 4 20 rfl (by kernel_rfl) (fun _ => run_move rfl rfl) ?_
       refine wap 5 19 rfl (by kernel_rfl) (fun _ => U9 rfl rfl) ?_
       refine wap 6 18 rfl (by kernel_rfl) (fun _ => U0 rfl rfl uT67 rfl (ce64) (nf64)) ?_
       refine wat 7 17 rfl (by kernel_rfl) (fun _ _ _ hz Sz => .inl (U3 rfl rfl uT64 rfl (Sz.suf.boxc (i := 0) rfl rfl))) ?_
       refine wap 8 16 rfl (by kernel_rfl) (fun _ => U9 rfl rfl) ?_
       refine wap 9 15 rfl (by kernel_rfl) (fun _ => U0 rfl rfl uT70 rfl (ce24) (nf24)) ?_
       refine wap 10 14 rfl (by kernel_rfl) (fun _ => U0 rfl rfl uT24 rfl (ce22) (nf22)) ?_
       refine wat 11 13 rfl (by kernel_rfl) (fun _ _ _ hz Sz => .inl (U3 rfl rfl uT22 rfl (Sz.suf.boxc (i := 1) rfl rfl))) ?_
       refine wat 12 12 rfl (by kernel_rfl) (fun _ _ _ hz Sz => .inl (U8 (us := [_, _]) rfl rfl uT128 rfl sz128 (Sz.suf.boxcs (i := 3) rfl ⟨rfl, rfl, trivial⟩))) ?_
       refine wat 13 11 rfl (by kernel_rfl) (fun _ _ _ hz Sz => .inl (U8 (us := [_, _]) rfl rfl uT128 rfl sz128 (Sz.suf.boxcs (i := 2) rfl ⟨rfl, rfl, trivial⟩))) ?_
       refine wap 14 10 rfl (by kernel_rfl) (fun _ => U0 rfl rfl uT28 rfl (ce3) (nf3)) ?_
       refine wat 15 9 rfl (by kernel_rfl) (fun _ _ _ hz Sz => .inl (U3 rfl rfl uT3 rfl (Sz.suf.boxc (i := 4) rfl rfl))) ?_
       refine wap 16 8 rfl (by kernel_rfl) (fun _ => run_andK rfl rfl rfl) ?_
       refine wap 17 7 rfl (by kernel_rfl) (fun _ => U2k rfl rfl rfl) ?_
       refine wa_eq 130 (.bool (decide (m.by_ % 2 = 1))) rfl (and1_ok hby) (wat 18 6 rfl (by kernel_rfl) (fun _ _ _ hz Sz => Uq rfl rfl rfl rfl rfl cf113 Sz (Make_q z0 z1 z2 z3 (decide (m.by_ % 2 = 1))  Sz.lend)) ?_)
       refine Um (i := 19) 5 rfl (by kernel_rfl) rfl rfl (fun w172 S180 => ?_)
       refine (U13 (C := cdCr) (l := [_, _, _, _, _]) rfl rfl rfl rfl sl22 rfl rfl rfl rfl S180 ?_)
       intro gb7 w173 S181; clear S180
       refine U10.grow [_, _] (Hp.le_refl _) S181 ?_; clear S181
       change WA _ _ _ _ _ _ _ _ _ _ _ _ [_, _, _, _, _, _, _]
       refine Um (i := 20) 4 rfl (by kernel_rfl) rfl rfl (fun w175 S183 => ?_)
       refine (U1l (C := cdCr) (i := 1) (q := 0) (⟨(U2d z0 z1 z2 z3 (decide (m.by_ % 2 = 1))).a, (U2d z0 z1 z2 z3 (decide (m.by_ % 2 = 1))).b, (U2d z0 z1 z2 z3 (decide (m.by_ % 2 = 1))).c, (U2d z0 z1 z2 z3 (decide (m.by_ % 2 = 1))).d, (U2d z0 z1 z2 z3 (decide (m.by_ % 2 = 1))).plus⟩ : Cr) rfl rfl rfl rfl rfl rfl rfl rfl sl22 S183 rfl rfl rfl (by show (_ + 1) * 40 ≤ _; first | omega | (simp only [ls]; omega)) ?_)
       intro vcr2 w176 S184; clear S183
       have S185 := S184.pick [1, 2, 3, 4, 5, 6] [_, _, _, _, _, _] (by decide) ⟨rfl, rfl, rfl, rfl, rfl, rfl, trivial⟩; clear S184
       refine U10.grow [_] (Hp.le_refl _) S185 ?_; clear S185
       change WA _ _ _ _ _ _ _ _ _ _ _ _ [_, _, _, _, _, _]
       refine wap 21 3 rfl (by kernel_rfl) (fun _ => U9 rfl rfl) ?_
       refine wap 22 2 rfl (by kernel_rfl) (fun _ => U0 rfl rfl uT70 rfl (ce24) (nf24)) ?_
       refine wap 23 1 rfl (by kernel_rfl) (fun _ => U0 rfl rfl uT24 rfl (ce22) (nf22)) ?_
       refine Um (i := 24) 0 rfl (by kernel_rfl) rfl rfl (fun w181 S190 => ?_)
       refine (U7 (i := 2) (us := [_]) (l' := [_, _, _, _]) (H' := [_, _, _, _, _, _]) rfl rfl S190 rfl rfl rfl (S190.cells1 (i := 0) rfl) sz22 rfl (Uy (S190.one (i := 0) rfl) rfl) rfl rfl ?_)
       intro w182 S191; clear S190
       refine U10.turn (by kernel_rfl) S191 ?_; clear S191
       change WA _ _ _ _ _ _ _ _ _ _ _ _ [_, _, _, _, _, _]
       refine Uu (by kernel_rfl) (fun w183 S192 => ?_)
       refine U2j hC [] rfl trivial ?_
       obtain ⟨M147, hle147, S193, ⟨A2, c2, e2, hr2⟩⟩ := S192.pubrow (i := 0) (H' := [_, _, _, _, _, _]) rfl rfl (by show _ * 40 ≤ _; first | omega | (simp only [ls]; omega))
       clear S192; subst e2
       replace hsi := hsi.mono hle147
       replace hso := hso.mono hle147
       replace hfa := hfa.mono hle147
       replace hfd := hfd.mono hle147
       have herr : curE d m = 0 := by unfold curE; rw [if_pos (by omega), if_pos hn53]
       refine .inl ⟨herr, _, rfl, _, _, hle147, (S193.pick [1, 2] [_, _] (by decide) ⟨rfl, rfl, trivial⟩).bun, ?_⟩
       have e8 : curD d m = ⟨(U1c d.crs (Ud d m.at_ false).1 (Ud d m.at_ false).2 (2 * (d.crs.length : Int) + 2)) ++ [(⟨(U2d z0 z1 z2 z3 (decide (m.by_ % 2 = 1))).a, (U2d z0 z1 z2 z3 (decide (m.by_ % 2 = 1))).b, (U2d z0 z1 z2 z3 (decide (m.by_ % 2 = 1))).c, (U2d z0 z1 z2 z3 (decide (m.by_ % 2 = 1))).d, (U2d z0 z1 z2 z3 (decide (m.by_ % 2 = 1))).plus⟩ : Cr)], d.loops⟩ := by unfold curD; rw [if_neg (by omega), ← hzz]
       rw [e8]
       exact ⟨rfl, _, _, rfl, hr2⟩
     ·have herr : curE d m = 2 := by unfold curE; rw [if_pos (by omega), if_neg hn53]
      refine U2e (k := 10) rfl rfl rfl rfl rfl rfl rfl cf109 S114 (U25 2 S114.lend) ?_
      intro w9 M9 hle9 S9
      subst hC
      exact .inr ⟨by rw [herr]; first | decide | assumption, by rw [herr], M9, (Hp.le_refl _).trans hle9, S9.pick [] [] (by decide) trivial⟩
    ·have herr : curE d m = 3 := by unfold curE; rw [if_neg (by omega)]
     refine U37 (i := 20) 0 rfl (by kernel_rfl) rfl rfl rfl rfl rfl rfl rfl cf109 (fun w9 S9 => U25 3 S9.lend) ?_
     intro w9 M9 hle9 S9
     subst hC
     exact .inr ⟨by rw [herr]; first | decide | assumption, by rw [herr], M9, (Hp.le_refl _).trans hle9, S9.pick [] [] (by decide) trivial⟩
   ·refine Ur (i := 16) (d := 39) 4 rfl (by kernel_rfl) (by kernel_rfl) (by kernel_rfl) ⟨_, _, _, rfl, rfl, rfl, rfl⟩ rfl rfl ?_
    refine Ur (i := 17) (d := 40) 3 rfl (by kernel_rfl) (by kernel_rfl) (by kernel_rfl) ⟨_, _, _, rfl, rfl, rfl, rfl⟩ rfl rfl ?_
    refine Ur (i := 18) (d := 41) 2 rfl (by kernel_rfl) (by kernel_rfl) (by kernel_rfl) ⟨_, _, _, rfl, rfl, rfl, rfl⟩ rfl rfl ?_
    refine wap 19 1 rfl (by kernel_rfl) (fun _ => U1r rfl rfl rfl) ?_
    have herr : curE d m = 3 := by unfold curE; rw [if_neg (by omega)]
    refine U37 (i := 20) 0 rfl (by kernel_rfl) rfl rfl rfl rfl rfl rfl rfl cf109 (fun w9 S9 => U25 3 S9.lend) ?_
    intro w9 M9 hle9 S9
    subst hC
    exact .inr ⟨by rw [herr]; first | decide | assumption, by rw [herr], M9, (Hp.le_refl _).trans hle9, S9.pick [] [] (by decide) trivial⟩
  ·refine wap 8 12 rfl (by kernel_rfl) (fun _ => run_move rfl rfl) ?_
   refine wap 9 11 rfl (by kernel_rfl) (fun _ => U1r rfl rfl rfl) ?_
   refine wap 10 10 rfl (by kernel_rfl) (fun _ => run_move rfl rfl) ?_
   refine Ur (i := 11) (d := 34) 9 rfl (by kernel_rfl) (by kernel_rfl) (by kernel_rfl) ⟨_, _, _, rfl, rfl, rfl, rfl⟩ rfl rfl ?_
   refine Ur (i := 12) (d := 35) 8 rfl (by kernel_rfl) (by kernel_rfl) (by kernel_rfl) ⟨_, _, _, rfl, rfl, rfl, rfl⟩ rfl rfl ?_
   refine Ur (i := 13) (d := 36) 7 rfl (by kernel_rfl) (by kernel_rfl) (by kernel_rfl) ⟨_, _, _, rfl, rfl, rfl, rfl⟩ rfl rfl ?_
   refine wap 14 6 rfl (by kernel_rfl) (fun _ => U1r rfl rfl rfl) ?_
   refine wap 15 5 rfl (by kernel_rfl) (fun _ => run_move rfl rfl) ?_
   refine Ur (i := 16) (d := 39) 4 rfl (by kernel_rfl) (by kernel_rfl) (by kernel_rfl) ⟨_, _, _, rfl, rfl, rfl, rfl⟩ rfl rfl ?_
   refine Ur (i := 17) (d := 40) 3 rfl (by kernel_rfl) (by kernel_rfl) (by kernel_rfl) ⟨_, _, _, rfl, rfl, rfl, rfl⟩ rfl rfl ?_
   refine Ur (i := 18) (d := 41) 2 rfl (by kernel_rfl) (by kernel_rfl) (by kernel_rfl) ⟨_, _, _, rfl, rfl, rfl, rfl⟩ rfl rfl ?_
   refine wap 19 1 rfl (by kernel_rfl) (fun _ => U1r rfl rfl rfl) ?_
   have herr : curE d m = 3 := by unfold curE; rw [if_neg (by omega)]
   refine U37 (i := 20) 0 rfl (by kernel_rfl) rfl rfl rfl rfl rfl rfl rfl cf109 (fun w9 S9 => U25 3 S9.lend) ?_
   intro w9 M9 hle9 S9
   subst hC
   exact .inr ⟨by rw [herr]; first | decide | assumption, by rw [herr], M9, (Hp.le_refl _).trans hle9, S9.pick [] [] (by decide) trivial⟩
end Go.Proofs.YthppkofceancjaaGreat
namespace Go.Proofs.YthppkofceancjaaGreat
open Go.ChangeShapes Go.WideShapes Go.ChangeAt Go.RowKit
def upd {α : Type} (h : Nat → α) (e : Nat) (v : α) (k : Nat) : α := if k = e then v else h k
theorem nth_fn4 {e : Nat} (f : Nat → Value) (h : e < 4) : nth [f 0, f 1, f 2, f 3] (0 + e * 1) = some (f e) := by
  have : e = 0 ∨ e = 1 ∨ e = 2 ∨ e = 3 := by omega
  rcases this with rfl | rfl | rfl | rfl <;> rfl
end Go.Proofs.YthppkofceancjaaGreat
namespace Go.Proofs.YthppkofceancjaaGreat
open Go.ChangeShapes Go.WideShapes Go.ChangeAt Go.RowKit
def eiN (b : Bool) (f o : Nat) : Nat := if b = true then o else f
def cutN (x : Da) (n : Int) (k : Nat) : Int := ga (if x.b = true then [n + 1, n, x.a] else [x.a, n, n + 1]) k
def U3q (F : Nat → Int) (b a : Nat) : Cr := ⟨F (b % 4), F ((b + 1) % 4), F ((b + 2) % 4), F ((b + 3) % 4), decide ((a : Int) = (((b + 3) % 4 : Nat) : Int))⟩
def daE (x y : Da) : Bool := decide (x.a = y.a ∧ x.b = y.b)
def rvI (p : Nat) (a c : Int) : Int := if p = 0 then a else c
noncomputable def Zw0:=Tryz.f122.body.getD .skip
def Zw1 := cL Zw0
def Zw2 := cR Zw0
def Zw3 := cL Zw2
def Zw4 := cR Zw2
def Zw5 := cL Zw3
def Zw6 := cR Zw3
def Zw7 := cL Zw6
def Zw8 := cR Zw6
def Zw9 := cL Zw7
def Zwa := cR Zw7
def Zwb := cL Zw4
def Zwc := cR Zw4
set_option maxRecDepth 10000 in
theorem either_q {w : World} {M : Hp} {X : Fr} (b : Bool) (f : Nat) (o : Nat) (S : SH w M X []) : Cq Tryz.prog 122 [.bool b, .int .i64 (f : Int), .int .i64 (o : Int)] w M X (fun u => u = .int .i64 (eiN b f o : Int)) := by
 unfold Cq
 refine Uo (b := Zw0) Tryz.func122 rfl Tryz.ntmps122 rfl (fun C hC => (U14 [(0, _), (1, _), (2, _)] ⟨rfl, rfl, rfl, trivial⟩ (U2 Zw1 Zw2 rfl rfl rfl (U1 rfl (mvs 0 1 rfl rfl (U5 rfl (nmk [0, 1, 2] rfl (U4 (U2 Zw3 Zw4 rfl rfl rfl ?_)))))))))
 refine U2 Zw5 Zw6 rfl rfl rfl (U1 rfl (mvs 0 1 rfl rfl (U5 rfl (nmk [1, 2, 7] rfl (U4 ?_)))))
 refine U19 Zw7 Zw8 rfl rfl rfl rfl (fun hb7 => ?_) (fun hb7 => ?_)
 ·refine U2 Zw9 Zwa rfl rfl rfl (U1 rfl (mvs 0 2 rfl rfl (U5 rfl (nmk [6] rfl (U4 (Uk hC [_] rfl rfl ⟨rfl, trivial⟩ ?_))))))
  exact ⟨_, rfl, (S.pick [] [] (by decide) trivial), (by show Value.int _ _ = _; unfold eiN; first | rw [if_pos (by assumption)] | rw [if_neg (by simp [*])])⟩
 ·refine Uf rfl (nmk [1] rfl (U4 (U2 Zwb Zwc rfl rfl rfl (U1 rfl (mvs 0 2 rfl rfl (U5 rfl (nmk [6] rfl (U4 ?_))))))))
  refine Uk hC [_] rfl rfl ⟨rfl, trivial⟩ ?_
  exact ⟨_, rfl, (S.pick [] [] (by decide) trivial), (by show Value.int _ _ = _; unfold eiN; first | rw [if_pos (by assumption)] | rw [if_neg (by simp [*])])⟩
noncomputable def Zwd:=Tryz.f168.body.getD .skip
def Zwe := cL Zwd
def Zwf := cR Zwd
def Zwg := cL Zwf
def Zwh := cL Zwg
def Zwi := cL Zwh
def Zwj := cR Zwh
def Zwk := cL Zwi
def Zwl := cR Zwi
def Zwm := cL Zwl
def Zwn := cR Zwl
def Zwo := cL Zwj
def Zwp := cR Zwj
def Zwq := cL Zwo
set_option maxRecDepth 10000 in
theorem Rev3_b {w : World} {M : Hp} {X : Fr} {gb : Nat} (a b c : Int) (S : SH w M X [Rs.bun [Rs.box gb 150 [.int .i64 a, .int .i64 b, .int .i64 c]]]) : C1 Tryz.prog 168 [.slice (some ⟨gb, 0, none⟩) 3 3] w M X (fun u M' r' => u = .tuple [].toArray ∧ M' = M ∧ r' = Rs.bun [Rs.box gb 150 [.int .i64 c, .int .i64 b, .int .i64 a]]) := by
 unfold C1
 replace S := S.unbun
 refine Uo (b := Zwd) Tryz.func168 rfl Tryz.ntmps168 rfl (fun C hC => (U14 [(0, _)] ⟨rfl, trivial⟩ (U2 Zwe Zwf rfl rfl rfl (U1 rfl (mvs 0 1 rfl rfl (wlr 1 rfl (U1f rfl rfl rfl rfl rfl rfl uT53) (wlr 2 rfl (run_sub rfl rfl rfl (by first | omega | (simp only [ls]; omega))) ?_)))))))
 refine mvs 3 2 rfl rfl (U5 rfl (nmk [0, 2, 3] rfl (U4 (Uc Zwg 0 rfl rfl rfl ?_))))
 refine U11 (fun mx_ ax_ wx_ => ∃ (p : Nat), mx_ = 2 - p ∧ Env 28 [(0, .slice (some ⟨gb, 0, none⟩) 3 3), (2, .int .i64 (p : Int)), (3, .int .i64 ((2 - p : Nat) : Int))] ax_ ∧ SH wx_ M X [Rs.box gb 150 [.int .i64 (rvI p a c), .int .i64 b, .int .i64 (rvI p c a)]] ∧ p ≤ 1) rfl ?_ ?_
 ·intro ax_ hax_
  refine ⟨_, ⟨0, rfl, hax_.sub ⟨rfl, rfl, rfl, trivial⟩, S.pick [0] [_] (by decide) ⟨rfl, trivial⟩, ?hq1f0⟩⟩
  case hq1f0 => omega
 ·rintro m1 a1 w1 ⟨p, rfl, he1, S1, hp⟩
  clear S
  refine U1u he1 (c := Zwh) rfl ?_
  clear he1 a1
  refine U2 Zwi Zwj rfl rfl rfl (U2 Zwk Zwl rfl rfl rfl (U1 rfl (mvs 0 2 rfl rfl (wlr 2 rfl (U17 rfl rfl rfl) (U5 rfl (nmk [0, 2, 3, 9] rfl (U4 ?_)))))))
  refine Ue Zwm Zwn rfl rfl rfl rfl (fun hb9 => ?_) (fun hb9 => ?_)
  ·obtain rfl : p = 0 := by omega
   refine Uf rfl (nmk [0, 2, 3] rfl (U4 (U2 Zwo Zwp rfl rfl rfl (Uc Zwq 1 rfl rfl rfl ?_))))
   have S2 := S1.pick [0] [_] (by decide) ⟨rfl, trivial⟩; clear S1
   refine U29 [_] [] rfl (by kernel_rfl) S2 16 rfl ?_
   clear S2
   change WA _ _ _ _ _ _ _ _ _ _ _ _ [_]
   refine wap 0 15 rfl (by kernel_rfl) (fun _ => run_move rfl rfl) ?_
   refine wap 1 14 rfl (by kernel_rfl) (fun _ => run_move rfl rfl) ?_
   refine wap 2 13 rfl (by kernel_rfl) (fun _ => run_move rfl rfl) ?_
   refine wap 3 12 rfl (by kernel_rfl) (fun _ => run_move rfl rfl) ?_
   refine wap 4 11 rfl (by kernel_rfl) (fun _ => run_move rfl rfl) ?_
   refine wap 5 10 rfl (by kernel_rfl) (fun _ => run_move rfl rfl) ?_
   refine wat 6 9 rfl (by kernel_rfl) (fun _ _ _ hz Sz => .inl (U1q (e := 2) (k := 1) rfl rfl rfl uT53 sz3 (by first | rfl | omega) (by decide) rfl)) ?_
   refine wap 8 8 rfl (by kernel_rfl) (fun _ => run_move rfl rfl) ?_
   refine wap 9 7 rfl (by kernel_rfl) (fun _ => run_move rfl rfl) ?_
   refine wat 10 6 rfl (by kernel_rfl) (fun _ _ _ hz Sz => .inl (U1q (e := 0) (k := 1) rfl rfl rfl uT53 sz3 (by first | rfl | omega) (by decide) rfl)) ?_
   refine wa_two (i := 7) (j := 11) 5 rfl rfl (by kernel_rfl) rfl rfl rfl rfl (fun w17 S18 => ?_) (fun w17 S18 => ?_)
   ·refine (Ub rfl rfl (U3 rfl rfl uT3 rfl (S18.boxc (i := 0) rfl rfl)) ?_)
    refine U10.grow [_] (Hp.le_refl _) S18 ?_; clear S18
    change WA _ _ _ _ _ _ _ _ _ _ _ _ [_]
    refine Um (i := 11) 4 rfl (by kernel_rfl) rfl rfl (fun w19 S20 => ?_)
    refine (Ub rfl rfl (U3 rfl rfl uT3 rfl (S20.boxc (i := 0) rfl rfl)) ?_)
    refine U10.grow [_] (Hp.le_refl _) S20 ?_; clear S20
    change WA _ _ _ _ _ _ _ _ _ _ _ _ [_]
    refine wat 12 3 rfl (by kernel_rfl) (fun _ _ _ hz Sz => .inl (U1q (e := 0) (k := 1) rfl rfl rfl uT53 sz3 (by first | rfl | omega) (by decide) rfl)) ?_
    refine Um (i := 13) 2 rfl (by kernel_rfl) rfl rfl (fun w22 S23 => ?_)
    refine (U7 (i := 0) (us := [_]) (l' := [_, _, _]) (H' := [_]) rfl rfl S23 rfl rfl rfl rfl sz3 rfl rfl rfl rfl ?_)
    intro w23 S24; clear S23
    refine U10.grow [_] (Hp.le_refl _) S24 ?_; clear S24
    change WA _ _ _ _ _ _ _ _ _ _ _ _ [_]
    refine wat 14 1 rfl (by kernel_rfl) (fun _ _ _ hz Sz => .inl (U1q (e := 2) (k := 1) rfl rfl rfl uT53 sz3 (by first | rfl | omega) (by decide) rfl)) ?_
    refine Um (i := 15) 0 rfl (by kernel_rfl) rfl rfl (fun w26 S27 => ?_)
    refine (U7 (i := 0) (us := [_]) (l' := [_, _, _]) (H' := [_]) rfl rfl S27 rfl rfl rfl rfl sz3 rfl rfl rfl rfl ?_)
    intro w27 S28; clear S27
    refine U10.grow [_] (Hp.le_refl _) S28 ?_; clear S28
    change WA _ _ _ _ _ _ _ _ _ _ _ _ [_]
    refine Uu (by kernel_rfl) (fun w28 S29 => ?_)
    refine U12 (nmk [0, 2, 3] rfl (U4 (U1 rfl (mvs 0 1 rfl rfl (wlr 1 rfl (Ug rfl rfl rfl (by first | omega | (simp only [ls]; omega))) ?_)))))
    refine mvs 2 1 rfl rfl (wlr 3 rfl (run_sub rfl rfl rfl (by first | omega | (simp only [ls]; omega))) ?_)
    refine mvs 4 2 rfl rfl (U5 rfl (U15 ?_))
    intro ax_ hax_
    refine ⟨_, ?hq2m, ⟨0 + 1, rfl, hax_.sub ⟨rfl, rfl, rfl, trivial⟩, S29.pick [0] [_] (by decide) ⟨rfl, trivial⟩, ?hq2f0⟩⟩
    case hq2f0 => omega
    case hq2m => omega
   ·refine (Ub rfl rfl (U3 rfl rfl uT3 rfl (S18.boxc (i := 0) rfl rfl)) ?_)
    refine U10.grow [_] (Hp.le_refl _) S18 ?_; clear S18
    change WA _ _ _ _ _ _ _ _ _ _ _ _ [_]
    refine Um (i := 7) 4 rfl (by kernel_rfl) rfl rfl (fun w30 S31 => ?_)
    refine (Ub rfl rfl (U3 rfl rfl uT3 rfl (S31.boxc (i := 0) rfl rfl)) ?_)
    refine U10.grow [_] (Hp.le_refl _) S31 ?_; clear S31
    change WA _ _ _ _ _ _ _ _ _ _ _ _ [_]
    refine wat 12 3 rfl (by kernel_rfl) (fun _ _ _ hz Sz => .inl (U1q (e := 0) (k := 1) rfl rfl rfl uT53 sz3 (by first | rfl | omega) (by decide) rfl)) ?_
    refine Um (i := 13) 2 rfl (by kernel_rfl) rfl rfl (fun w33 S34 => ?_)
    refine (U7 (i := 0) (us := [_]) (l' := [_, _, _]) (H' := [_]) rfl rfl S34 rfl rfl rfl rfl sz3 rfl rfl rfl rfl ?_)
    intro w34 S35; clear S34
    refine U10.grow [_] (Hp.le_refl _) S35 ?_; clear S35
    change WA _ _ _ _ _ _ _ _ _ _ _ _ [_]
    refine wat 14 1 rfl (by kernel_rfl) (fun _ _ _ hz Sz => .inl (U1q (e := 2) (k := 1) rfl rfl rfl uT53 sz3 (by first | rfl | omega) (by decide) rfl)) ?_
    refine Um (i := 15) 0 rfl (by kernel_rfl) rfl rfl (fun w37 S38 => ?_)
    refine (U7 (i := 0) (us := [_]) (l' := [_, _, _]) (H' := [_]) rfl rfl S38 rfl rfl rfl rfl sz3 rfl rfl rfl rfl ?_)
    intro w38 S39; clear S38
    refine U10.grow [_] (Hp.le_refl _) S39 ?_; clear S39
    change WA _ _ _ _ _ _ _ _ _ _ _ _ [_]
    refine Uu (by kernel_rfl) (fun w39 S40 => ?_)
    refine U12 (nmk [0, 2, 3] rfl (U4 (U1 rfl (mvs 0 1 rfl rfl (wlr 1 rfl (Ug rfl rfl rfl (by first | omega | (simp only [ls]; omega))) ?_)))))
    refine mvs 2 1 rfl rfl (wlr 3 rfl (run_sub rfl rfl rfl (by first | omega | (simp only [ls]; omega))) ?_)
    refine mvs 4 2 rfl rfl (U5 rfl (U15 ?_))
    intro ax_ hax_
    refine ⟨_, ?hq3m, ⟨0 + 1, rfl, hax_.sub ⟨rfl, rfl, rfl, trivial⟩, S40.pick [0] [_] (by decide) ⟨rfl, trivial⟩, ?hq3f0⟩⟩
    case hq3f0 => omega
    case hq3m => omega
  ·obtain rfl : p = 1 := by omega
   refine U16 rfl rfl (U2j hC [] rfl trivial ?_)
   refine ⟨_, rfl, _, _, Hp.le_refl _, (S1.pick [0] [_] (by decide) ⟨rfl, trivial⟩).bun, ?_⟩
   exact ⟨rfl, rfl, rfl⟩
noncomputable def Zwr:=Tryz.f120.body.getD .skip
def Zws := cL Zwr
def Zwt := cR Zwr
def Zwu := cL Zwt
def Zwv := cR Zwt
def Zww := cL Zwv
def Zwx := cR Zwv
def Zwy := cL Zww
def Zwz := cR Zww
def Zx0 := cL Zwz
def Zx1 := cR Zwz
def Zx2 := cL Zwx
def Zx3 := cR Zwx
set_option maxRecDepth 10000 in
theorem cut_q {w : World} {M : Hp} {X : Fr} (x : Da) (n : Int) (hn : 0 ≤ n ∧ n ≤ 1000) (S : SH w M X []) : Cq Tryz.prog 120 [.agg [.int .i64 x.a, .bool x.b].toArray, .int .i64 n] w M X (fun u => u = .agg [.int .i64 (cutN x n 0), .int .i64 (cutN x n 1), .int .i64 (cutN x n 2)].toArray) := by
 unfold Cq
 refine Uo (b := Zwr) Tryz.func120 rfl Tryz.ntmps120 rfl (fun C hC => (U14 [(0, _), (1, _)] ⟨rfl, rfl, trivial⟩ (U2 Zws Zwt rfl rfl rfl (U1 rfl (wlo 0 1 rfl rfl rfl (U18 (l := [_, _]) rfl rfl rfl rfl rfl S ?_))))))
 intro gb1 w1 S1; clear S
 refine wlo 1 2 rfl rfl rfl (Uh (l := [_, _, _]) rfl rfl rfl zr150 rfl S1 ?_)
 intro gb2 w2 S2; clear S1
 refine U5 rfl (nmk [1, 2, 4] rfl (U4 (U2 Zwu Zwv rfl rfl rfl (U1 rfl (wlr 0 rfl (U0 rfl rfl uT26 rfl (ce3) (nf3)) (wlr 1 rfl (U3 rfl rfl uT3 rfl (S2.boxc (i := 1) rfl rfl)) (mvs 2 2 rfl rfl (wlr 4 rfl (Ug rfl rfl rfl (by first | omega | (simp only [ls]; omega))) ?_))))))))
 refine wlr 5 rfl (U1n (l := [_, _, _]) (pl := [(0, 1), (1, 1), (2, 1)]) rfl rfl uT150 zr150 sz3 rfl rfl rfl) (wlo 6 7 rfl rfl rfl (Uh (l := [_, _, _]) rfl rfl rfl zr150 rfl S2 ?_))
 intro gb3 w3 S3; clear S2
 refine wlo 7 8 rfl rfl rfl (U7 (i := 0) (us := [_, _, _]) (l' := [_, _, _]) (H' := [_, _, _]) rfl rfl S3 rfl rfl rfl rfl sz150 rfl rfl rfl rfl ?_)
 intro w4 S4; clear S3
 refine U5 rfl (nmk [2, 4, 5] rfl (U4 (U2 Zww Zwx rfl rfl rfl (U2 Zwy Zwz rfl rfl rfl (U1 rfl (wlr 0 rfl (U0 rfl rfl uT26 rfl (ce4) (nf4)) (wlr 1 rfl (U3 rfl rfl uT4 rfl (S4.boxc (i := 2) rfl rfl)) (U5 rfl ?_))))))))
 refine nmk [4, 5, 13] rfl (U4 ?_)
 refine U19 Zx0 Zx1 rfl rfl rfl rfl (fun hb13 => ?_) (fun hb13 => ?_)
 ·refine U1 rfl (wlr 0 rfl (run_sliceArr rfl rfl uT150 sz3 (by decide)) ?_)
  have S5 := S4.pick [0, 1, 2] [_, _, _] (by decide) ⟨rfl, rfl, rfl, trivial⟩; clear S4
  have S6 : SH _ _ _ (Rs.bun [_] :: [_, _]) := SH.bunC (A := [_]) (B := [_, _]) S5; clear S5
  have S7 : SH _ _ _ [_, _, _] := S6.less (i := 0) rfl
  have hcall1 := Rev3_b x.a n (n + 1) (S6.lend1 (i := 0) rfl); clear S7
  refine wlo 1 2 rfl rfl rfl (wo_c1 (i := 0) rfl rfl rfl rfl rfl rfl rfl cf168 S6 rfl hcall1 ?_)
  intro vw5 w5 M1 rw5 hle1 S8 hR1; clear S6
  obtain ⟨huhMX1, hMX1, hR2⟩ := hR1
  rw [hMX1] at S8
  clear hMX1
  subst huhMX1
  subst hR2
  replace S8 : SH _ _ _ (Rs.bun [_] :: [_, _]) := S8
  have S9 : SH _ _ _ [_, _, _] := SH.U2y (A := [_]) (B := [_, _]) S8; clear S8
  refine U5 rfl (nmk [4, 5] rfl (U4 (U2 Zx2 Zx3 rfl rfl rfl (U1 rfl (wlr 0 rfl (U8 (us := [_, _, _]) rfl rfl uT150 rfl sz150 (S9.boxcs (i := 0) rfl ⟨rfl, rfl, rfl, trivial⟩)) (wlo 1 2 rfl rfl rfl (U7 (i := 1) (us := [_, _, _]) (l' := [_, _, _]) (H' := [_, _, _]) rfl rfl S9 rfl rfl rfl rfl sz150 rfl rfl rfl rfl ?_)))))))
  intro w6 S10; clear S9
  refine U5 rfl (nmk [4] rfl (U4 (Uk hC [_] rfl rfl ⟨⟨_, rfl, Up (us := [_, _, _]) uT150 rfl sz150 (S10.boxcs (i := 1) rfl ⟨rfl, rfl, rfl, trivial⟩)⟩, trivial⟩ ?_)))
  exact ⟨_, rfl, (S10.pick [] [] (by decide) trivial), (by show Value.agg [_, _, _].toArray = _; unfold cutN; first | (rw [if_pos (by assumption)]; rfl) | (rw [if_neg (by simp [*])]; rfl))⟩
 ·refine Uf rfl (nmk [4, 5] rfl (U4 (U2 Zx2 Zx3 rfl rfl rfl (U1 rfl (wlr 0 rfl (U8 (us := [_, _, _]) rfl rfl uT150 rfl sz150 (S4.boxcs (i := 0) rfl ⟨rfl, rfl, rfl, trivial⟩)) (wlo 1 2 rfl rfl rfl (U7 (i := 1) (us := [_, _, _]) (l' := [_, _, _]) (H' := [_, _, _]) rfl rfl S4 rfl rfl rfl rfl sz150 rfl rfl rfl rfl ?_)))))))
  intro w7 S11; clear S4
  refine U5 rfl (nmk [4] rfl (U4 (Uk hC [_] rfl rfl ⟨⟨_, rfl, Up (us := [_, _, _]) uT150 rfl sz150 (S11.boxcs (i := 1) rfl ⟨rfl, rfl, rfl, trivial⟩)⟩, trivial⟩ ?_)))
  exact ⟨_, rfl, (S11.pick [] [] (by decide) trivial), (by show Value.agg [_, _, _].toArray = _; unfold cutN; first | (rw [if_pos (by assumption)]; rfl) | (rw [if_neg (by simp [*])]; rfl))⟩
noncomputable def Zx4:=Tryz.f169.body.getD .skip
def Zx5 := cL Zx4
def Zx6 := cR Zx4
def Zx7 := cL Zx6
def Zx8 := cR Zx6
set_option maxRecDepth 10000 in
theorem crossAt_q {w : World} {M : Hp} {X : Fr} (i : Nat) (F : Nat → Int) {gr : Nat} (b : Nat) {gl : Nat} (hbr : BxM (M.un X.h) gr 208 [.int .i64 (F 0), .int .i64 (F 1), .int .i64 (F 2), .int .i64 (F 3)]) (hbl : BxM (M.un X.h) gl 3 [.int .i64 (b : Int)]) (hb4 : b < 4) (hi4 : i < 4) (S : SH w M X []) : Cq Tryz.prog 169 [.int .i64 (i : Int), .pointer (some ⟨gr, 0, none⟩), .pointer (some ⟨gl, 0, none⟩)] w M X (fun u => u = .int .i64 (F ((b + i) % 4))) := by
 unfold Cq
 refine Uo (b := Zx4) Tryz.func169 rfl Tryz.ntmps169 rfl (fun C hC => (U14 [(0, _), (1, _), (2, _)] ⟨rfl, rfl, rfl, trivial⟩ (U2 Zx5 Zx6 rfl rfl rfl (U1 rfl (mvs 0 1 rfl rfl (U5 rfl (nmk [0, 1, 2] rfl (U4 (U2 Zx7 Zx8 rfl rfl rfl ?_)))))))))
 refine U1 rfl (wlr 0 rfl (U3 rfl rfl uT3 rfl (hbl.cell S.um rfl)) (mvs 1 1 rfl rfl (wlr 2 rfl (Ug rfl rfl rfl (by first | omega | (simp only [ls]; omega))) ?_)))
 refine wlr 3 rfl (U2i rfl rfl rfl (by first | omega | (simp only [ls]; omega))) ?_
 refine U1t 8 (.int .i64 (((b + i) % 4 : Nat) : Int)) rfl (int_eq (by omega)) ?_
 refine wlr 4 rfl (U1d (e := (b + i) % 4) (k := 1) rfl rfl rfl uT208 sz3 (by first | rfl | omega) (by first | omega | (simp only [ls]; omega))) ?_
 refine wlr 5 rfl (U3 rfl rfl uT3 rfl (hbr.cell S.um (nth_fn4 (fun k => Value.int .i64 (F k)) (by first | omega | (simp only [ls]; omega))))) ?_
 refine mvs 6 1 rfl rfl (U5 rfl (nmk [4] rfl (U4 (Uk hC [_] rfl rfl ⟨rfl, trivial⟩ ?_))))
 exact ⟨_, rfl, (S.pick [] [] (by decide) trivial), rfl⟩
noncomputable def Zx9:=Tryz.f123.body.getD .skip
def Zxa := cL Zx9
def Zxb := cR Zx9
def Zxc := cL Zxb
def Zxd := cR Zxb
def Zxe := cL Zxd
def Zxf := cR Zxd
set_option maxRecDepth 10000 in
theorem crossing_q {w : World} {M : Hp} {X : Fr} (F : Nat → Int) (b : Nat) (a : Nat) (hb4 : b < 4) (S : SH w M X []) : Cq Tryz.prog 123 [.agg [.int .i64 (F 0), .int .i64 (F 1), .int .i64 (F 2), .int .i64 (F 3)].toArray, .int .i64 (b : Int), .int .i64 (a : Int)] w M X (fun u => u = .agg (crF (U3q F b a)).toArray) := by
 unfold Cq
 refine Uo (b := Zx9) Tryz.func123 rfl Tryz.ntmps123 rfl (fun C hC => (U14 [(0, _), (1, _), (2, _)] ⟨rfl, rfl, rfl, trivial⟩ (U2 Zxa Zxb rfl rfl rfl (U1 rfl (wlo 0 1 rfl rfl rfl (U18 (l := [_, _, _, _]) rfl rfl rfl rfl rfl S ?_))))))
 intro gb1 w1 S1; clear S
 refine wlo 1 2 rfl rfl rfl (U18 (l := [_]) rfl rfl rfl rfl rfl S1 ?_)
 intro gb2 w2 S2; clear S1
 refine wlo 2 3 rfl rfl rfl (Uh (l := [_, _, _, _, _]) rfl rfl rfl zr77 rfl S2 ?_)
 intro gb3 w3 S3; clear S2
 refine U5 rfl (nmk [2, 3, 4, 6] rfl (U4 (U2 Zxc Zxd rfl rfl rfl (U1 rfl (wlr 0 rfl (U2l (vs := [_, _]) rfl rfl rfl rfl) (mvs 1 1 rfl rfl (U5 rfl (nmk [2, 4, 6, 7] rfl ?_))))))))
 refine U4 (U2 Zxe Zxf rfl rfl rfl (Ux rfl (by kernel_rfl) S3 15 rfl ?_))
 clear S3
 refine wap 0 14 rfl (by kernel_rfl) (fun _ => run_move rfl rfl) ?_
 refine wat 1 13 rfl (by kernel_rfl) (fun _ _ _ hz Sz => U39 rfl rfl rfl rfl rfl cf169 Sz (crossAt_q 0 F b (SH.boxMs (i := 2) Sz rfl) (SH.boxMs (i := 1) Sz rfl) (by omega) (by omega) Sz.lend)) ?_
 refine wap 2 12 rfl (by kernel_rfl) (fun _ => run_move rfl rfl) ?_
 refine wat 3 11 rfl (by kernel_rfl) (fun _ _ _ hz Sz => U39 rfl rfl rfl rfl rfl cf169 Sz (crossAt_q 1 F b (SH.boxMs (i := 2) Sz rfl) (SH.boxMs (i := 1) Sz rfl) (by omega) (by omega) Sz.lend)) ?_
 refine wap 4 10 rfl (by kernel_rfl) (fun _ => run_move rfl rfl) ?_
 refine wat 5 9 rfl (by kernel_rfl) (fun _ _ _ hz Sz => U39 rfl rfl rfl rfl rfl cf169 Sz (crossAt_q 2 F b (SH.boxMs (i := 2) Sz rfl) (SH.boxMs (i := 1) Sz rfl) (by omega) (by omega) Sz.lend)) ?_
 refine wap 6 8 rfl (by kernel_rfl) (fun _ => run_move rfl rfl) ?_
 refine wat 7 7 rfl (by kernel_rfl) (fun _ _ _ hz Sz => U39 rfl rfl rfl rfl rfl cf169 Sz (crossAt_q 3 F b (SH.boxMs (i := 2) Sz rfl) (SH.boxMs (i := 1) Sz rfl) (by omega) (by omega) Sz.lend)) ?_
 refine wap 8 6 rfl (by kernel_rfl) (fun _ => run_move rfl rfl) ?_
 refine wat 9 5 rfl (by kernel_rfl) (fun _ _ _ hz Sz => .inl (U3 rfl rfl uT3 rfl (Sz.suf.boxc (i := 1) rfl rfl))) ?_
 refine wap 10 4 rfl (by kernel_rfl) (fun _ => Ug rfl rfl rfl (by first | omega | (simp only [ls]; omega))) ?_
 refine wap 11 3 rfl (by kernel_rfl) (fun _ => U2i rfl rfl rfl (by first | omega | (simp only [ls]; omega))) ?_
 refine wa_eq 20 (.int .i64 (((b + 3) % 4 : Nat) : Int)) rfl (int_eq (by omega)) ?_
 refine wap 12 2 rfl (by kernel_rfl) (fun _ => Uz rfl rfl rfl) ?_
 refine wat 13 1 rfl (by kernel_rfl) (fun _ _ _ hz Sz => .inl (run_build (l := [_, _, _, _, _]) rfl rfl st77 rfl rfl)) ?_
 refine Um (i := 14) 0 rfl (by kernel_rfl) rfl rfl (fun w19 S19 => ?_)
 refine (U7 (i := 0) (us := [_, _, _, _, _]) (l' := [_, _, _, _, _]) (H' := [_, _, _]) rfl rfl S19 rfl rfl rfl rfl sz77 rfl rfl rfl rfl ?_)
 intro w20 S20; clear S19
 refine U10.turn (by kernel_rfl) S20 ?_; clear S20
 change WA _ _ _ _ _ _ _ _ _ _ _ _ [_, _, _]
 refine Uu (by kernel_rfl) (fun w21 S21 => ?_)
 refine nmk [6] rfl (U4 (Uk hC [_] rfl rfl ⟨⟨_, rfl, Up (us := [_, _, _, _, _]) uT77 rfl sz77 (S21.boxcs (i := 0) rfl ⟨rfl, rfl, rfl, rfl, rfl, trivial⟩)⟩, trivial⟩ ?_))
 exact ⟨_, rfl, (S21.pick [] [] (by decide) trivial), (by rfl)⟩
noncomputable def Zxg:=Tryz.f167.body.getD .skip
def Zxh := cL Zxg
def Zxi := cR Zxg
def Zxj := cL Zxi
def Zxk := cR Zxi
def Zxl := cL Zxj
def Zxm := cR Zxj
def Zxn := cL Zxm
def Zxo := cL Zxn
def Zxp := cL Zxo
def Zxq := cR Zxo
def Zxr := cL Zxq
def Zxs := cR Zxq
def Zxt := cL Zxr
def Zxu := cR Zxr
def Zxv := cL Zxs
def Zxw := cR Zxs
def Zxx := cL Zxv
def Zxy := cL Zxx
def Zxz := cR Zxx
def Zy0 := cL Zxz
def Zy1 := cR Zxz
def Zy2 := cL Zy1
def Zy3 := cR Zy1
def Zy4 := cL Zy2
def Zy5 := cR Zy2
def Zy6 := cL Zxk
def Zy7 := cR Zxk
set_option maxRecDepth 10000 in
theorem IndexDa_q {w : World} {M : Hp} {X : Fr} (s : List Da) {sA : Option Addr} {sc : Nat} (v : Da) (hs : RdA cdDa (M.un X.h) sA sc s) (S : SH w M X []) : Cq Tryz.prog 167 [.slice sA s.length sc, .agg [.int .i64 v.a, .bool v.b].toArray] w M X (fun u => u = .int .i64 (idxG (daE v) s)) := by
 unfold Cq
 have rmhs : s.length * 16 ≤ 140737488355328 := hs.room
 refine Uo (b := Zxg) Tryz.func167 rfl Tryz.ntmps167 rfl (fun C hC => (U14 [(0, _), (1, _)] ⟨rfl, rfl, trivial⟩ (U2 Zxh Zxi rfl rfl rfl (U1 rfl (wlo 0 1 rfl rfl rfl (U18 (l := [_, _]) rfl rfl rfl rfl rfl S ?_))))))
 intro gb1 w1 S1; clear S
 refine mvs 1 1 rfl rfl (U5 rfl (nmk [0, 3] rfl (U4 (U2 Zxj Zxk rfl rfl rfl (U2 Zxl Zxm rfl rfl rfl (U1 rfl (mvs 0 1 rfl rfl (wlr 1 rfl (U1f rfl rfl rfl rfl rfl rfl uT141) ?_))))))))
 refine mvs 2 1 rfl rfl (U5 rfl (nmk [0, 3, 7, 8] rfl (U4 (Uc Zxn 0 rfl rfl rfl ?_))))
 refine U11 (fun mx_ ax_ wx_ => ∃ (i : Nat), mx_ = s.length - i ∧ Env 19 [(0, .slice sA s.length sc), (3, .pointer (some ⟨gb1, 0, none⟩)), (7, .int .i64 (s.length : Int)), (8, .int .i64 (i : Int))] ax_ ∧ SH wx_ M X [Rs.box gb1 26 [.int .i64 v.a, .bool v.b]] ∧ i ≤ s.length ∧ (∀ j, j < i → daE v (ga s j) = false)) rfl ?_ ?_
 ·intro ax_ hax_
  refine ⟨_, ⟨0, rfl, hax_.sub ⟨rfl, rfl, rfl, rfl, trivial⟩, S1.pick [0] [_] (by decide) ⟨rfl, trivial⟩, ?hq1f0, ?hq1f1⟩⟩
  case hq1f0 => omega
  case hq1f1 => (intro j hj; omega)
 ·rintro m1 a1 w2 ⟨i, rfl, he1, S2, hi, hq⟩
  clear S1
  refine U1u he1 (c := Zxo) rfl ?_
  clear he1 a1
  refine U2 Zxp Zxq rfl rfl rfl (U1 rfl (wlr 0 rfl (U17 rfl rfl rfl) (U5 rfl (U4 (U2 Zxr Zxs rfl rfl rfl ?_)))))
  refine Ue Zxt Zxu rfl rfl rfl rfl (fun hb9 => ?_) (fun hb9 => ?_)
  ·refine Uf rfl (nmk [0, 3, 7, 8] rfl (U4 (U2 Zxv Zxw rfl rfl rfl (Uc Zxx 1 rfl rfl rfl (U2 Zxy Zxz rfl rfl rfl (U1 rfl (mvs 0 2 rfl rfl (U5 rfl ?_))))))))
   refine nmk [0, 3, 7, 8, 5] rfl (U4 (U2 Zy0 Zy1 rfl rfl rfl (Ux rfl (by kernel_rfl) S2 6 rfl ?_)))
   clear S2
   refine wat 0 5 rfl (by kernel_rfl) (fun _ _ _ hz Sz => .inl (U8 (us := [_, _]) rfl rfl uT26 rfl sz26 (Sz.suf.boxcs (i := 0) rfl ⟨rfl, rfl, trivial⟩))) ?_
   refine wap 1 4 rfl (by kernel_rfl) (fun _ => run_move rfl rfl) ?_
   refine wap 2 3 rfl (by kernel_rfl) (fun _ => run_move rfl rfl) ?_
   refine wat 3 2 rfl (by kernel_rfl) (fun _ _ _ hz Sz => .inl (Uj (C := cdDa) i rfl rfl rfl sl141 (by first | rfl | omega) (hs.mono (Hp.Ua hz Sz.mx)) (by first | omega | (simp only [ls]; omega)))) ?_
   refine wat 4 1 rfl (by kernel_rfl) (fun _ _ _ hz Sz => .inl (U8 (us := [_, _]) rfl rfl uT26 rfl sz26 ((hs.mono (Hp.Ua hz Sz.mx)).U1x Sz.um (e := i) (by first | omega | (simp only [ls]; omega)) (j := 0) ⟨rfl, rfl, trivial⟩))) ?_
   refine wap 5 0 rfl (by kernel_rfl) (fun _ => run_eqSt (Q := v.a = ((ga s i).a) ∧ v.b = ((ga s i).b)) rfl rfl rfl se26 ⟨_, _, _, _, rfl, rfl, ⟨_, _, rfl, rfl, rfl⟩, rfl⟩) ?_
   refine Uu (by kernel_rfl) (fun w9 S9 => ?_)
   refine nmk [0, 3, 7, 8, 5, 16] rfl (U4 ?_)
   refine Ue Zy2 Zy3 rfl rfl rfl rfl (fun hb16 => ?_) (fun hb16 => ?_)
   ·refine U2 Zy4 Zy5 rfl rfl rfl (U1 rfl (mvs 0 2 rfl rfl (U5 rfl (nmk [4] rfl (U4 (Uk hC [_] rfl rfl ⟨rfl, trivial⟩ ?_))))))
    exact ⟨_, rfl, (S9.pick [] [] (by decide) trivial), (by rw [idxG_hit (p := daE v) (k := i) (by omega) (decide_eq_true hb16) hq]; rfl)⟩
   ·refine Uf rfl (U12 (nmk [0, 3, 7, 8] rfl (U4 (U1 rfl (wlr 0 rfl (Ug rfl rfl rfl (by first | omega | (simp only [ls]; omega))) ?_)))))
    refine mvs 1 1 rfl rfl (U5 rfl (U15 ?_))
    intro ax_ hax_
    refine ⟨_, ?hq2m, ⟨i + 1, rfl, hax_.sub ⟨rfl, rfl, rfl, rfl, trivial⟩, S9.pick [0] [_] (by decide) ⟨rfl, trivial⟩, ?hq2f0, ?hq2f1⟩⟩
    case hq2f0 => omega
    case hq2f1 => (intro j hj; by_cases e : j = i; (subst e; exact decide_eq_false hb16); exact hq j (by omega))
    case hq2m => omega
  ·refine U16 rfl rfl (U1a [] trivial (U4 (U2 Zy6 Zy7 rfl rfl rfl (U1 rfl (mvs 0 1 rfl rfl (U5 rfl (U4 (Uk hC [_] rfl rfl ⟨rfl, trivial⟩ ?_))))))))
   exact ⟨_, rfl, (S2.pick [] [] (by decide) trivial), (by rw [idxG_none (p := daE v) (fun j hj => hq j (by omega))]; rfl)⟩
noncomputable def Zy8:=Tryz.f119.body.getD .skip
def Zy9 := cL Zy8
def Zya := cR Zy8
def Zyb := cL Zya
def Zyc := cR Zya
set_option maxRecDepth 10000 in
theorem ContainsDa_q {w : World} {M : Hp} {X : Fr} (s : List Da) {sA : Option Addr} {sc : Nat} (v : Da) (hs : RdA cdDa (M.un X.h) sA sc s) (S : SH w M X []) : Cq Tryz.prog 119 [.slice sA s.length sc, .agg [.int .i64 v.a, .bool v.b].toArray] w M X (fun u => u = .bool (s.any (daE v))) := by
 unfold Cq
 have rmhs : s.length * 16 ≤ 140737488355328 := hs.room
 refine Uo (b := Zy8) Tryz.func119 rfl Tryz.ntmps119 rfl (fun C hC => (U14 [(0, _), (1, _)] ⟨rfl, rfl, trivial⟩ (U2 Zy9 Zya rfl rfl rfl (U1 rfl (wlo 0 1 rfl rfl rfl (U18 (l := [_, _]) rfl rfl rfl rfl rfl S ?_))))))
 intro gb1 w1 S1; clear S
 refine mvs 1 1 rfl rfl (U5 rfl (nmk [0, 3] rfl (U4 (U2 Zyb Zyc rfl rfl rfl (U1 rfl (mvs 0 1 rfl rfl (wlr 1 rfl (U8 (us := [_, _]) rfl rfl uT26 rfl sz26 (S1.boxcs (i := 0) rfl ⟨rfl, rfl, trivial⟩)) (wlo 2 3 rfl rfl rfl (U20 rfl rfl rfl rfl rfl rfl rfl cf167 S1 (IndexDa_q s v (hs.mono S1.Uw) S1.lend) ?_)))))))))
 rintro _ w2 S2 rfl; clear S1
 refine wlr 3 rfl (U2q rfl rfl rfl) (mvs 4 1 rfl rfl (U5 rfl (nmk [4] rfl (U4 (Uk hC [_] rfl rfl ⟨rfl, trivial⟩ ?_)))))
 exact ⟨_, rfl, (S2.pick [] [] (by decide) trivial), (by show Value.bool _ = _; rw [idxG_any])⟩
noncomputable def Zyd:=Tryz.f166.body.getD .skip
def Zye := cL Zyd
def Zyf := cR Zyd
def Zyg := cL Zyf
def Zyh := cR Zyf
def Zyi := cL Zyg
def Zyj := cR Zyg
def Zyk := cL Zyj
def Zyl := cL Zyk
def Zym := cL Zyl
def Zyn := cR Zyl
def Zyo := cL Zyn
def Zyp := cR Zyn
def Zyq := cL Zyo
def Zyr := cR Zyo
def Zys := cL Zyp
def Zyt := cR Zyp
def Zyu := cL Zys
def Zyv := cL Zyu
def Zyw := cR Zyu
def Zyx := cL Zyw
def Zyy := cR Zyw
def Zyz := cL Zyy
def Zz0 := cR Zyy
def Zz1 := cL Zyz
def Zz2 := cR Zyz
def Zz3 := cL Zyh
def Zz4 := cR Zyh
set_option maxRecDepth 10000 in
theorem IndexFuncD_q {w : World} {M : Hp} {X : Fr} (s : List (List Da)) {sA : Option Addr} {sc : Nat} {sv : List SlV} (fv : FuncId) (cap : List Value) (p : List Da → Bool) (hs : RdA (cdV 141) (M.un X.h) sA sc sv) (hds : Rd2 cdDa (M.un X.h) sv s) (hen : ∀ args w, (callFunc fv args).run Tryz.prog w = .ok (.enter fv args) w) (hf : ∀ (w : World) (Y : Fr), (M.un X.h).le (M.un Y.h) → SH w M Y [] → ∀ (A : Option Addr) (c : Nat) (x : List Da), x ∈ s → RdA cdDa (M.un Y.h) A c x → Cq Tryz.prog fv ([.slice A x.length c] ++ cap) w M Y (fun u => u = .bool (p x))) (S : SH w M X []) : Cq Tryz.prog 166 [.slice sA sv.length sc, .func (.func fv) #[] cap.toArray] w M X (fun u => u = .int .i64 (idxG p s)) := by
 unfold Cq
 have rmhs : sv.length * 24 ≤ 140737488355328 := hs.room
 refine Uo (b := Zyd) Tryz.func166 rfl Tryz.ntmps166 rfl (fun C hC => (U14 [(0, _), (1, _)] ⟨rfl, rfl, trivial⟩ (U2 Zye Zyf rfl rfl rfl (U1 rfl (mvs 0 1 rfl rfl (U5 rfl (nmk [0, 1] rfl (U4 (U2 Zyg Zyh rfl rfl rfl ?_)))))))))
 refine U2 Zyi Zyj rfl rfl rfl (U1 rfl (mvs 0 1 rfl rfl (wlr 1 rfl (U1f rfl rfl rfl rfl rfl rfl uT65) (mvs 2 1 rfl rfl (U5 rfl (nmk [0, 1, 7, 8] rfl (U4 (Uc Zyk 0 rfl rfl rfl ?_))))))))
 refine U11 (fun mx_ ax_ wx_ => ∃ (k : Nat), mx_ = s.length - k ∧ Env 19 [(0, .slice sA sv.length sc), (1, .func (.func fv) #[] cap.toArray), (7, .int .i64 (sv.length : Int)), (8, .int .i64 (k : Int))] ax_ ∧ SH wx_ M X [] ∧ k ≤ s.length ∧ (∀ j, j < k → p (ga s j) = false)) rfl ?_ ?_
 ·intro ax_ hax_
  refine ⟨_, ⟨0, rfl, hax_.sub ⟨rfl, rfl, rfl, rfl, trivial⟩, S.pick [] [] (by decide) trivial, ?hq1f0, ?hq1f1⟩⟩
  case hq1f0 => (have := hds.1; omega)
  case hq1f1 => (intro j hj; omega)
 ·rintro m1 a1 w1 ⟨k, rfl, he1, S1, hk, hno⟩
  clear S
  refine U1u he1 (c := Zyl) rfl ?_
  clear he1 a1
  have hsl := hds.1
  refine U2 Zym Zyn rfl rfl rfl (U1 rfl (wlr 0 rfl (U17 rfl rfl rfl) (U5 rfl (U4 (U2 Zyo Zyp rfl rfl rfl ?_)))))
  refine Ue Zyq Zyr rfl rfl rfl rfl (fun hb9 => ?_) (fun hb9 => ?_)
  ·refine Uf rfl (nmk [0, 1, 7, 8] rfl (U4 (U2 Zys Zyt rfl rfl rfl (Uc Zyu 1 rfl rfl rfl (U2 Zyv Zyw rfl rfl rfl (U1 rfl (mvs 0 2 rfl rfl (U5 rfl ?_))))))))
   refine nmk [0, 1, 7, 8, 5] rfl (U4 (U2 Zyx Zyy rfl rfl rfl (U1 rfl (mvs 0 3 rfl rfl (wlr 3 rfl (Uj (C := (cdV 141)) k rfl rfl rfl sl65 (by first | rfl | omega) hs (by first | omega | (simp only [ls]; omega))) ?_)))))
   obtain ⟨hn1, hr1⟩ := hds.2 k (by first | omega | (simp only [ls]; omega))
   have rmhr1 : (ga s k).length * 16 ≤ 140737488355328 := hr1.room
   refine wlr 4 rfl (U3 rfl rfl uT141 rfl (hs.cell S1.um (i := k) (by first | omega | (simp only [ls]; omega)) 0 rfl (congrArg (fun n => some (Value.slice _ n _)) hn1))) ?_
   refine wlo 5 6 rfl rfl rfl (wo_cqF rfl rfl rfl rfl rfl rfl rfl hen S1 (hf _ _ S1.Uw S1.lend _ _ _ (U2m (by omega)) (hr1.mono S1.Uw)) ?_)
   rintro _ w2 S2 rfl; clear S1
   refine U5 rfl (nmk [0, 1, 7, 8, 5, 16] rfl (U4 ?_))
   refine U19 Zyz Zz0 rfl rfl rfl rfl (fun hb16 => ?_) (fun hb16 => ?_)
   ·refine U2 Zz1 Zz2 rfl rfl rfl (U1 rfl (mvs 0 2 rfl rfl (U5 rfl (nmk [4] rfl (U4 (Uk hC [_] rfl rfl ⟨rfl, trivial⟩ ?_))))))
    exact ⟨_, rfl, (S2.pick [] [] (by decide) trivial), (by rw [idxG_hit (by omega) hb16 hno]; rfl)⟩
   ·refine Uf rfl (U12 (nmk [0, 1, 7, 8] rfl (U4 (U1 rfl (wlr 0 rfl (Ug rfl rfl rfl (by first | omega | (simp only [ls]; omega))) ?_)))))
    refine mvs 1 1 rfl rfl (U5 rfl (U15 ?_))
    intro ax_ hax_
    refine ⟨_, ?hq2m, ⟨k + 1, rfl, hax_.sub ⟨rfl, rfl, rfl, rfl, trivial⟩, S2.pick [] [] (by decide) trivial, ?hq2f0, ?hq2f1⟩⟩
    case hq2f0 => omega
    case hq2f1 => (intro j hj; by_cases h : j = k; (subst h; exact hb16); exact hno j (by omega))
    case hq2m => omega
  ·refine U16 rfl rfl (U1a [] trivial (U4 (U2 Zz3 Zz4 rfl rfl rfl (U1 rfl (mvs 0 1 rfl rfl (U5 rfl (U4 (Uk hC [_] rfl rfl ⟨rfl, trivial⟩ ?_))))))))
   exact ⟨_, rfl, (S1.pick [] [] (by decide) trivial), (by rw [idxG_none (fun j hj => hno j (by omega))]; rfl)⟩
noncomputable def Zz5:=Tryz.f117.body.getD .skip
def Zz6 := cL Zz5
def Zz7 := cR Zz5
def Zz8 := cL Zz7
def Zz9 := cR Zz7
set_option maxRecDepth 10000 in
theorem ContainsFuncD_q {w : World} {M : Hp} {X : Fr} (s : List (List Da)) {sA : Option Addr} {sc : Nat} {sv : List SlV} (fv : FuncId) (cap : List Value) (p : List Da → Bool) (hs : RdA (cdV 141) (M.un X.h) sA sc sv) (hds : Rd2 cdDa (M.un X.h) sv s) (hen : ∀ args w, (callFunc fv args).run Tryz.prog w = .ok (.enter fv args) w) (hf : ∀ (w : World) (Y : Fr), (M.un X.h).le (M.un Y.h) → SH w M Y [] → ∀ (A : Option Addr) (c : Nat) (x : List Da), x ∈ s → RdA cdDa (M.un Y.h) A c x → Cq Tryz.prog fv ([.slice A x.length c] ++ cap) w M Y (fun u => u = .bool (p x))) (S : SH w M X []) : Cq Tryz.prog 117 [.slice sA sv.length sc, .func (.func fv) #[] cap.toArray] w M X (fun u => u = .bool (s.any p)) := by
 unfold Cq
 have rmhs : sv.length * 24 ≤ 140737488355328 := hs.room
 refine Uo (b := Zz5) Tryz.func117 rfl Tryz.ntmps117 rfl (fun C hC => (U14 [(0, _), (1, _)] ⟨rfl, rfl, trivial⟩ (U2 Zz6 Zz7 rfl rfl rfl (U1 rfl (mvs 0 1 rfl rfl (U5 rfl (nmk [0, 1] rfl (U4 (U2 Zz8 Zz9 rfl rfl rfl ?_)))))))))
 refine U1 rfl (mvs 0 2 rfl rfl (wlo 2 3 rfl rfl rfl (U20 rfl rfl rfl rfl rfl rfl rfl cf166 S (IndexFuncD_q s fv cap p (hs.mono S.Uw) (hds.mono S.Uw) hen (fun w Y hl S9 => hf w Y (S.Uw.trans hl) S9) S.lend) ?_)))
 rintro _ w1 S1 rfl; clear S
 refine wlr 3 rfl (U2q rfl rfl rfl) (mvs 4 1 rfl rfl (U5 rfl (nmk [4] rfl (U4 (Uk hC [_] rfl rfl ⟨rfl, trivial⟩ ?_)))))
 exact ⟨_, rfl, (S1.pick [] [] (by decide) trivial), (by show Value.bool _ = _; rw [← idxG_any])⟩
end Go.Proofs.YthppkofceancjaaGreat
