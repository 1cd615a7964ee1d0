/- Part 9 of the proof of the law MovesDo: the walks through its functions and the plain laws that they need. -/
import Derived.Test.YthppkofceancjaaGreatMvZ8
set_option linter.unusedSimpArgs false
set_option linter.unusedVariables false
noncomputable section
namespace Go.Proofs.YthppkofceancjaaGreat
open Go.ChangeShapes Go.WideShapes Go.ChangeAt Go.RowKit
def onP (u v : Da) (x : List Da) : Bool := x.any (daE u) && x.any (daE v)
def pcross (m : Mv) (F : Nat → Int) (u : Nat) : Cr := if m.ov = true then U3q F (eiN m.vb 0 2) u else U3q F u (eiN m.vb 0 2)
def puE (d : Dg) (m : Mv) : Int := if (1 ≤ m.ua ∧ m.ua ≤ 2 * (d.crs.length : Int)) ∧ (1 ≤ m.va ∧ m.va ≤ 2 * (d.crs.length : Int)) then (if m.ua ≠ m.va ∧ (U6 d).any (onP (⟨m.ua, m.ub⟩ : Da) (⟨m.va, m.vb⟩ : Da)) = true then (if (d.crs.length : Int) + 2 ≤ 16 then 0 else 2) else 8) else 3
def puD (d : Dg) (m : Mv) : Dg := ⟨U1c (U1c d.crs (Ud d m.ua false).1 (Ud d m.ua false).2 (2 * (d.crs.length : Int) + 2)) (Ud d m.va false).1 (Ud d m.va false).2 (2 * (d.crs.length : Int) + 4) ++ [pcross m (fun k => ga ([cutN (⟨m.va, m.vb⟩ : Da) (2 * (d.crs.length : Int) + 3) 1, cutN (⟨m.ua, m.ub⟩ : Da) (2 * (d.crs.length : Int) + 1) 1, cutN (⟨m.va, m.vb⟩ : Da) (2 * (d.crs.length : Int) + 3) 2, cutN (⟨m.ua, m.ub⟩ : Da) (2 * (d.crs.length : Int) + 1) 0] : List Int) k) (eiN m.ub 3 1)] ++ [pcross m (fun k => ga ([cutN (⟨m.va, m.vb⟩ : Da) (2 * (d.crs.length : Int) + 3) 0, cutN (⟨m.ua, m.ub⟩ : Da) (2 * (d.crs.length : Int) + 1) 1, cutN (⟨m.va, m.vb⟩ : Da) (2 * (d.crs.length : Int) + 3) 1, cutN (⟨m.ua, m.ub⟩ : Da) (2 * (d.crs.length : Int) + 1) 2] : List Int) k) (eiN m.ub 1 3)], d.loops⟩
noncomputable def Zza:=Tryz.f118.body.getD .skip
def Zzb := cL Zza
def Zzc := cR Zza
def Zzd := cL Zzc
def Zze := cR Zzc
set_option maxRecDepth 10000 in
theorem push1_q {w : World} {M : Hp} {X : Fr} (s : List Da) {sA : Option Addr} {sc : Nat} (m : Mv) {gm : Nat} (hs : RdA cdDa (M.un X.h) sA sc s) (hbm : BxM (M.un X.h) gm 28 [.int .i64 m.kd, .int .i64 m.at_, .int .i64 m.by_, .int .i64 m.ua, .bool m.ub, .int .i64 m.va, .bool m.vb, .bool m.ov]) (S : SH w M X []) : Cq Tryz.prog 118 [.slice sA s.length sc, .pointer (some ⟨gm, 0, none⟩)] w M X (fun u => u = .bool (onP (⟨m.ua, m.ub⟩ : Da) (⟨m.va, m.vb⟩ : Da) s)) := by
 unfold Cq
 have rmhs : s.length * 16 ≤ 140737488355328 := hs.room
 refine Uo (b := Zza) Tryz.func118 rfl Tryz.ntmps118 rfl (fun C hC => (U14 [(0, _), (1, _)] ⟨rfl, rfl, trivial⟩ (U2 Zzb Zzc rfl rfl rfl (U1 rfl (mvs 0 1 rfl rfl (U5 rfl (nmk [0, 1] rfl (U4 (U2 Zzd Zze rfl rfl rfl ?_)))))))))
 refine U1 rfl (mvs 0 1 rfl rfl (wlr 1 rfl (U0 rfl rfl uT28 rfl (ce26) (nf26)) (wlr 2 rfl (U8 (us := [_, _]) rfl rfl uT26 rfl sz26 (hbm.cells S.um ⟨rfl, rfl, trivial⟩)) (wlo 3 4 rfl rfl rfl (U20 rfl rfl rfl rfl rfl rfl rfl cf119 S (ContainsDa_q s (⟨m.ua, m.ub⟩ : Da) (hs.mono S.Uw) S.lend) ?_)))))
 rintro _ w1 S1 rfl; clear S
 refine mvs 4 1 rfl rfl ?_
 refine U2x (t := 8) rfl (fun hg8 => ?_) (fun hg8 => ?_)
 ·refine mvs 5 1 rfl rfl (wlg 6 7 rfl rfl rfl rfl rfl rfl rfl rfl (Ub rfl rfl (U0 rfl rfl uT28 rfl (ce26) (nf26)) (wlg 7 8 rfl rfl rfl rfl rfl rfl rfl rfl (Ub rfl rfl (U8 (us := [_, _]) rfl rfl uT26 rfl sz26 (hbm.cells S1.um ⟨rfl, rfl, trivial⟩)) (wlg 8 9 rfl rfl rfl rfl rfl rfl rfl rfl (U20 rfl rfl rfl rfl rfl rfl rfl cf119 S1 (ContainsDa_q s (⟨m.va, m.vb⟩ : Da) (hs.mono S1.Uw) S1.lend) ?_))))))
  rintro _ w2 S2 rfl; clear S1
  refine mvs 9 2 rfl rfl (U5 rfl (nmk [3] rfl (U4 (Uk hC [_] rfl rfl ⟨rfl, trivial⟩ ?_))))
  exact ⟨_, rfl, (S2.pick [] [] (by decide) trivial), (by show Value.bool _ = _; unfold onP; rw [hg8]; rfl)⟩
 ·refine mvs 5 6 rfl rfl (U5 rfl (nmk [3] rfl (U4 (Uk hC [_] rfl rfl ⟨rfl, trivial⟩ ?_))))
  exact ⟨_, rfl, (S1.pick [] [] (by decide) trivial), (by show Value.bool _ = _; unfold onP; rw [hg8]; rfl)⟩
noncomputable def Zzf:=Tryz.f121.body.getD .skip
def Zzg := cL Zzf
def Zzh := cR Zzf
def Zzi := cL Zzh
def Zzj := cR Zzh
def Zzk := cL Zzj
def Zzl := cR Zzj
def Zzm := cL Zzl
def Zzn := cR Zzl
set_option maxHeartbeats 1000000 in
set_option maxRecDepth 10000 in
theorem push2_b {w : World} {M : Hp} {X : Fr} (F : Nat → Int) (u : Nat) (m : Mv) {gm : Nat} {ggb ggs gx : Nat} {vcr fV lV iV oV : Value} (xs : List Cr) (hbm : BxM (M.un X.h) gm 28 [.int .i64 m.kd, .int .i64 m.at_, .int .i64 m.by_, .int .i64 m.ua, .bool m.ub, .int .i64 m.va, .bool m.vb, .bool m.ov]) (hbx : BxM (M.un X.h) gx 55 [.pointer (some ⟨ggb, 0, none⟩)]) (hu : u < 4) (hl : xs.length ≤ 20) (S : SH w M X [Rs.bun [Rs.box ggb 67 [.pointer (some ⟨ggs, 0, none⟩), fV], Rs.box ggs 70 [vcr, lV, iV, oV], Rs.row cdCr vcr xs]]) : C1 Tryz.prog 121 [.agg [.int .i64 (F 0), .int .i64 (F 1), .int .i64 (F 2), .int .i64 (F 3)].toArray, .int .i64 (u : Int), .pointer (some ⟨gm, 0, none⟩), .pointer (some ⟨gx, 0, none⟩)] w M X (fun _ M' r' => M' = M ∧ ∃ v', r' = Rs.bun [Rs.box ggb 67 [.pointer (some ⟨ggs, 0, none⟩), fV], Rs.box ggs 70 [v', lV, iV, oV], Rs.row cdCr v' (xs ++ [pcross m F u])]) := by
 unfold C1
 replace S := S.unbun
 refine Uo (b := Zzf) Tryz.func121 rfl Tryz.ntmps121 rfl (fun C hC => (U14 [(0, _), (1, _), (2, _), (3, _)] ⟨rfl, rfl, rfl, rfl, trivial⟩ (U2 Zzg Zzh rfl rfl rfl (U1 rfl (wlo 0 1 rfl rfl rfl (U18 (l := [_, _, _, _]) rfl rfl rfl rfl rfl S ?_))))))
 intro gb1 w1 S1; clear S
 refine U5 rfl (nmk [1, 2, 3, 4] rfl (U4 (U2 Zzi Zzj rfl rfl rfl (U1 rfl (wlr 0 rfl (U0 rfl rfl uT28 rfl (ce26) (nf26)) (wlr 1 rfl (U0 rfl rfl uT26 rfl (ce4) (nf4)) (wlr 2 rfl (U3 rfl rfl uT4 rfl (hbm.cell S1.um rfl)) (wlo 3 4 rfl rfl rfl (U20 rfl rfl rfl rfl rfl rfl rfl cf122 S1 (either_q m.vb 0 2  S1.lend) ?_)))))))))
 rintro _ w2 S2 rfl; clear S1
 refine mvs 4 1 rfl rfl (U5 rfl (nmk [1, 2, 3, 4, 6] rfl (U4 (U2 Zzk Zzl rfl rfl rfl (U1 rfl (wlr 0 rfl (U0 rfl rfl uT28 rfl (ce4) (nf4)) (wlr 1 rfl (U3 rfl rfl uT4 rfl (hbm.cell S2.um rfl)) (U5 rfl ?_))))))))
 refine nmk [1, 3, 4, 6, 12] rfl (U4 ?_)
 refine U19 Zzm Zzn rfl rfl rfl rfl (fun hb12 => ?_) (fun hb12 => ?_)
 ·have S3 := S2.pick [3, 0, 1, 2] [_, _, _, _] (by decide) ⟨rfl, rfl, rfl, rfl, trivial⟩; clear S2
  refine U29 [_] [_, _, _] rfl (by kernel_rfl) S3 22 rfl ?_
  clear S3
  change WA _ _ _ _ _ _ _ _ _ _ _ _ [_, _, _, _]
  refine wat 0 21 rfl (by kernel_rfl) (fun _ _ _ hz Sz => .inl (U3 rfl rfl uT55 rfl ((hbx.mono (Hp.Ua hz Sz.mx)).cell Sz.um rfl))) ?_
  refine wap 1 20 rfl (by kernel_rfl) (fun _ => U9 rfl rfl) ?_
  refine wap 2 19 rfl (by kernel_rfl) (fun _ => U0 rfl rfl uT67 rfl (ce64) (nf64)) ?_
  refine wat 3 18 rfl (by kernel_rfl) (fun _ _ _ hz Sz => .inl (U3 rfl rfl uT64 rfl (Sz.suf.boxc (i := 1) rfl rfl))) ?_
  refine wat 4 17 rfl (by kernel_rfl) (fun _ _ _ hz Sz => .inl (U3 rfl rfl uT55 rfl ((hbx.mono (Hp.Ua hz Sz.mx)).cell Sz.um rfl))) ?_
  refine wap 5 16 rfl (by kernel_rfl) (fun _ => U9 rfl rfl) ?_
  refine wap 6 15 rfl (by kernel_rfl) (fun _ => U0 rfl rfl uT67 rfl (ce64) (nf64)) ?_
  refine wat 7 14 rfl (by kernel_rfl) (fun _ _ _ hz Sz => .inl (U3 rfl rfl uT64 rfl (Sz.suf.boxc (i := 1) rfl rfl))) ?_
  refine wap 8 13 rfl (by kernel_rfl) (fun _ => U9 rfl rfl) ?_
  refine wap 9 12 rfl (by kernel_rfl) (fun _ => U0 rfl rfl uT70 rfl (ce24) (nf24)) ?_
  refine wap 10 11 rfl (by kernel_rfl) (fun _ => U0 rfl rfl uT24 rfl (ce22) (nf22)) ?_
  refine wat 11 10 rfl (by kernel_rfl) (fun _ _ _ hz Sz => .inl (U3 rfl rfl uT22 rfl (Sz.suf.boxc (i := 2) rfl rfl))) ?_
  refine wat 12 9 rfl (by kernel_rfl) (fun _ _ _ hz Sz => .inl (U8 (us := [_, _, _, _]) rfl rfl uT208 rfl sz208 (Sz.suf.boxcs (i := 0) rfl ⟨rfl, rfl, rfl, rfl, trivial⟩))) ?_
  refine wap 13 8 rfl (by kernel_rfl) (fun _ => run_move rfl rfl) ?_
  refine wap 14 7 rfl (by kernel_rfl) (fun _ => run_move rfl rfl) ?_
  refine wat 15 6 rfl (by kernel_rfl) (fun _ _ _ hz Sz => Uq rfl rfl rfl rfl rfl cf123 Sz (crossing_q F (eiN m.vb 0 2) u (by first | assumption | omega | (unfold eiN; split <;> omega)) Sz.lend)) ?_
  refine Um (i := 16) 5 rfl (by kernel_rfl) rfl rfl (fun w20 S21 => ?_)
  refine (U13 (C := cdCr) (l := [_, _, _, _, _]) rfl rfl rfl rfl sl22 rfl rfl rfl rfl S21 ?_)
  intro gb2 w21 S22; clear S21
  refine U10.grow [_, _] (Hp.le_refl _) S22 ?_; clear S22
  change WA _ _ _ _ _ _ _ _ _ _ _ _ [_, _, _, _, _]
  refine Um (i := 17) 4 rfl (by kernel_rfl) rfl rfl (fun w23 S24 => ?_)
  refine (U1l (C := cdCr) (i := 1) (q := 0) (⟨(U3q F (eiN m.vb 0 2) u).a, (U3q F (eiN m.vb 0 2) u).b, (U3q F (eiN m.vb 0 2) u).c, (U3q F (eiN m.vb 0 2) u).d, (U3q F (eiN m.vb 0 2) u).plus⟩ : Cr) rfl rfl rfl rfl rfl rfl rfl rfl sl22 S24 rfl rfl rfl (by show (_ + 1) * 40 ≤ _; first | omega | (simp only [ls]; omega)) ?_)
  intro vcr1 w24 S25; clear S24
  have S26 := S25.pick [1, 2, 3, 4] [_, _, _, _] (by decide) ⟨rfl, rfl, rfl, rfl, trivial⟩; clear S25
  refine U10.grow [_] (Hp.le_refl _) S26 ?_; clear S26
  change WA _ _ _ _ _ _ _ _ _ _ _ _ [_, _, _, _]
  refine wap 18 3 rfl (by kernel_rfl) (fun _ => U9 rfl rfl) ?_
  refine wap 19 2 rfl (by kernel_rfl) (fun _ => U0 rfl rfl uT70 rfl (ce24) (nf24)) ?_
  refine wap 20 1 rfl (by kernel_rfl) (fun _ => U0 rfl rfl uT24 rfl (ce22) (nf22)) ?_
  refine Um (i := 21) 0 rfl (by kernel_rfl) rfl rfl (fun w29 S31 => ?_)
  refine (U7 (i := 3) (us := [_]) (l' := [_, _, _, _]) (H' := [_, _, _, _]) rfl rfl S31 rfl rfl rfl (S31.cells1 (i := 0) rfl) sz22 rfl (Uy (S31.one (i := 0) rfl) rfl) rfl rfl ?_)
  intro w30 S32; clear S31
  refine U10.turn (by kernel_rfl) S32 ?_; clear S32
  change WA _ _ _ _ _ _ _ _ _ _ _ _ [_, _, _, _]
  refine Uu (by kernel_rfl) (fun w31 S33 => ?_)
  refine U2j hC [] rfl trivial ?_
  refine ⟨_, rfl, _, _, Hp.le_refl _, (S33.pick [2, 3, 0] [_, _, _] (by decide) ⟨rfl, rfl, rfl, trivial⟩).bun, ?_⟩
  have e8 : pcross m F u = U3q F (eiN m.vb 0 2) u := by unfold pcross; rw [if_pos hb12]
  rw [e8]
  exact ⟨rfl, _, rfl⟩
 ·have S34 := S2.pick [3, 0, 1, 2] [_, _, _, _] (by decide) ⟨rfl, rfl, rfl, rfl, trivial⟩; clear S2
  refine U29 [_] [_, _, _] rfl (by kernel_rfl) S34 22 rfl ?_
  clear S34
  change WA _ _ _ _ _ _ _ _ _ _ _ _ [_, _, _, _]
  refine wat 0 21 rfl (by kernel_rfl) (fun _ _ _ hz Sz => .inl (U3 rfl rfl uT55 rfl ((hbx.mono (Hp.Ua hz Sz.mx)).cell Sz.um rfl))) ?_
  refine wap 1 20 rfl (by kernel_rfl) (fun _ => U9 rfl rfl) ?_
  refine wap 2 19 rfl (by kernel_rfl) (fun _ => U0 rfl rfl uT67 rfl (ce64) (nf64)) ?_
  refine wat 3 18 rfl (by kernel_rfl) (fun _ _ _ hz Sz => .inl (U3 rfl rfl uT64 rfl (Sz.suf.boxc (i := 1) rfl rfl))) ?_
  refine wat 4 17 rfl (by kernel_rfl) (fun _ _ _ hz Sz => .inl (U3 rfl rfl uT55 rfl ((hbx.mono (Hp.Ua hz Sz.mx)).cell Sz.um rfl))) ?_
  refine wap 5 16 rfl (by kernel_rfl) (fun _ => U9 rfl rfl) ?_
  refine wap 6 15 rfl (by kernel_rfl) (fun _ => U0 rfl rfl uT67 rfl (ce64) (nf64)) ?_
  refine wat 7 14 rfl (by kernel_rfl) (fun _ _ _ hz Sz => .inl (U3 rfl rfl uT64 rfl (Sz.suf.boxc (i := 1) rfl rfl))) ?_
  refine wap 8 13 rfl (by kernel_rfl) (fun _ => U9 rfl rfl) ?_
  refine wap 9 12 rfl (by kernel_rfl) (fun _ => U0 rfl rfl uT70 rfl (ce24) (nf24)) ?_
  refine wap 10 11 rfl (by kernel_rfl) (fun _ => U0 rfl rfl uT24 rfl (ce22) (nf22)) ?_
  refine wat 11 10 rfl (by kernel_rfl) (fun _ _ _ hz Sz => .inl (U3 rfl rfl uT22 rfl (Sz.suf.boxc (i := 2) rfl rfl))) ?_
  refine wat 12 9 rfl (by kernel_rfl) (fun _ _ _ hz Sz => .inl (U8 (us := [_, _, _, _]) rfl rfl uT208 rfl sz208 (Sz.suf.boxcs (i := 0) rfl ⟨rfl, rfl, rfl, rfl, trivial⟩))) ?_
  refine wap 13 8 rfl (by kernel_rfl) (fun _ => run_move rfl rfl) ?_
  refine wap 14 7 rfl (by kernel_rfl) (fun _ => run_move rfl rfl) ?_
  refine wat 15 6 rfl (by kernel_rfl) (fun _ _ _ hz Sz => Uq rfl rfl rfl rfl rfl cf123 Sz (crossing_q F u (eiN m.vb 0 2) (by first | assumption | omega | (unfold eiN; split <;> omega)) Sz.lend)) ?_
  refine Um (i := 16) 5 rfl (by kernel_rfl) rfl rfl (fun w49 S52 => ?_)
  refine (U13 (C := cdCr) (l := [_, _, _, _, _]) rfl rfl rfl rfl sl22 rfl rfl rfl rfl S52 ?_)
  intro gb3 w50 S53; clear S52
  refine U10.grow [_, _] (Hp.le_refl _) S53 ?_; clear S53
  change WA _ _ _ _ _ _ _ _ _ _ _ _ [_, _, _, _, _]
  refine Um (i := 17) 4 rfl (by kernel_rfl) rfl rfl (fun w52 S55 => ?_)
  refine (U1l (C := cdCr) (i := 1) (q := 0) (⟨(U3q F u (eiN m.vb 0 2)).a, (U3q F u (eiN m.vb 0 2)).b, (U3q F u (eiN m.vb 0 2)).c, (U3q F u (eiN m.vb 0 2)).d, (U3q F u (eiN m.vb 0 2)).plus⟩ : Cr) rfl rfl rfl rfl rfl rfl rfl rfl sl22 S55 rfl rfl rfl (by show (_ + 1) * 40 ≤ _; first | omega | (simp only [ls]; omega)) ?_)
  intro vcr2 w53 S56; clear S55
  have S57 := S56.pick [1, 2, 3, 4] [_, _, _, _] (by decide) ⟨rfl, rfl, rfl, rfl, trivial⟩; clear S56
  refine U10.grow [_] (Hp.le_refl _) S57 ?_; clear S57
  change WA _ _ _ _ _ _ _ _ _ _ _ _ [_, _, _, _]
  refine wap 18 3 rfl (by kernel_rfl) (fun _ => U9 rfl rfl) ?_
  refine wap 19 2 rfl (by kernel_rfl) (fun _ => U0 rfl rfl uT70 rfl (ce24) (nf24)) ?_
  refine wap 20 1 rfl (by kernel_rfl) (fun _ => U0 rfl rfl uT24 rfl (ce22) (nf22)) ?_
  refine Um (i := 21) 0 rfl (by kernel_rfl) rfl rfl (fun w58 S62 => ?_)
  refine (U7 (i := 3) (us := [_]) (l' := [_, _, _, _]) (H' := [_, _, _, _]) rfl rfl S62 rfl rfl rfl (S62.cells1 (i := 0) rfl) sz22 rfl (Uy (S62.one (i := 0) rfl) rfl) rfl rfl ?_)
  intro w59 S63; clear S62
  refine U10.turn (by kernel_rfl) S63 ?_; clear S63
  change WA _ _ _ _ _ _ _ _ _ _ _ _ [_, _, _, _]
  refine Uu (by kernel_rfl) (fun w60 S64 => ?_)
  refine U2j hC [] rfl trivial ?_
  refine ⟨_, rfl, _, _, Hp.le_refl _, (S64.pick [2, 3, 0] [_, _, _] (by decide) ⟨rfl, rfl, rfl, trivial⟩).bun, ?_⟩
  have e8 : pcross m F u = U3q F u (eiN m.vb 0 2) := by unfold pcross; rw [if_neg (by simp [hb12])]
  rw [e8]
  exact ⟨rfl, _, rfl⟩
noncomputable def Zzo:=Tryz.f69.body.getD .skip
def Zzp := cL Zzo
def Zzq := cR Zzo
def Zzr := cL Zzq
def Zzs := cR Zzq
def Zzt := cL Zzs
def Zzu := cR Zzs
def Zzv := cL Zzu
def Zzw := cR Zzu
def Zzx := cL Zzw
def Zzy := cR Zzw
def Zzz := cL Zzy
def Z100 := cR Zzy
def Z101 := cL Z100
def Z102 := cR Z100
def Z103 := cL Z102
def Z104 := cR Z102
def Z105 := cL Z104
def Z106 := cR Z104
def Z107 := cL Z106
def Z108 := cR Z106
def Z109 := cL Z108
def Z10a := cR Z108
set_option maxHeartbeats 2000000 in
set_option maxRecDepth 10000 in
theorem Push_m {w : World} {M : Hp} {X : Fr} (d : Dg) {ggb ggs : Nat} {vcr : Value} {iA oA fA : Option Addr} {ic oc fc : Nat} {fv : List SlV} (m : Mv) (hsi : RdA cdPl M iA ic (tabL d false (4 * d.crs.length))) (hso : RdA cdPl M oA oc (tabL d true (4 * d.crs.length))) (hfa : RdA (cdV 141) M fA fc fv) (hfd : Rd2 cdDa M fv (U6 d)) (hn : d.crs.length ≤ 16) (hab : U1b d = true) (hlo : 0 ≤ d.loops ∧ d.loops ≤ 16) (S : SH w M X [Rs.bun [Rs.box ggb 67 [.pointer (some ⟨ggs, 0, none⟩), .slice fA fv.length fc], Rs.box ggs 70 [vcr, .int .i64 d.loops, .slice iA (tabL d false (4 * d.crs.length)).length ic, .slice oA (tabL d true (4 * d.crs.length)).length oc], Rs.row cdCr vcr d.crs]]) : Cm 69 [.pointer (some ⟨ggb, 0, none⟩), .agg [.int .i64 m.kd, .int .i64 m.at_, .int .i64 m.by_, .int .i64 m.ua, .bool m.ub, .int .i64 m.va, .bool m.vb, .bool m.ov].toArray] w M X (puE d m) (BnR ggb ggs (.slice fA fv.length fc) (.slice iA (tabL d false (4 * d.crs.length)).length ic) (.slice oA (tabL d true (4 * d.crs.length)).length oc) (puD d m)) := by
 unfold Cm
 replace S := S.unbun
 obtain ⟨cA, cc, ecr, _⟩ := S.sl (i := 2) rfl
 refine Uo (b := Zzo) Tryz.func69 rfl Tryz.ntmps69 rfl (fun C hC => (U14 [(0, _), (1, _)] ⟨rfl, rfl, trivial⟩ (U2 Zzp Zzq rfl rfl rfl (U1 rfl (wlo 0 1 rfl rfl rfl (U18 (l := [_]) rfl rfl rfl rfl rfl S ?_))))))
 intro gb1 w1 S1; clear S
 refine wlo 1 2 rfl rfl rfl (U18 (l := [_, _, _, _, _, _, _, _]) rfl rfl rfl rfl rfl S1 ?_)
 intro gb2 w2 S2; clear S1
 refine U5 rfl (nmk [2, 3] rfl (U4 (U2 Zzr Zzs rfl rfl rfl (Ux rfl (by kernel_rfl) S2 19 rfl ?_))))
 clear S2
 refine wat 0 18 rfl (by kernel_rfl) (fun _ _ _ hz Sz => .inl (U3 rfl rfl uT55 rfl (Sz.suf.boxc (i := 1) rfl rfl))) ?_
 refine wap 1 17 rfl (by kernel_rfl) (fun _ => U9 rfl rfl) ?_
 refine wap 2 16 rfl (by kernel_rfl) (fun _ => U0 rfl rfl uT67 rfl (ce64) (nf64)) ?_
 refine wat 3 15 rfl (by kernel_rfl) (fun _ _ _ hz Sz => .inl (U3 rfl rfl uT64 rfl (Sz.suf.boxc (i := 2) rfl rfl))) ?_
 refine wap 4 14 rfl (by kernel_rfl) (fun _ => U0 rfl rfl uT28 rfl (ce26) (nf26)) ?_
 refine wap 5 13 rfl (by kernel_rfl) (fun _ => U0 rfl rfl uT26 rfl (ce3) (nf3)) ?_
 refine wat 6 12 rfl (by kernel_rfl) (fun _ _ _ hz Sz => .inl (U3 rfl rfl uT3 rfl (Sz.suf.boxc (i := 0) rfl rfl))) ?_
 refine wat 7 11 rfl (by kernel_rfl) (fun _ _ _ hz Sz => Uq rfl rfl rfl rfl rfl cf110 Sz (IsArcM_q d m.ua (SH.bxOf (i := 3) Sz rfl (by rw [ecr])) (SH.rdOf (i := 4) Sz rfl ecr (by show _ * 40 ≤ _; omega)) ((hsi.mono hz).mono (Hp.U1p _ _)) ((hso.mono hz).mono (Hp.U1p _ _)) (by omega) Sz.lend)) ?_
 refine wap 8 10 rfl (by kernel_rfl) (fun _ => run_move rfl rfl) ?_
 refine U21 (t := 17) rfl (fun hg17 => ?_) (fun hg17 => ?_)
 ·refine wat 9 9 rfl (by kernel_rfl) (fun _ _ _ hz Sz => .inl (U3 rfl rfl uT55 rfl (Sz.suf.boxc (i := 1) rfl rfl))) ?_
  refine wap 10 8 rfl (by kernel_rfl) (fun _ => U9 rfl rfl) ?_
  refine wap 11 7 rfl (by kernel_rfl) (fun _ => U0 rfl rfl uT67 rfl (ce64) (nf64)) ?_
  refine wat 12 6 rfl (by kernel_rfl) (fun _ _ _ hz Sz => .inl (U3 rfl rfl uT64 rfl (Sz.suf.boxc (i := 2) rfl rfl))) ?_
  refine wap 13 5 rfl (by kernel_rfl) (fun _ => U0 rfl rfl uT28 rfl (ce26) (nf26)) ?_
  refine wap 14 4 rfl (by kernel_rfl) (fun _ => U0 rfl rfl uT26 rfl (ce3) (nf3)) ?_
  refine wat 15 3 rfl (by kernel_rfl) (fun _ _ _ hz Sz => .inl (U3 rfl rfl uT3 rfl (Sz.suf.boxc (i := 0) rfl rfl))) ?_
  refine wat 16 2 rfl (by kernel_rfl) (fun _ _ _ hz Sz => Uq rfl rfl rfl rfl rfl cf110 Sz (IsArcM_q d m.va (SH.bxOf (i := 3) Sz rfl (by rw [ecr])) (SH.rdOf (i := 4) Sz rfl ecr (by show _ * 40 ≤ _; omega)) ((hsi.mono hz).mono (Hp.U1p _ _)) ((hso.mono hz).mono (Hp.U1p _ _)) (by omega) Sz.lend)) ?_
  refine wap 17 1 rfl (by kernel_rfl) (fun _ => U1e rfl rfl rfl) ?_
  refine U21 (t := 26) rfl (fun hn26 => ?_) (fun hn26 => ?_)
  ·refine wat 18 0 rfl (by kernel_rfl) (fun _ _ _ hz Sz => Uq rfl rfl rfl rfl rfl cf109 Sz (U31 3 Sz.lend)) ?_
   refine Uu (by kernel_rfl) (fun w23 S23 => ?_)
   refine nmk [2, 3] rfl (U4 (U2 Zzt Zzu rfl rfl rfl (U1 rfl (wlr 0 rfl (U3 rfl rfl uT55 rfl (S23.boxc (i := 1) rfl rfl)) (wlr 1 rfl (U9 rfl rfl) (wlr 2 rfl (U0 rfl rfl uT67 rfl (ce65) (nf65)) (wlr 3 rfl (U3 rfl rfl uT65 rfl (S23.boxc (i := 2) rfl rfl)) (wlr 4 rfl (U2l (vs := [_]) rfl rfl rfl rfl) ?_))))))))
   refine wlo 5 6 rfl rfl rfl (U20 rfl rfl rfl rfl rfl rfl rfl cf117 S23 (ContainsFuncD_q (U6 d) 118 _ (onP (⟨m.ua, m.ub⟩ : Da) (⟨m.va, m.vb⟩ : Da)) (hfa.mono (Hp.U1p _ _)) (hfd.mono (Hp.U1p _ _)) cf118 (fun w9 Y9 hl9 S9 A9 c9 x9 hm9 hr9 => push1_q x9 m hr9 ((SH.bxOf (N := []) (i := 0) S23 rfl rfl).mono hl9) S9) S23.lend) ?_)
   rintro _ w24 S24 rfl; clear S23
   refine mvs 6 1 rfl rfl (U5 rfl (nmk [2, 3, 4] rfl (U4 (U2 Zzv Zzw rfl rfl rfl (U1 rfl (wlr 0 rfl (U0 rfl rfl uT28 rfl (ce26) (nf26)) (wlr 1 rfl (U0 rfl rfl uT26 rfl (ce3) (nf3)) (wlr 2 rfl (U3 rfl rfl uT3 rfl (S24.boxc (i := 0) rfl rfl)) ?_))))))))
   refine wlr 3 rfl (U0 rfl rfl uT28 rfl (ce26) (nf26)) (wlr 4 rfl (U0 rfl rfl uT26 rfl (ce3) (nf3)) (wlr 5 rfl (U3 rfl rfl uT3 rfl (S24.boxc (i := 0) rfl rfl)) (wlr 6 rfl (U2k rfl rfl rfl) (mvs 7 1 rfl rfl ?_))))
   refine Ut (t := 41) rfl (fun hg41 => ?_) (fun hg41 => ?_)
   ·refine mvs 8 2 rfl rfl ?_
    refine U2x (t := 43) rfl (fun hn43 => ?_) (fun hn43 => ?_)
    ·refine wlo 10 11 rfl rfl rfl (U20 rfl rfl rfl rfl rfl rfl rfl cf109 S24 (U31 8 S24.lend) ?_)
     rintro _ w25 S25 rfl; clear S24
     refine U5 rfl (nmk [2, 3] rfl (U4 (U2 Zzx Zzy rfl rfl rfl (U1 rfl (wlr 0 rfl (U3 rfl rfl uT55 rfl (S25.boxc (i := 1) rfl rfl)) (wlr 1 rfl (U9 rfl rfl) (wlr 2 rfl (U0 rfl rfl uT67 rfl (ce64) (nf64)) (wlr 3 rfl (U3 rfl rfl uT64 rfl (S25.boxc (i := 2) rfl rfl)) ?_))))))))
     refine wlr 4 rfl (U9 rfl rfl) (wlr 5 rfl (U0 rfl rfl uT70 rfl (ce24) (nf24)) (wlr 6 rfl (U0 rfl rfl uT24 rfl (ce22) (nf22)) (wlr 7 rfl (U3 rfl rfl uT22 rfl (S25.boxc (i := 3) rfl rfl)) (wlr 8 rfl (U38 (C := cdCr) (i := 4) rfl rfl rfl rfl rfl rfl sl22 S25 rfl) (wlr 9 rfl (Ug rfl rfl rfl (by first | omega | (simp only [ls]; omega))) ?_)))))
     refine wlr 10 rfl (U41 rfl rfl rfl) ?_
     refine Ut (t := 55) rfl (fun hn55 => ?_) (fun hn55 => ?_)
     ·refine wlo 11 12 rfl rfl rfl (U20 rfl rfl rfl rfl rfl rfl rfl cf109 S25 (U31 2 S25.lend) ?_)
      rintro _ w26 S26 rfl; clear S25
      refine U5 rfl (nmk [2, 3] rfl (U4 (U2 Zzz Z100 rfl rfl rfl (U1 rfl (wlr 0 rfl (U3 rfl rfl uT55 rfl (S26.boxc (i := 1) rfl rfl)) (wlr 1 rfl (U9 rfl rfl) (wlr 2 rfl (U0 rfl rfl uT67 rfl (ce64) (nf64)) (wlr 3 rfl (U3 rfl rfl uT64 rfl (S26.boxc (i := 2) rfl rfl)) ?_))))))))
      refine wlo 4 5 rfl rfl rfl (U20 rfl rfl rfl rfl rfl rfl rfl cf111 S26 (Arcs_q d  (SH.bxOf (N := []) (i := 3) S26 rfl (by rw [ecr])) (SH.rdOf (N := []) (i := 4) S26 rfl ecr (by show _ * 40 ≤ _; omega)) (hsi.mono (Hp.U1p _ _)) (hso.mono (Hp.U1p _ _)) (by omega) S26.lend) ?_)
      rintro _ w27 S27 rfl; clear S26
      refine mvs 5 1 rfl rfl (U5 rfl (nmk [2, 3, 5] rfl (U4 (U2 Z101 Z102 rfl rfl rfl ?_))))
      refine ws_cut (fun ax_ wx_ => ∃ (gbu : Nat) (gbv : Nat), Env 135 [(2, .pointer (some ⟨gb1, 0, none⟩)), (3, .pointer (some ⟨gb2, 0, none⟩)), (5, .int .i64 (2 * (d.crs.length : Int))), (6, .pointer (some ⟨gbu, 0, none⟩)), (7, .pointer (some ⟨gbv, 0, none⟩))] ax_ ∧ SH wx_ M X [Rs.box gbu 150 [.int .i64 (cutN (⟨m.ua, m.ub⟩ : Da) (2 * (d.crs.length : Int) + 1) 0), .int .i64 (cutN (⟨m.ua, m.ub⟩ : Da) (2 * (d.crs.length : Int) + 1) 1), .int .i64 (cutN (⟨m.ua, m.ub⟩ : Da) (2 * (d.crs.length : Int) + 1) 2)], Rs.box gbv 150 [.int .i64 (cutN (⟨m.va, m.vb⟩ : Da) (2 * (d.crs.length : Int) + 3) 0), .int .i64 (cutN (⟨m.va, m.vb⟩ : Da) (2 * (d.crs.length : Int) + 3) 1), .int .i64 (cutN (⟨m.va, m.vb⟩ : Da) (2 * (d.crs.length : Int) + 3) 2)], Rs.box gb2 28 [.int .i64 m.kd, .int .i64 m.at_, .int .i64 m.by_, .int .i64 m.ua, .bool m.ub, .int .i64 m.va, .bool m.vb, .bool m.ov], Rs.box gb1 55 [.pointer (some ⟨ggb, 0, none⟩)], Rs.box ggb 67 [.pointer (some ⟨ggs, 0, none⟩), .slice fA fv.length fc], Rs.box ggs 70 [vcr, .int .i64 d.loops, .slice iA (tabL d false (4 * d.crs.length)).length ic, .slice oA (tabL d true (4 * d.crs.length)).length oc], Rs.row cdCr vcr d.crs]) ?_ ?_
      ·refine Ux rfl (by kernel_rfl) S27 14 rfl ?_
       clear S27
       refine wap 0 13 rfl (by kernel_rfl) (fun _ => U0 rfl rfl uT28 rfl (ce26) (nf26)) ?_
       refine wat 1 12 rfl (by kernel_rfl) (fun _ _ _ hz Sz => .inl (U8 (us := [_, _]) rfl rfl uT26 rfl sz26 (Sz.suf.boxcs (i := 0) rfl ⟨rfl, rfl, trivial⟩))) ?_
       refine wap 2 11 rfl (by kernel_rfl) (fun _ => run_move rfl rfl) ?_
       refine wap 3 10 rfl (by kernel_rfl) (fun _ => Ug rfl rfl rfl (by first | omega | (simp only [ls]; omega))) ?_
       refine wat 4 9 rfl (by kernel_rfl) (fun _ _ _ hz Sz => Uq rfl rfl rfl rfl rfl cf120 Sz (cut_q (⟨m.ua, m.ub⟩ : Da) ((2 * (d.crs.length : Int)) + 1) (by omega) Sz.lend)) ?_
       refine wap 5 8 rfl (by kernel_rfl) (fun _ => U0 rfl rfl uT28 rfl (ce26) (nf26)) ?_
       refine wat 6 7 rfl (by kernel_rfl) (fun _ _ _ hz Sz => .inl (U8 (us := [_, _]) rfl rfl uT26 rfl sz26 (Sz.suf.boxcs (i := 0) rfl ⟨rfl, rfl, trivial⟩))) ?_
       refine wap 7 6 rfl (by kernel_rfl) (fun _ => run_move rfl rfl) ?_
       refine wap 8 5 rfl (by kernel_rfl) (fun _ => Ug rfl rfl rfl (by first | omega | (simp only [ls]; omega))) ?_
       refine wat 9 4 rfl (by kernel_rfl) (fun _ _ _ hz Sz => Uq rfl rfl rfl rfl rfl cf120 Sz (cut_q (⟨m.va, m.vb⟩ : Da) ((2 * (d.crs.length : Int)) + 3) (by omega) Sz.lend)) ?_
       refine wa_two (i := 10) (j := 11) 3 rfl rfl (by kernel_rfl) rfl rfl rfl rfl (fun w41 S41 => ?_) (fun w41 S41 => ?_)
       ·refine (Uh (l := [_, _, _]) rfl rfl rfl zr150 rfl S41 ?_)
        intro gb3 w42 S42; clear S41
        refine U10.grow [_] (Hp.le_refl _) S42 ?_; clear S42
        change WA _ _ _ _ _ _ _ _ _ _ _ _ [_, _, _, _, _, _]
        refine Um (i := 11) 2 rfl (by kernel_rfl) rfl rfl (fun w44 S44 => ?_)
        refine (Uh (l := [_, _, _]) rfl rfl rfl zr150 rfl S44 ?_)
        intro gb4 w45 S45; clear S44
        refine U10.grow [_, _] (Hp.le_refl _) S45 ?_; clear S45
        change WA _ _ _ _ _ _ _ _ _ _ _ _ [_, _, _, _, _, _, _]
        refine Um (i := 12) 1 rfl (by kernel_rfl) rfl rfl (fun w47 S47 => ?_)
        refine (U7 (i := 1) (us := [_, _, _]) (l' := [_, _, _]) (H' := [_, _, _, _, _, _, _]) rfl rfl S47 rfl rfl rfl rfl sz150 rfl rfl rfl rfl ?_)
        intro w48 S48; clear S47
        refine U10.grow [_, _] (Hp.le_refl _) S48 ?_; clear S48
        change WA _ _ _ _ _ _ _ _ _ _ _ _ [_, _, _, _, _, _, _]
        refine Um (i := 13) 0 rfl (by kernel_rfl) rfl rfl (fun w50 S50 => ?_)
        refine (U7 (i := 0) (us := [_, _, _]) (l' := [_, _, _]) (H' := [_, _, _, _, _, _, _]) rfl rfl S50 rfl rfl rfl rfl sz150 rfl rfl rfl rfl ?_)
        intro w51 S51; clear S50
        refine U10.grow [_, _] (Hp.le_refl _) S51 ?_; clear S51
        change WA _ _ _ _ _ _ _ _ _ _ _ _ [_, _, _, _, _, _, _]
        refine Uu (by kernel_rfl) (fun w52 S52 => ?_)
        refine U15 ?_
        intro ax_ hax_
        refine ⟨_, _, hax_.sub ⟨rfl, rfl, rfl, rfl, rfl, trivial⟩, S52.pick [1, 0, 2, 3, 4, 5, 6] [_, _, _, _, _, _, _] (by decide) ⟨rfl, rfl, rfl, rfl, rfl, rfl, rfl, trivial⟩⟩
       ·refine (Uh (l := [_, _, _]) rfl rfl rfl zr150 rfl S41 ?_)
        intro gb5 w53 S53; clear S41
        refine U10.grow [_] (Hp.le_refl _) S53 ?_; clear S53
        change WA _ _ _ _ _ _ _ _ _ _ _ _ [_, _, _, _, _, _]
        refine Um (i := 10) 2 rfl (by kernel_rfl) rfl rfl (fun w55 S55 => ?_)
        refine (Uh (l := [_, _, _]) rfl rfl rfl zr150 rfl S55 ?_)
        intro gb6 w56 S56; clear S55
        refine U10.grow [_, _] (Hp.le_refl _) S56 ?_; clear S56
        change WA _ _ _ _ _ _ _ _ _ _ _ _ [_, _, _, _, _, _, _]
        refine Um (i := 12) 1 rfl (by kernel_rfl) rfl rfl (fun w58 S58 => ?_)
        refine (U7 (i := 0) (us := [_, _, _]) (l' := [_, _, _]) (H' := [_, _, _, _, _, _, _]) rfl rfl S58 rfl rfl rfl rfl sz150 rfl rfl rfl rfl ?_)
        intro w59 S59; clear S58
        refine U10.grow [_, _] (Hp.le_refl _) S59 ?_; clear S59
        change WA _ _ _ _ _ _ _ _ _ _ _ _ [_, _, _, _, _, _, _]
        refine Um (i := 13) 0 rfl (by kernel_rfl) rfl rfl (fun w61 S61 => ?_)
        refine (U7 (i := 1) (us := [_, _, _]) (l' := [_, _, _]) (H' := [_, _, _, _, _, _, _]) rfl rfl S61 rfl rfl rfl rfl sz150 rfl rfl rfl rfl ?_)
        intro w62 S62; clear S61
        refine U10.grow [_, _] (Hp.le_refl _) S62 ?_; clear S62
        change WA _ _ _ _ _ _ _ _ _ _ _ _ [_, _, _, _, _, _, _]
        refine Uu (by kernel_rfl) (fun w63 S63 => ?_)
        refine U15 ?_
        intro ax_ hax_
        refine ⟨_, _, hax_.sub ⟨rfl, rfl, rfl, rfl, rfl, trivial⟩, S63.pick [0, 1, 2, 3, 4, 5, 6] [_, _, _, _, _, _, _] (by decide) ⟨rfl, rfl, rfl, rfl, rfl, rfl, rfl, trivial⟩⟩
      ·rintro a1 w28 ⟨gbu, gbv, he1, S28⟩
       clear S27
       refine nm_in he1 ?_
       clear he1 a1
       refine U4 (U2 Z103 Z104 rfl rfl rfl ?_)
       have hti := U1m d false (4 * d.crs.length)
       obtain ⟨hu1, hu2, hgu, _⟩ := endD hab (a := m.ua) (by omega) false
       obtain ⟨hv1, hv2, hgv, _⟩ := endD hab (a := m.va) (by omega) false
       refine Ux rfl (by kernel_rfl) S28 16 rfl ?_
       clear S28
       refine wat 0 15 rfl (by kernel_rfl) (fun _ _ _ hz Sz => .inl (U3 rfl rfl uT55 rfl (Sz.suf.boxc (i := 3) rfl rfl))) ?_
       refine wat 1 14 rfl (by kernel_rfl) (fun _ _ _ hz Sz => .inl (U3 rfl rfl uT55 rfl (Sz.suf.boxc (i := 3) rfl rfl))) ?_
       refine wap 2 13 rfl (by kernel_rfl) (fun _ => U9 rfl rfl) ?_
       refine wap 3 12 rfl (by kernel_rfl) (fun _ => U0 rfl rfl uT67 rfl (ce64) (nf64)) ?_
       refine wat 4 11 rfl (by kernel_rfl) (fun _ _ _ hz Sz => .inl (U3 rfl rfl uT64 rfl (Sz.suf.boxc (i := 4) rfl rfl))) ?_
       refine wap 5 10 rfl (by kernel_rfl) (fun _ => U9 rfl rfl) ?_
       refine wap 6 9 rfl (by kernel_rfl) (fun _ => U0 rfl rfl uT70 rfl (ce68) (nf68)) ?_
       refine wat 7 8 rfl (by kernel_rfl) (fun _ _ _ hz Sz => .inl (U3 rfl rfl uT68 rfl (Sz.suf.boxc (i := 5) rfl rfl))) ?_
       refine wap 8 7 rfl (by kernel_rfl) (fun _ => U0 rfl rfl uT28 rfl (ce26) (nf26)) ?_
       refine wap 9 6 rfl (by kernel_rfl) (fun _ => U0 rfl rfl uT26 rfl (ce3) (nf3)) ?_
       refine wat 10 5 rfl (by kernel_rfl) (fun _ _ _ hz Sz => .inl (U3 rfl rfl uT3 rfl (Sz.suf.boxc (i := 2) rfl rfl))) ?_
       refine wa_eq 82 (.int .i64 ((m.ua.toNat : Nat) : Int)) rfl (int_eq (by omega)) ?_
       refine wat 11 4 rfl (by kernel_rfl) (fun _ _ _ hz Sz => .inl (Uj (C := cdPl) m.ua.toNat rfl rfl rfl sl68 (by first | rfl | omega) (hsi.mono hz) (by first | omega | (simp only [ls]; omega)))) ?_
       refine wat 12 3 rfl (by kernel_rfl) (fun _ _ _ hz Sz => .inl (U8 (us := [_, _]) rfl rfl uT190 rfl sz190 ((hsi.mono hz).U1x Sz.m (e := m.ua.toNat) (by first | omega | (simp only [ls]; omega)) (j := 0) ⟨rfl, rfl, trivial⟩))) ?_
       refine wap 13 2 rfl (by kernel_rfl) (fun _ => run_move rfl rfl) ?_
       refine wap 14 1 rfl (by kernel_rfl) (fun _ => Ug rfl rfl rfl (by first | omega | (simp only [ls]; omega))) ?_
       refine Um (i := 15) 0 rfl (by kernel_rfl) rfl rfl (fun w80 S80 => ?_)
       have S81 := S80.pick [4, 5, 6, 0, 1, 2, 3] [_, _, _, _, _, _, _] (by decide) ⟨rfl, rfl, rfl, rfl, rfl, rfl, rfl, trivial⟩; clear S80
       have S82 : SH _ _ _ (Rs.bun [_, _, _] :: [_, _, _, _]) := SH.bunC (A := [_, _, _]) (B := [_, _, _, _]) S81; clear S81
       have S83 : SH _ _ _ [_, _, _, _, _] := S82.less (i := 0) rfl
       have hcall1 := Set_b d.crs ((ga (tabL d false (4 * d.crs.length)) m.ua.toNat).1) ((ga (tabL d false (4 * d.crs.length)) m.ua.toNat).2) ((2 * (d.crs.length : Int)) + 2) (by rw [hgu]; exact hu1) (by rw [hgu]; exact hu2) (S82.lend1 (i := 0) rfl); clear S83
       refine (wo_c1 (i := 0) rfl rfl rfl rfl rfl rfl rfl cf112 S82 rfl hcall1 ?_)
       intro vw81 w81 M56 rw81 hle56 S84 hR1; clear S82
       obtain ⟨huhMX1, hMX1, hR2⟩ := hR1
       rw [hMX1] at S84
       clear hMX1
       subst huhMX1
       subst hR2
       replace S84 : SH _ _ _ (Rs.bun [_, _, _] :: [_, _, _, _]) := S84
       have S85 : SH _ _ _ [_, _, _, _, _, _, _] := SH.U2y (A := [_, _, _]) (B := [_, _, _, _]) S84; clear S84
       refine U10.turn (by kernel_rfl) S85 ?_; clear S85
       change WA _ _ _ _ _ _ _ _ _ _ _ _ [_, _, _, _, _, _, _]
       refine Uu (by kernel_rfl) (fun w82 S86 => ?_)
       refine nmk [2, 3, 5, 6, 7] rfl (U4 (U2 Z105 Z106 rfl rfl rfl ?_))
       have hrc1 : U1c d.crs ((ga (tabL d false (4 * d.crs.length)) m.ua.toNat).1) ((ga (tabL d false (4 * d.crs.length)) m.ua.toNat).2) ((2 * (d.crs.length : Int)) + 2) = U1c d.crs (Ud d m.ua false).1 (Ud d m.ua false).2 (2 * (d.crs.length : Int) + 2) := by rw [hgu]
       rw [hrc1] at S86; clear hrc1
       have hl1 : (U1c d.crs (Ud d m.ua false).1 (Ud d m.ua false).2 (2 * (d.crs.length : Int) + 2)).length = d.crs.length := U1o _ _ _ _
       refine Ux rfl (by kernel_rfl) S86 16 rfl ?_
       clear S86
       refine wat 0 15 rfl (by kernel_rfl) (fun _ _ _ hz Sz => .inl (U3 rfl rfl uT55 rfl (Sz.suf.boxc (i := 6) rfl rfl))) ?_
       refine wat 1 14 rfl (by kernel_rfl) (fun _ _ _ hz Sz => .inl (U3 rfl rfl uT55 rfl (Sz.suf.boxc (i := 6) rfl rfl))) ?_
       refine wap 2 13 rfl (by kernel_rfl) (fun _ => U9 rfl rfl) ?_
       refine wap 3 12 rfl (by kernel_rfl) (fun _ => U0 rfl rfl uT67 rfl (ce64) (nf64)) ?_
       refine wat 4 11 rfl (by kernel_rfl) (fun _ _ _ hz Sz => .inl (U3 rfl rfl uT64 rfl (Sz.suf.boxc (i := 0) rfl rfl))) ?_
       refine wap 5 10 rfl (by kernel_rfl) (fun _ => U9 rfl rfl) ?_
       refine wap 6 9 rfl (by kernel_rfl) (fun _ => U0 rfl rfl uT70 rfl (ce68) (nf68)) ?_
       refine wat 7 8 rfl (by kernel_rfl) (fun _ _ _ hz Sz => .inl (U3 rfl rfl uT68 rfl (Sz.suf.boxc (i := 1) rfl rfl))) ?_
       refine wap 8 7 rfl (by kernel_rfl) (fun _ => U0 rfl rfl uT28 rfl (ce26) (nf26)) ?_
       refine wap 9 6 rfl (by kernel_rfl) (fun _ => U0 rfl rfl uT26 rfl (ce3) (nf3)) ?_
       refine wat 10 5 rfl (by kernel_rfl) (fun _ _ _ hz Sz => .inl (U3 rfl rfl uT3 rfl (Sz.suf.boxc (i := 5) rfl rfl))) ?_
       refine wa_eq 98 (.int .i64 ((m.va.toNat : Nat) : Int)) rfl (int_eq (by omega)) ?_
       refine wat 11 4 rfl (by kernel_rfl) (fun _ _ _ hz Sz => .inl (Uj (C := cdPl) m.va.toNat rfl rfl rfl sl68 (by first | rfl | omega) (hsi.mono hz) (by first | omega | (simp only [ls]; omega)))) ?_
       refine wat 12 3 rfl (by kernel_rfl) (fun _ _ _ hz Sz => .inl (U8 (us := [_, _]) rfl rfl uT190 rfl sz190 ((hsi.mono hz).U1x Sz.m (e := m.va.toNat) (by first | omega | (simp only [ls]; omega)) (j := 0) ⟨rfl, rfl, trivial⟩))) ?_
       refine wap 13 2 rfl (by kernel_rfl) (fun _ => run_move rfl rfl) ?_
       refine wap 14 1 rfl (by kernel_rfl) (fun _ => Ug rfl rfl rfl (by first | omega | (simp only [ls]; omega))) ?_
       refine Um (i := 15) 0 rfl (by kernel_rfl) rfl rfl (fun w99 S103 => ?_)
       have S104 := S103.pick [0, 1, 2, 3, 4, 5, 6] [_, _, _, _, _, _, _] (by decide) ⟨rfl, rfl, rfl, rfl, rfl, rfl, rfl, trivial⟩; clear S103
       have S105 : SH _ _ _ (Rs.bun [_, _, _] :: [_, _, _, _]) := SH.bunC (A := [_, _, _]) (B := [_, _, _, _]) S104; clear S104
       have S106 : SH _ _ _ [_, _, _, _, _] := S105.less (i := 0) rfl
       have hcall2 := Set_b (U1c d.crs (Ud d m.ua false).1 (Ud d m.ua false).2 (2 * (d.crs.length : Int) + 2)) ((ga (tabL d false (4 * d.crs.length)) m.va.toNat).1) ((ga (tabL d false (4 * d.crs.length)) m.va.toNat).2) ((2 * (d.crs.length : Int)) + 4) (by rw [hgv, hl1]; exact hv1) (by rw [hgv]; exact hv2) (S105.lend1 (i := 0) rfl); clear S106
       refine (wo_c1 (i := 0) rfl rfl rfl rfl rfl rfl rfl cf112 S105 rfl hcall2 ?_)
       intro vw100 w100 M73 rw100 hle73 S107 hR3; clear S105
       obtain ⟨huhMX2, hMX2, hR4⟩ := hR3
       rw [hMX2] at S107
       clear hMX2
       subst huhMX2
       subst hR4
       replace S107 : SH _ _ _ (Rs.bun [_, _, _] :: [_, _, _, _]) := S107
       have S108 : SH _ _ _ [_, _, _, _, _, _, _] := SH.U2y (A := [_, _, _]) (B := [_, _, _, _]) S107; clear S107
       refine U10.turn (by kernel_rfl) S108 ?_; clear S108
       change WA _ _ _ _ _ _ _ _ _ _ _ _ [_, _, _, _, _, _, _]
       refine Uu (by kernel_rfl) (fun w101 S109 => ?_)
       refine nmk [2, 3, 6, 7] rfl (U4 (U2 Z107 Z108 rfl rfl rfl ?_))
       have hrc2 : U1c (U1c d.crs (Ud d m.ua false).1 (Ud d m.ua false).2 (2 * (d.crs.length : Int) + 2)) ((ga (tabL d false (4 * d.crs.length)) m.va.toNat).1) ((ga (tabL d false (4 * d.crs.length)) m.va.toNat).2) ((2 * (d.crs.length : Int)) + 4) = U1c (U1c d.crs (Ud d m.ua false).1 (Ud d m.ua false).2 (2 * (d.crs.length : Int) + 2)) (Ud d m.va false).1 (Ud d m.va false).2 (2 * (d.crs.length : Int) + 4) := by rw [hgv]
       rw [hrc2] at S109; clear hrc2
       have hl2 : (U1c (U1c d.crs (Ud d m.ua false).1 (Ud d m.ua false).2 (2 * (d.crs.length : Int) + 2)) (Ud d m.va false).1 (Ud d m.va false).2 (2 * (d.crs.length : Int) + 4)).length = d.crs.length := (U1o _ _ _ _).trans hl1
       refine U1 rfl (wlr 0 rfl (U2l (vs := [_, _]) rfl rfl rfl rfl) (mvs 1 1 rfl rfl (U5 rfl (nmk [3, 6, 7, 8] rfl (U4 (U2 Z109 Z10a rfl rfl rfl ?_))))))
       have S110 := S109.pick [0, 1, 2, 3, 4, 5, 6] [_, _, _, _, _, _, _] (by decide) ⟨rfl, rfl, rfl, rfl, rfl, rfl, rfl, trivial⟩; clear S109
       refine U29 [_, _, _] [_, _, _, _] rfl (by kernel_rfl) S110 15 rfl ?_
       clear S110
       change WA _ _ _ _ _ _ _ _ _ _ _ _ [_, _, _, _, _, _, _]
       refine wap 0 14 rfl (by kernel_rfl) (fun _ => run_move rfl rfl) ?_
       refine wat 1 13 rfl (by kernel_rfl) (fun _ _ _ hz Sz => .inl (U1d (e := 1) (k := 1) rfl rfl rfl uT150 sz3 (by first | rfl | omega) (by first | omega | (simp only [ls]; omega)))) ?_
       refine wat 2 12 rfl (by kernel_rfl) (fun _ _ _ hz Sz => .inl (U3 rfl rfl uT3 rfl (Sz.suf.boxc (i := 1) rfl rfl))) ?_
       refine wat 3 11 rfl (by kernel_rfl) (fun _ _ _ hz Sz => .inl (U1d (e := 1) (k := 1) rfl rfl rfl uT150 sz3 (by first | rfl | omega) (by first | omega | (simp only [ls]; omega)))) ?_
       refine wat 4 10 rfl (by kernel_rfl) (fun _ _ _ hz Sz => .inl (U3 rfl rfl uT3 rfl (Sz.suf.boxc (i := 0) rfl rfl))) ?_
       refine wat 5 9 rfl (by kernel_rfl) (fun _ _ _ hz Sz => .inl (U1d (e := 2) (k := 1) rfl rfl rfl uT150 sz3 (by first | rfl | omega) (by first | omega | (simp only [ls]; omega)))) ?_
       refine wat 6 8 rfl (by kernel_rfl) (fun _ _ _ hz Sz => .inl (U3 rfl rfl uT3 rfl (Sz.suf.boxc (i := 1) rfl rfl))) ?_
       refine wat 7 7 rfl (by kernel_rfl) (fun _ _ _ hz Sz => .inl (U1d (e := 0) (k := 1) rfl rfl rfl uT150 sz3 (by first | rfl | omega) (by first | omega | (simp only [ls]; omega)))) ?_
       refine wat 8 6 rfl (by kernel_rfl) (fun _ _ _ hz Sz => .inl (U3 rfl rfl uT3 rfl (Sz.suf.boxc (i := 0) rfl rfl))) ?_
       refine wat 9 5 rfl (by kernel_rfl) (fun _ _ _ hz Sz => .inl (U1n (l := [_, _, _, _]) (pl := [(0, 1), (1, 1), (2, 1), (3, 1)]) rfl rfl uT208 zr208 sz3 rfl rfl rfl)) ?_
       refine wap 10 4 rfl (by kernel_rfl) (fun _ => U0 rfl rfl uT28 rfl (ce26) (nf26)) ?_
       refine wap 11 3 rfl (by kernel_rfl) (fun _ => U0 rfl rfl uT26 rfl (ce4) (nf4)) ?_
       refine wat 12 2 rfl (by kernel_rfl) (fun _ _ _ hz Sz => .inl (U3 rfl rfl uT4 rfl (Sz.suf.boxc (i := 2) rfl rfl))) ?_
       refine wat 13 1 rfl (by kernel_rfl) (fun _ _ _ hz Sz => Uq rfl rfl rfl rfl rfl cf122 Sz (either_q m.ub 3 1  Sz.lend)) ?_
       refine Um (i := 14) 0 rfl (by kernel_rfl) rfl rfl (fun w117 S126 => ?_)
       have S127 := S126.pick [0, 1, 2, 3, 4, 5, 6] [_, _, _, _, _, _, _] (by decide) ⟨rfl, rfl, rfl, rfl, rfl, rfl, rfl, trivial⟩; clear S126
       have S128 : SH _ _ _ (Rs.bun [_, _, _] :: [_, _, _, _]) := SH.bunC (A := [_, _, _]) (B := [_, _, _, _]) S127; clear S127
       have S129 : SH _ _ _ [_, _, _, _, _] := S128.less (i := 0) rfl
       have hcall3 := push2_b (fun k => ga ([cutN (⟨m.va, m.vb⟩ : Da) (2 * (d.crs.length : Int) + 3) 1, cutN (⟨m.ua, m.ub⟩ : Da) (2 * (d.crs.length : Int) + 1) 1, cutN (⟨m.va, m.vb⟩ : Da) (2 * (d.crs.length : Int) + 3) 2, cutN (⟨m.ua, m.ub⟩ : Da) (2 * (d.crs.length : Int) + 1) 0] : List Int) k) (eiN m.ub 3 1) m (U1c (U1c d.crs (Ud d m.ua false).1 (Ud d m.ua false).2 (2 * (d.crs.length : Int) + 2)) (Ud d m.va false).1 (Ud d m.va false).2 (2 * (d.crs.length : Int) + 4)) (SH.bxOf (N := []) (i := 3) S129 rfl rfl) (SH.bxOf (N := []) (i := 4) S129 rfl rfl) (by unfold eiN; split <;> omega) (by first | omega | (simp only [List.length_append, List.length_singleton]; omega)) (S128.lend1 (i := 0) rfl); clear S129
       refine (wo_c1F (i := 0) rfl rfl rfl rfl rfl rfl rfl cf121 S128 rfl hcall3 ?_)
       intro vw118 w118 M89 rw118 hle89 S130 hR5; clear S128
       obtain ⟨hMX3, hR5⟩ := hR5
       rw [hMX3] at S130
       obtain ⟨vcrn119, rfl⟩ := hR5
       replace S130 : SH _ _ _ (Rs.bun [_, _, _] :: [_, _, _, _]) := S130
       have S131 : SH _ _ _ [_, _, _, _, _, _, _] := SH.U2y (A := [_, _, _]) (B := [_, _, _, _]) S130; clear S130
       refine U10.grow [_, _, _] (Hp.le_refl _) S131 ?_; clear S131
       change WA _ _ _ _ _ _ _ _ _ _ _ _ [_, _, _, _, _, _, _]
       refine Uu (by kernel_rfl) (fun w119 S132 => ?_)
       refine nmk [3, 6, 7, 8] rfl (U4 ?_)
       have S133 := S132.pick [0, 1, 2, 3, 4, 5, 6] [_, _, _, _, _, _, _] (by decide) ⟨rfl, rfl, rfl, rfl, rfl, rfl, rfl, trivial⟩; clear S132
       refine U29 [_, _, _] [_, _, _, _] rfl (by kernel_rfl) S133 15 rfl ?_
       clear S133
       change WA _ _ _ _ _ _ _ _ _ _ _ _ [_, _, _, _, _, _, _]
       refine wap 0 14 rfl (by kernel_rfl) (fun _ => run_move rfl rfl) ?_
       refine wat 1 13 rfl (by kernel_rfl) (fun _ _ _ hz Sz => .inl (U1d (e := 0) (k := 1) rfl rfl rfl uT150 sz3 (by first | rfl | omega) (by first | omega | (simp only [ls]; omega)))) ?_
       refine wat 2 12 rfl (by kernel_rfl) (fun _ _ _ hz Sz => .inl (U3 rfl rfl uT3 rfl (Sz.suf.boxc (i := 1) rfl rfl))) ?_
       refine wat 3 11 rfl (by kernel_rfl) (fun _ _ _ hz Sz => .inl (U1d (e := 1) (k := 1) rfl rfl rfl uT150 sz3 (by first | rfl | omega) (by first | omega | (simp only [ls]; omega)))) ?_
       refine wat 4 10 rfl (by kernel_rfl) (fun _ _ _ hz Sz => .inl (U3 rfl rfl uT3 rfl (Sz.suf.boxc (i := 0) rfl rfl))) ?_
       refine wat 5 9 rfl (by kernel_rfl) (fun _ _ _ hz Sz => .inl (U1d (e := 1) (k := 1) rfl rfl rfl uT150 sz3 (by first | rfl | omega) (by first | omega | (simp only [ls]; omega)))) ?_
       refine wat 6 8 rfl (by kernel_rfl) (fun _ _ _ hz Sz => .inl (U3 rfl rfl uT3 rfl (Sz.suf.boxc (i := 1) rfl rfl))) ?_
       refine wat 7 7 rfl (by kernel_rfl) (fun _ _ _ hz Sz => .inl (U1d (e := 2) (k := 1) rfl rfl rfl uT150 sz3 (by first | rfl | omega) (by first | omega | (simp only [ls]; omega)))) ?_
       refine wat 8 6 rfl (by kernel_rfl) (fun _ _ _ hz Sz => .inl (U3 rfl rfl uT3 rfl (Sz.suf.boxc (i := 0) rfl rfl))) ?_
       refine wat 9 5 rfl (by kernel_rfl) (fun _ _ _ hz Sz => .inl (U1n (l := [_, _, _, _]) (pl := [(0, 1), (1, 1), (2, 1), (3, 1)]) rfl rfl uT208 zr208 sz3 rfl rfl rfl)) ?_
       refine wap 10 4 rfl (by kernel_rfl) (fun _ => U0 rfl rfl uT28 rfl (ce26) (nf26)) ?_
       refine wap 11 3 rfl (by kernel_rfl) (fun _ => U0 rfl rfl uT26 rfl (ce4) (nf4)) ?_
       refine wat 12 2 rfl (by kernel_rfl) (fun _ _ _ hz Sz => .inl (U3 rfl rfl uT4 rfl (Sz.suf.boxc (i := 2) rfl rfl))) ?_
       refine wat 13 1 rfl (by kernel_rfl) (fun _ _ _ hz Sz => Uq rfl rfl rfl rfl rfl cf122 Sz (either_q m.ub 1 3  Sz.lend)) ?_
       refine Um (i := 14) 0 rfl (by kernel_rfl) rfl rfl (fun w135 S149 => ?_)
       have S150 := S149.pick [0, 1, 2, 3, 4, 5, 6] [_, _, _, _, _, _, _] (by decide) ⟨rfl, rfl, rfl, rfl, rfl, rfl, rfl, trivial⟩; clear S149
       have S151 : SH _ _ _ (Rs.bun [_, _, _] :: [_, _, _, _]) := SH.bunC (A := [_, _, _]) (B := [_, _, _, _]) S150; clear S150
       have S152 : SH _ _ _ [_, _, _, _, _] := S151.less (i := 0) rfl
       have hcall4 := push2_b (fun k => ga ([cutN (⟨m.va, m.vb⟩ : Da) (2 * (d.crs.length : Int) + 3) 0, cutN (⟨m.ua, m.ub⟩ : Da) (2 * (d.crs.length : Int) + 1) 1, cutN (⟨m.va, m.vb⟩ : Da) (2 * (d.crs.length : Int) + 3) 1, cutN (⟨m.ua, m.ub⟩ : Da) (2 * (d.crs.length : Int) + 1) 2] : List Int) k) (eiN m.ub 1 3) m ((U1c (U1c d.crs (Ud d m.ua false).1 (Ud d m.ua false).2 (2 * (d.crs.length : Int) + 2)) (Ud d m.va false).1 (Ud d m.va false).2 (2 * (d.crs.length : Int) + 4)) ++ [pcross m (fun k => ga ([cutN (⟨m.va, m.vb⟩ : Da) (2 * (d.crs.length : Int) + 3) 1, cutN (⟨m.ua, m.ub⟩ : Da) (2 * (d.crs.length : Int) + 1) 1, cutN (⟨m.va, m.vb⟩ : Da) (2 * (d.crs.length : Int) + 3) 2, cutN (⟨m.ua, m.ub⟩ : Da) (2 * (d.crs.length : Int) + 1) 0] : List Int) k) (eiN m.ub 3 1)]) (SH.bxOf (N := []) (i := 3) S152 rfl rfl) (SH.bxOf (N := []) (i := 4) S152 rfl rfl) (by unfold eiN; split <;> omega) (by first | omega | (simp only [List.length_append, List.length_singleton]; omega)) (S151.lend1 (i := 0) rfl); clear S152
       refine (wo_c1F (i := 0) rfl rfl rfl rfl rfl rfl rfl cf121 S151 rfl hcall4 ?_)
       intro vw136 w136 M105 rw136 hle105 S153 hR6; clear S151
       obtain ⟨hMX4, hR6⟩ := hR6
       rw [hMX4] at S153
       obtain ⟨vcrn134, rfl⟩ := hR6
       replace S153 : SH _ _ _ (Rs.bun [_, _, _] :: [_, _, _, _]) := S153
       have S154 : SH _ _ _ [_, _, _, _, _, _, _] := SH.U2y (A := [_, _, _]) (B := [_, _, _, _]) S153; clear S153
       refine U10.grow [_, _, _] (Hp.le_refl _) S154 ?_; clear S154
       change WA _ _ _ _ _ _ _ _ _ _ _ _ [_, _, _, _, _, _, _]
       refine Uu (by kernel_rfl) (fun w137 S155 => ?_)
       refine U2j hC [] rfl trivial ?_
       obtain ⟨M106, hle106, S156, ⟨A1, c1, e1, hr1⟩⟩ := S155.pubrow (i := 2) (H' := [_, _, _, _, _, _, _]) rfl rfl (by show _ * 40 ≤ _; first | omega | (simp only [ls]; omega))
       clear S155; subst e1
       replace hsi := hsi.mono hle106
       replace hso := hso.mono hle106
       replace hfa := hfa.mono hle106
       replace hfd := hfd.mono hle106
       have hok3 : (1 ≤ m.ua ∧ m.ua ≤ 2 * (d.crs.length : Int)) ∧ (1 ≤ m.va ∧ m.va ≤ 2 * (d.crs.length : Int)) := by omega
       have herr : puE d m = 0 := by unfold puE; rw [if_pos hok3, if_pos ⟨hg41, hn43⟩, if_pos hn55]
       refine .inl ⟨herr, _, rfl, _, _, hle106, (S156.pick [0, 1] [_, _] (by decide) ⟨rfl, rfl, trivial⟩).bun, ?_⟩
       exact ⟨rfl, _, _, rfl, hr1⟩
     ·have hok3 : (1 ≤ m.ua ∧ m.ua ≤ 2 * (d.crs.length : Int)) ∧ (1 ≤ m.va ∧ m.va ≤ 2 * (d.crs.length : Int)) := by omega
      have herr : puE d m = 2 := by unfold puE; rw [if_pos hok3, if_pos ⟨hg41, hn43⟩, if_neg hn55]
      refine U2e (k := 11) rfl rfl rfl rfl rfl rfl rfl cf109 S25 (U25 2 S25.lend) ?_
      intro w9 M9 hle9 S9
      subst hC
      exact .inr ⟨by rw [herr]; first | decide | assumption, by rw [herr], M9, (Hp.le_refl _).trans hle9, S9.pick [] [] (by decide) trivial⟩
    ·have hok3 : (1 ≤ m.ua ∧ m.ua ≤ 2 * (d.crs.length : Int)) ∧ (1 ≤ m.va ∧ m.va ≤ 2 * (d.crs.length : Int)) := by omega
     have herr : puE d m = 8 := by unfold puE; rw [if_pos hok3, if_neg (fun h => by rw [hn43] at h; exact absurd h.2 (by decide))]
     refine U2e (k := 10) rfl rfl rfl rfl rfl rfl rfl cf109 S24 (U25 8 S24.lend) ?_
     intro w9 M9 hle9 S9
     subst hC
     exact .inr ⟨by rw [herr]; first | decide | assumption, by rw [herr], M9, (Hp.le_refl _).trans hle9, S9.pick [] [] (by decide) trivial⟩
   ·refine mvs 8 2 rfl rfl ?_
    have hok3 : (1 ≤ m.ua ∧ m.ua ≤ 2 * (d.crs.length : Int)) ∧ (1 ≤ m.va ∧ m.va ≤ 2 * (d.crs.length : Int)) := by omega
    have herr : puE d m = 8 := by unfold puE; rw [if_pos hok3, if_neg (fun h => hg41 h.1)]
    refine U2e (k := 10) rfl rfl rfl rfl rfl rfl rfl cf109 S24 (U25 8 S24.lend) ?_
    intro w9 M9 hle9 S9
    subst hC
    exact .inr ⟨by rw [herr]; first | decide | assumption, by rw [herr], M9, (Hp.le_refl _).trans hle9, S9.pick [] [] (by decide) trivial⟩
  ·have herr : puE d m = 3 := by unfold puE; rw [if_neg (by omega)]
   refine U37 (i := 18) 0 rfl (by kernel_rfl) rfl rfl rfl rfl rfl rfl rfl cf109 (fun w9 S9 => U25 3 S9.lend) ?_
   intro w9 M9 hle9 S9
   subst hC
   exact .inr ⟨by rw [herr]; first | decide | assumption, by rw [herr], M9, (Hp.le_refl _).trans hle9, S9.pick [] [] (by decide) trivial⟩
 ·refine Ur (i := 9) (d := 18) 9 rfl (by kernel_rfl) (by kernel_rfl) (by kernel_rfl) ⟨_, _, _, rfl, rfl, rfl, rfl⟩ rfl rfl ?_
  refine Ur (i := 10) (d := 19) 8 rfl (by kernel_rfl) (by kernel_rfl) (by kernel_rfl) ⟨_, _, _, rfl, rfl, rfl, rfl⟩ rfl rfl ?_
  refine Ur (i := 11) (d := 20) 7 rfl (by kernel_rfl) (by kernel_rfl) (by kernel_rfl) ⟨_, _, _, rfl, rfl, rfl, rfl⟩ rfl rfl ?_
  refine Ur (i := 12) (d := 21) 6 rfl (by kernel_rfl) (by kernel_rfl) (by kernel_rfl) ⟨_, _, _, rfl, rfl, rfl, rfl⟩ rfl rfl ?_
  refine Ur (i := 13) (d := 22) 5 rfl (by kernel_rfl) (by kernel_rfl) (by kernel_rfl) ⟨_, _, _, rfl, rfl, rfl, rfl⟩ rfl rfl ?_
  refine Ur (i := 14) (d := 23) 4 rfl (by kernel_rfl) (by kernel_rfl) (by kernel_rfl) ⟨_, _, _, rfl, rfl, rfl, rfl⟩ rfl rfl ?_
  refine Ur (i := 15) (d := 24) 3 rfl (by kernel_rfl) (by kernel_rfl) (by kernel_rfl) ⟨_, _, _, rfl, rfl, rfl, rfl⟩ rfl rfl ?_
  refine Ur (i := 16) (d := 25) 2 rfl (by kernel_rfl) (by kernel_rfl) (by kernel_rfl) ⟨_, _, _, rfl, rfl, rfl, rfl⟩ rfl rfl ?_
  refine wap 17 1 rfl (by kernel_rfl) (fun _ => U1r rfl rfl rfl) ?_
  have herr : puE d m = 3 := by unfold puE; rw [if_neg (by omega)]
  refine U37 (i := 18) 0 rfl (by kernel_rfl) rfl rfl rfl rfl rfl rfl rfl cf109 (fun w9 S9 => U25 3 S9.lend) ?_
  intro w9 M9 hle9 S9
  subst hC
  exact .inr ⟨by rw [herr]; first | decide | assumption, by rw [herr], M9, (Hp.le_refl _).trans hle9, S9.pick [] [] (by decide) trivial⟩
end Go.Proofs.YthppkofceancjaaGreat
namespace Go.Proofs.YthppkofceancjaaGreat
open Go.ChangeShapes Go.WideShapes Go.ChangeAt Go.RowKit
theorem ringF_all {nx : Nat → Nat} {Q : Nat → Prop} (hx : ∀ c, Q c → Q (nx c)) (seen : List Bool) (x : Nat) (acc : List Int) (h : Q x) (ha : ∀ y ∈ acc, ∃ c : Nat, y = (c : Int) ∧ Q c) : ∀ y ∈ (U2z nx seen x acc).2, ∃ c : Nat, y = (c : Int) ∧ Q c := by
 induction hk : free seen using Nat.strongRecOn generalizing seen x acc with
 | _ k ih =>
  by_cases hc : x < seen.length ∧ ga seen x = false
  ·rw [U3u hc.1 hc.2]
   have := U2s hc.1 hc.2
   refine ih (free (seen.set x true)) (by omega) (seen.set x true) (nx x) (acc ++ [(x : Int)]) (hx _ h) ?_ rfl
   intro y hy
   rcases List.mem_append.1 hy with hy | hy
   ·exact ha y hy
   ·rw [List.mem_singleton] at hy; exact ⟨x, hy, h⟩
  ·rw [U2z]
   simp only [hc, if_false, dite_false]
   exact ha
theorem facesN_all {d : Dg} (h : U1b d = true) (k : Nat) (hk : k ≤ 4 * d.crs.length) : ∀ r ∈ (U1w d k).2, ∀ y ∈ r, ∃ c : Nat, y = (c : Int) ∧ (2 ≤ c ∧ c < 4 * d.crs.length + 2) := by
 induction k with
 | zero => intro r hr; simp [U1w] at hr
 | succ k ih =>
  by_cases hg : ga (U1w d k).1 (k + 2) = true
  ·rw [U2n rfl hg]; exact ih (by omega)
  ·rw [U2o rfl (by simpa using hg) rfl]
   intro r hr
   rcases List.mem_append.1 hr with hr | hr
   ·exact ih (by omega) r hr
   ·rw [List.mem_singleton] at hr
    subst hr
    exact ringF_all (Q := fun c => 2 ≤ c ∧ c < 4 * d.crs.length + 2) (fun c hc => nxC_rng h hc) _ _ _ ⟨by omega, by omega⟩ (fun y hy => by cases hy)
theorem faces_ok {d : Dg} (h : U1b d = true) {x : List Da} (hx : x ∈ U6 d) : ∀ y ∈ x, okD d y := by
 unfold U6 facesD at hx
 obtain ⟨r, hr, rfl⟩ := List.mem_map.1 hx
 intro y hy
 unfold dasL at hy
 obtain ⟨c, hc, rfl⟩ := List.mem_map.1 hy
 obtain ⟨e, rfl, he⟩ := facesN_all h _ (Nat.le_refl _) r hr c hc
 rw [Int.toNat_natCast]
 exact dA_ok he
def tlC (d : Dg) (x : Da) : Nat := (Ud d x.a (!x.b)).1
def pulP (d : Dg) (i j : Int) (x : List Da) : Bool := decide (x.length = 2 ∧ ((tlC d (ga x 0) : Int) = i ∧ (tlC d (ga x 1) : Int) = j ∨ (tlC d (ga x 0) : Int) = j ∧ (tlC d (ga x 1) : Int) = i) ∧ (hgt d (ga x 0).a = 2 ∧ hgt d (ga x 1).a = 0 ∨ hgt d (ga x 0).a = 0 ∧ hgt d (ga x 1).a = 2))
def plE (d : Dg) (m : Mv) : Int := if (0 ≤ m.at_ ∧ m.at_ < (d.crs.length : Int)) ∧ (0 ≤ m.by_ ∧ m.by_ < (d.crs.length : Int)) ∧ m.at_ ≠ m.by_ then (if (U6 d).any (pulP d m.at_ m.by_) = true then takE d [m.at_.toNat, m.by_.toNat] else 8) else 3
def plD (d : Dg) (m : Mv) : Dg := tkD d (inG [m.at_.toNat, m.by_.toNat])
noncomputable def Z10b:=Tryz.f124.body.getD .skip
def Z10c := cL Z10b
def Z10d := cR Z10b
def Z10e := cL Z10d
def Z10f := cR Z10d
def Z10g := cL Z10e
def Z10h := cR Z10e
def Z10i := cL Z10h
def Z10j := cR Z10h
def Z10k := cL Z10i
def Z10l := cR Z10i
def Z10m := cL Z10f
def Z10n := cR Z10f
def Z10o := cL Z10n
def Z10p := cR Z10n
def Z10q := cL Z10o
def Z10r := cR Z10o
def Z10s := cL Z10r
def Z10t := cR Z10r
def Z10u := cL Z10s
def Z10v := cR Z10s
def Z10w := cL Z10p
def Z10x := cR Z10p
def Z10y := cL Z10x
def Z10z := cR Z10x
def Z110 := cL Z10z
def Z111 := cR Z10z
set_option maxHeartbeats 1000000 in
set_option maxRecDepth 10000 in
theorem pull1_q {w : World} {M : Hp} {X : Fr} (s : List Da) {sA : Option Addr} {sc : Nat} (d : Dg) {gsh : Nat} {cA iA oA : Option Addr} {cc ic oc : Nat} {ggb : Nat} {fV : Value} {gx : Nat} (m : Mv) {gm : Nat} (hs : RdA cdDa (M.un X.h) sA sc s) (hbb : BxM (M.un X.h) ggb 67 [.pointer (some ⟨gsh, 0, none⟩), fV]) (hsb : BxM (M.un X.h) gsh 70 [.slice cA d.crs.length cc, .int .i64 d.loops, .slice iA (tabL d false (4 * d.crs.length)).length ic, .slice oA (tabL d true (4 * d.crs.length)).length oc]) (hsc : RdA cdCr (M.un X.h) cA cc d.crs) (hsi : RdA cdPl (M.un X.h) iA ic (tabL d false (4 * d.crs.length))) (hso : RdA cdPl (M.un X.h) oA oc (tabL d true (4 * d.crs.length))) (hbx : BxM (M.un X.h) gx 55 [.pointer (some ⟨ggb, 0, none⟩)]) (hbm : BxM (M.un X.h) gm 28 [.int .i64 m.kd, .int .i64 m.at_, .int .i64 m.by_, .int .i64 m.ua, .bool m.ub, .int .i64 m.va, .bool m.vb, .bool m.ov]) (hn : d.crs.length ≤ 16) (hab : U1b d = true) (hok : ∀ x ∈ s, okD d x) (S : SH w M X []) : Cq Tryz.prog 124 [.slice sA s.length sc, .pointer (some ⟨gx, 0, none⟩), .pointer (some ⟨gm, 0, none⟩)] w M X (fun u => u = .bool (pulP d m.at_ m.by_ s)) := by
 unfold Cq
 have rmhs : s.length * 16 ≤ 140737488355328 := hs.room
 refine Uo (b := Z10b) Tryz.func124 rfl Tryz.ntmps124 rfl (fun C hC => (U14 [(0, _), (1, _), (2, _)] ⟨rfl, rfl, rfl, trivial⟩ (U2 Z10c Z10d rfl rfl rfl (U1 rfl (mvs 0 1 rfl rfl (U5 rfl (nmk [0, 1, 2] rfl (U4 (U2 Z10e Z10f rfl rfl rfl ?_)))))))))
 refine U2 Z10g Z10h rfl rfl rfl (U1 rfl (mvs 0 1 rfl rfl (wlr 1 rfl (U1f rfl rfl rfl rfl rfl rfl uT141) (wlr 2 rfl (U2k rfl rfl rfl) (U5 rfl (nmk [0, 1, 2, 13] rfl (U4 ?_)))))))
 refine Ue Z10i Z10j rfl rfl rfl rfl (fun hb13 => ?_) (fun hb13 => ?_)
 ·refine U2 Z10k Z10l rfl rfl rfl (U1 rfl (mvs 0 1 rfl rfl (U5 rfl (nmk [4] rfl (U4 (Uk hC [_] rfl rfl ⟨rfl, trivial⟩ ?_))))))
  exact ⟨_, rfl, (S.pick [] [] (by decide) trivial), (by show Value.bool _ = Value.bool _; refine congrArg Value.bool ?_; unfold pulP tlC; rw [Bool.eq_iff_iff]; simp only [decide_eq_true_eq, Bool.false_eq_true, false_iff, true_iff]; omega)⟩
 ·have ho0 : okD d (ga s 0) := hok _ (U2m (by omega))
  have ho1 : okD d (ga s 1) := hok _ (U2m (by omega))
  have hp0 : 1 ≤ (ga s 0).a ∧ (ga s 0).a ≤ 2 * (d.crs.length : Int) := ho0
  have hp1 : 1 ≤ (ga s 1).a ∧ (ga s 1).a ≤ 2 * (d.crs.length : Int) := ho1
  refine Uf rfl (nmk [0, 1, 2] rfl (U4 (U2 Z10m Z10n rfl rfl rfl (Ux rfl (by kernel_rfl) S 20 rfl ?_))))
  clear S
  refine wat 0 19 rfl (by kernel_rfl) (fun _ _ _ hz Sz => .inl (U3 rfl rfl uT55 rfl ((hbx.mono (Hp.Ua hz Sz.mx)).cell Sz.um rfl))) ?_
  refine wap 1 18 rfl (by kernel_rfl) (fun _ => U9 rfl rfl) ?_
  refine wap 2 17 rfl (by kernel_rfl) (fun _ => U0 rfl rfl uT67 rfl (ce64) (nf64)) ?_
  refine wat 3 16 rfl (by kernel_rfl) (fun _ _ _ hz Sz => .inl (U3 rfl rfl uT64 rfl ((hbb.mono (Hp.Ua hz Sz.mx)).cell Sz.um rfl))) ?_
  refine wap 4 15 rfl (by kernel_rfl) (fun _ => run_move rfl rfl) ?_
  refine wat 5 14 rfl (by kernel_rfl) (fun _ _ _ hz Sz => .inl (Uj (C := cdDa) 0 rfl rfl rfl sl141 (by first | rfl | omega) (hs.mono (Hp.Ua hz Sz.mx)) (by first | omega | (simp only [ls]; omega)))) ?_
  refine wat 6 13 rfl (by kernel_rfl) (fun _ _ _ hz Sz => .inl (U8 (us := [_, _]) rfl rfl uT26 rfl sz26 ((hs.mono (Hp.Ua hz Sz.mx)).U1x Sz.um (e := 0) (by first | omega | (simp only [ls]; omega)) (j := 0) ⟨rfl, rfl, trivial⟩))) ?_
  refine wat 7 12 rfl (by kernel_rfl) (fun _ _ _ hz Sz => Uq rfl rfl rfl rfl rfl cf125 Sz (Tail_q d (ga s 0) ((hsb.mono (Hp.Ua hz Sz.mx)).mono Sz.Uw) ((hsc.mono (Hp.Ua hz Sz.mx)).mono Sz.Uw) ((hsi.mono (Hp.Ua hz Sz.mx)).mono Sz.Uw) ((hso.mono (Hp.Ua hz Sz.mx)).mono Sz.Uw) (by first | assumption | omega) hab (by first | assumption | omega) Sz.lend)) ?_
  refine wap 8 11 rfl (by kernel_rfl) (fun _ => U23 rfl rfl uT190 rfl uT3 rfl rfl) ?_
  refine wat 9 10 rfl (by kernel_rfl) (fun _ _ _ hz Sz => .inl (U3 rfl rfl uT55 rfl ((hbx.mono (Hp.Ua hz Sz.mx)).cell Sz.um rfl))) ?_
  refine wap 10 9 rfl (by kernel_rfl) (fun _ => U9 rfl rfl) ?_
  refine wap 11 8 rfl (by kernel_rfl) (fun _ => U0 rfl rfl uT67 rfl (ce64) (nf64)) ?_
  refine wat 12 7 rfl (by kernel_rfl) (fun _ _ _ hz Sz => .inl (U3 rfl rfl uT64 rfl ((hbb.mono (Hp.Ua hz Sz.mx)).cell Sz.um rfl))) ?_
  refine wap 13 6 rfl (by kernel_rfl) (fun _ => run_move rfl rfl) ?_
  refine wat 14 5 rfl (by kernel_rfl) (fun _ _ _ hz Sz => .inl (Uj (C := cdDa) 1 rfl rfl rfl sl141 (by first | rfl | omega) (hs.mono (Hp.Ua hz Sz.mx)) (by first | omega | (simp only [ls]; omega)))) ?_
  refine wat 15 4 rfl (by kernel_rfl) (fun _ _ _ hz Sz => .inl (U8 (us := [_, _]) rfl rfl uT26 rfl sz26 ((hs.mono (Hp.Ua hz Sz.mx)).U1x Sz.um (e := 1) (by first | omega | (simp only [ls]; omega)) (j := 0) ⟨rfl, rfl, trivial⟩))) ?_
  refine wat 16 3 rfl (by kernel_rfl) (fun _ _ _ hz Sz => Uq rfl rfl rfl rfl rfl cf125 Sz (Tail_q d (ga s 1) ((hsb.mono (Hp.Ua hz Sz.mx)).mono Sz.Uw) ((hsc.mono (Hp.Ua hz Sz.mx)).mono Sz.Uw) ((hsi.mono (Hp.Ua hz Sz.mx)).mono Sz.Uw) ((hso.mono (Hp.Ua hz Sz.mx)).mono Sz.Uw) (by first | assumption | omega) hab (by first | assumption | omega) Sz.lend)) ?_
  refine wap 17 2 rfl (by kernel_rfl) (fun _ => U23 rfl rfl uT190 rfl uT3 rfl rfl) ?_
  refine wap 18 1 rfl (by kernel_rfl) (fun _ => run_assign rfl rfl) ?_
  refine wap 19 0 rfl (by kernel_rfl) (fun _ => run_assign rfl rfl) ?_
  refine Uu (by kernel_rfl) (fun w21 S21 => ?_)
  refine nmk [0, 1, 2, 5, 6] rfl (U4 (U2 Z10o Z10p rfl rfl rfl (U2 Z10q Z10r rfl rfl rfl (U1 rfl (mvs 0 1 rfl rfl (wlr 1 rfl (U0 rfl rfl uT28 rfl (ce3) (nf3)) (wlr 2 rfl (U3 rfl rfl uT3 rfl (hbm.cell S21.um rfl)) (wlr 3 rfl (Uz rfl rfl rfl) ?_))))))))
  refine mvs 4 1 rfl rfl ?_
  refine U27 (k' := 10) (d := 41) (decide ((((Ud d (ga s 0).a (!(ga s 0).b)).1 : Int) = m.at_) ∧ (((Ud d (ga s 1).a (!(ga s 1).b)).1 : Int) = m.by_))) [(0, _), (1, _), (2, _), (5, _), (6, _)] ⟨rfl, rfl, rfl, rfl, rfl, trivial⟩ (fun hJ41 => ?_) ?_
  ·refine Ut (t := 36) rfl (fun hg36 => ?_) (fun hg36 => ?_)
   ·refine mvs 5 1 rfl rfl (wlg 6 7 rfl rfl rfl rfl rfl rfl rfl rfl (Ub rfl rfl (U0 rfl rfl uT28 rfl (ce3) (nf3)) (wlg 7 8 rfl rfl rfl rfl rfl rfl rfl rfl (Ub rfl rfl (U3 rfl rfl uT3 rfl (hbm.cell S21.um rfl)) (wlg 8 9 rfl rfl rfl rfl rfl rfl rfl rfl (Ub rfl rfl (Uz rfl rfl rfl) (mvs 9 1 rfl rfl ?_)))))))
    exact U1t 41 (.bool (decide ((((Ud d (ga s 0).a (!(ga s 0).b)).1 : Int) = m.at_) ∧ (((Ud d (ga s 1).a (!(ga s 1).b)).1 : Int) = m.by_)))) rfl (congrArg Value.bool (decide_eq_decide.2 ⟨fun h => ⟨hg36, h⟩, fun h => h.2⟩)) (U22 [(41, _), (0, _), (1, _), (2, _), (5, _), (6, _)] ⟨rfl, rfl, rfl, rfl, rfl, rfl, trivial⟩ hJ41)
   ·refine mvs 5 5 rfl rfl ?_
    exact U1t 41 (.bool (decide ((((Ud d (ga s 0).a (!(ga s 0).b)).1 : Int) = m.at_) ∧ (((Ud d (ga s 1).a (!(ga s 1).b)).1 : Int) = m.by_)))) rfl (congrArg Value.bool (decide_eq_false (fun h => hg36 h.1)).symm) (U22 [(41, _), (0, _), (1, _), (2, _), (5, _), (6, _)] ⟨rfl, rfl, rfl, rfl, rfl, rfl, trivial⟩ hJ41)
  ·refine mvs 10 1 rfl rfl ?_
   refine U27 (k' := 22) (d := 53) (decide (((((Ud d (ga s 0).a (!(ga s 0).b)).1 : Int) = m.at_) ∧ (((Ud d (ga s 1).a (!(ga s 1).b)).1 : Int) = m.by_)) ∨ ((((Ud d (ga s 0).a (!(ga s 0).b)).1 : Int) = m.by_) ∧ (((Ud d (ga s 1).a (!(ga s 1).b)).1 : Int) = m.at_)))) [(0, _), (1, _), (2, _), (5, _), (6, _)] ⟨rfl, rfl, rfl, rfl, rfl, trivial⟩ (fun hJ53 => ?_) ?_
   ·refine Ut (t := 42) rfl (fun hg42 => ?_) (fun hg42 => ?_)
    ·refine mvs 11 6 rfl rfl (mvs 17 5 rfl rfl ?_)
     exact U1t 53 (.bool (decide (((((Ud d (ga s 0).a (!(ga s 0).b)).1 : Int) = m.at_) ∧ (((Ud d (ga s 1).a (!(ga s 1).b)).1 : Int) = m.by_)) ∨ ((((Ud d (ga s 0).a (!(ga s 0).b)).1 : Int) = m.by_) ∧ (((Ud d (ga s 1).a (!(ga s 1).b)).1 : Int) = m.at_))))) rfl (congrArg Value.bool (decide_eq_true (.inl hg42)).symm) (U22 [(53, _), (0, _), (1, _), (2, _), (5, _), (6, _)] ⟨rfl, rfl, rfl, rfl, rfl, rfl, trivial⟩ hJ53)
    ·refine mvs 11 1 rfl rfl (wlg 12 13 rfl rfl rfl rfl rfl rfl rfl rfl (Ub rfl rfl (U0 rfl rfl uT28 rfl (ce3) (nf3)) (wlg 13 14 rfl rfl rfl rfl rfl rfl rfl rfl (Ub rfl rfl (U3 rfl rfl uT3 rfl (hbm.cell S21.um rfl)) (wlg 14 15 rfl rfl rfl rfl rfl rfl rfl rfl (Ub rfl rfl (Uz rfl rfl rfl) (mvs 15 1 rfl rfl ?_)))))))
     refine U27 (k' := 21) (d := 52) (decide ((((Ud d (ga s 0).a (!(ga s 0).b)).1 : Int) = m.by_) ∧ (((Ud d (ga s 1).a (!(ga s 1).b)).1 : Int) = m.at_))) [(0, _), (1, _), (2, _), (5, _), (6, _), (42, _)] ⟨rfl, rfl, rfl, rfl, rfl, rfl, trivial⟩ (fun hJ52 => ?_) ?_
     ·refine Ut (t := 47) rfl (fun hg47 => ?_) (fun hg47 => ?_)
      ·refine mvs 16 1 rfl rfl (wlg 17 18 rfl rfl rfl rfl rfl rfl rfl rfl (Ub rfl rfl (U0 rfl rfl uT28 rfl (ce3) (nf3)) (wlg 18 19 rfl rfl rfl rfl rfl rfl rfl rfl (Ub rfl rfl (U3 rfl rfl uT3 rfl (hbm.cell S21.um rfl)) (wlg 19 20 rfl rfl rfl rfl rfl rfl rfl rfl (Ub rfl rfl (Uz rfl rfl rfl) (mvs 20 1 rfl rfl ?_)))))))
       exact U1t 52 (.bool (decide ((((Ud d (ga s 0).a (!(ga s 0).b)).1 : Int) = m.by_) ∧ (((Ud d (ga s 1).a (!(ga s 1).b)).1 : Int) = m.at_)))) rfl (congrArg Value.bool (decide_eq_decide.2 ⟨fun h => ⟨hg47, h⟩, fun h => h.2⟩)) (U22 [(52, _), (0, _), (1, _), (2, _), (5, _), (6, _), (42, _)] ⟨rfl, rfl, rfl, rfl, rfl, rfl, rfl, trivial⟩ hJ52)
      ·refine mvs 16 5 rfl rfl ?_
       exact U1t 52 (.bool (decide ((((Ud d (ga s 0).a (!(ga s 0).b)).1 : Int) = m.by_) ∧ (((Ud d (ga s 1).a (!(ga s 1).b)).1 : Int) = m.at_)))) rfl (congrArg Value.bool (decide_eq_false (fun h => hg47 h.1)).symm) (U22 [(52, _), (0, _), (1, _), (2, _), (5, _), (6, _), (42, _)] ⟨rfl, rfl, rfl, rfl, rfl, rfl, rfl, trivial⟩ hJ52)
     ·refine mvs 21 1 rfl rfl ?_
      exact U1t 53 (.bool (decide (((((Ud d (ga s 0).a (!(ga s 0).b)).1 : Int) = m.at_) ∧ (((Ud d (ga s 1).a (!(ga s 1).b)).1 : Int) = m.by_)) ∨ ((((Ud d (ga s 0).a (!(ga s 0).b)).1 : Int) = m.by_) ∧ (((Ud d (ga s 1).a (!(ga s 1).b)).1 : Int) = m.at_))))) rfl (congrArg Value.bool (decide_eq_decide.2 ⟨.inr, fun h => h.resolve_left hg42⟩)) (U22 [(53, _), (0, _), (1, _), (2, _), (5, _), (6, _)] ⟨rfl, rfl, rfl, rfl, rfl, rfl, trivial⟩ hJ53)
   ·refine wlr 22 rfl (U1j rfl rfl) (U5 rfl (nmk [0, 1, 54] rfl (U4 ?_)))
    refine U19 Z10s Z10t rfl rfl rfl rfl (fun hb54 => ?_) (fun hb54 => ?_)
    ·simp only [Bool.and_eq_true, Bool.or_eq_true, Bool.and_eq_false_iff, Bool.or_eq_false_iff, decide_eq_true_eq, decide_eq_false_iff_not, Bool.not_eq_true', Bool.not_eq_false'] at hb54
     refine U2 Z10u Z10v rfl rfl rfl (U1 rfl (mvs 0 1 rfl rfl (U5 rfl (nmk [4] rfl (U4 (Uk hC [_] rfl rfl ⟨rfl, trivial⟩ ?_))))))
     exact ⟨_, rfl, (S21.pick [] [] (by decide) trivial), (by show Value.bool _ = Value.bool _; refine congrArg Value.bool ?_; unfold pulP tlC; rw [Bool.eq_iff_iff]; simp only [decide_eq_true_eq, Bool.false_eq_true, false_iff, true_iff]; omega)⟩
    ·simp only [Bool.and_eq_true, Bool.or_eq_true, Bool.and_eq_false_iff, Bool.or_eq_false_iff, decide_eq_true_eq, decide_eq_false_iff_not, Bool.not_eq_true', Bool.not_eq_false'] at hb54
     refine Uf rfl (nmk [0, 1] rfl (U4 (U2 Z10w Z10x rfl rfl rfl (Ux rfl (by kernel_rfl) S21 11 rfl ?_))))
     clear S21
     refine wat 0 10 rfl (by kernel_rfl) (fun _ _ _ hz Sz => .inl (U3 rfl rfl uT55 rfl ((hbx.mono (Hp.Ua hz Sz.mx)).cell Sz.um rfl))) ?_
     refine wap 1 9 rfl (by kernel_rfl) (fun _ => run_move rfl rfl) ?_
     refine wat 2 8 rfl (by kernel_rfl) (fun _ _ _ hz Sz => .inl (Uj (C := cdDa) 0 rfl rfl rfl sl141 (by first | rfl | omega) (hs.mono (Hp.Ua hz Sz.mx)) (by first | omega | (simp only [ls]; omega)))) ?_
     refine wap 3 7 rfl (by kernel_rfl) (fun _ => U0 rfl rfl uT26 rfl (ce3) (nf3)) ?_
     refine wat 4 6 rfl (by kernel_rfl) (fun _ _ _ hz Sz => .inl (U3 rfl rfl uT3 rfl ((hs.mono (Hp.Ua hz Sz.mx)).cell Sz.um (i := 0) (by first | omega | (simp only [ls]; omega)) 0 rfl rfl))) ?_
     refine wat 5 5 rfl (by kernel_rfl) (fun _ _ _ hz Sz => Uq rfl rfl rfl rfl rfl cf126 Sz (over_q d ((ga s 0).a) ((hbb.mono (Hp.Ua hz Sz.mx)).mono Sz.Uw) ((hsb.mono (Hp.Ua hz Sz.mx)).mono Sz.Uw) ((hsc.mono (Hp.Ua hz Sz.mx)).mono Sz.Uw) ((hsi.mono (Hp.Ua hz Sz.mx)).mono Sz.Uw) ((hso.mono (Hp.Ua hz Sz.mx)).mono Sz.Uw) hn hab (by first | assumption | omega) Sz.lend)) ?_
     refine wap 6 4 rfl (by kernel_rfl) (fun _ => run_move rfl rfl) ?_
     refine wap 7 3 rfl (by kernel_rfl) (fun _ => Ul rfl rfl rfl) ?_
     refine wap 8 2 rfl (by kernel_rfl) (fun _ => Ul rfl rfl rfl) ?_
     refine wap 9 1 rfl (by kernel_rfl) (fun _ => run_assign rfl rfl) ?_
     refine wap 10 0 rfl (by kernel_rfl) (fun _ => run_assign rfl rfl) ?_
     refine Uu (by kernel_rfl) (fun w33 S33 => ?_)
     refine nmk [0, 1, 7, 8] rfl (U4 (U2 Z10y Z10z rfl rfl rfl (Ux rfl (by kernel_rfl) S33 11 rfl ?_)))
     clear S33
     refine wat 0 10 rfl (by kernel_rfl) (fun _ _ _ hz Sz => .inl (U3 rfl rfl uT55 rfl ((hbx.mono (Hp.Ua hz Sz.mx)).cell Sz.um rfl))) ?_
     refine wap 1 9 rfl (by kernel_rfl) (fun _ => run_move rfl rfl) ?_
     refine wat 2 8 rfl (by kernel_rfl) (fun _ _ _ hz Sz => .inl (Uj (C := cdDa) 1 rfl rfl rfl sl141 (by first | rfl | omega) (hs.mono (Hp.Ua hz Sz.mx)) (by first | omega | (simp only [ls]; omega)))) ?_
     refine wap 3 7 rfl (by kernel_rfl) (fun _ => U0 rfl rfl uT26 rfl (ce3) (nf3)) ?_
     refine wat 4 6 rfl (by kernel_rfl) (fun _ _ _ hz Sz => .inl (U3 rfl rfl uT3 rfl ((hs.mono (Hp.Ua hz Sz.mx)).cell Sz.um (i := 1) (by first | omega | (simp only [ls]; omega)) 0 rfl rfl))) ?_
     refine wat 5 5 rfl (by kernel_rfl) (fun _ _ _ hz Sz => Uq rfl rfl rfl rfl rfl cf126 Sz (over_q d ((ga s 1).a) ((hbb.mono (Hp.Ua hz Sz.mx)).mono Sz.Uw) ((hsb.mono (Hp.Ua hz Sz.mx)).mono Sz.Uw) ((hsc.mono (Hp.Ua hz Sz.mx)).mono Sz.Uw) ((hsi.mono (Hp.Ua hz Sz.mx)).mono Sz.Uw) ((hso.mono (Hp.Ua hz Sz.mx)).mono Sz.Uw) hn hab (by first | assumption | omega) Sz.lend)) ?_
     refine wap 6 4 rfl (by kernel_rfl) (fun _ => run_move rfl rfl) ?_
     refine wap 7 3 rfl (by kernel_rfl) (fun _ => Ul rfl rfl rfl) ?_
     refine wap 8 2 rfl (by kernel_rfl) (fun _ => Ul rfl rfl rfl) ?_
     refine wap 9 1 rfl (by kernel_rfl) (fun _ => run_assign rfl rfl) ?_
     refine wap 10 0 rfl (by kernel_rfl) (fun _ => run_assign rfl rfl) ?_
     refine Uu (by kernel_rfl) (fun w45 S45 => ?_)
     refine nmk [7, 8, 9, 10] rfl (U4 (U2 Z110 Z111 rfl rfl rfl (U1 rfl (mvs 0 2 rfl rfl ?_))))
     refine U27 (k' := 4) (d := 76) (decide ((hgt d ((ga s 0).a) = 2) ∧ (hgt d ((ga s 1).a) = 0))) [(8, _), (9, _), (10, _)] ⟨rfl, rfl, rfl, trivial⟩ (fun hJ76 => ?_) ?_
     ·refine Ut (t := 74) rfl (fun hg74 => ?_) (fun hg74 => ?_)
      ·refine mvs 2 2 rfl rfl ?_
       exact U1t 76 (.bool (decide ((hgt d ((ga s 0).a) = 2) ∧ (hgt d ((ga s 1).a) = 0)))) rfl (congrArg Value.bool (decide_eq_decide.2 ⟨fun h => ⟨hg74, h⟩, fun h => h.2⟩)) (U22 [(76, _), (8, _), (9, _), (10, _)] ⟨rfl, rfl, rfl, rfl, trivial⟩ hJ76)
      ·refine mvs 2 2 rfl rfl ?_
       exact U1t 76 (.bool (decide ((hgt d ((ga s 0).a) = 2) ∧ (hgt d ((ga s 1).a) = 0)))) rfl (congrArg Value.bool (decide_eq_false (fun h => hg74 h.1)).symm) (U22 [(76, _), (8, _), (9, _), (10, _)] ⟨rfl, rfl, rfl, rfl, trivial⟩ hJ76)
     ·refine mvs 4 1 rfl rfl ?_
      refine U27 (k' := 10) (d := 82) (decide (((hgt d ((ga s 0).a) = 2) ∧ (hgt d ((ga s 1).a) = 0)) ∨ ((hgt d ((ga s 0).a) = 0) ∧ (hgt d ((ga s 1).a) = 2)))) [(8, _), (9, _)] ⟨rfl, rfl, trivial⟩ (fun hJ82 => ?_) ?_
      ·refine Ut (t := 77) rfl (fun hg77 => ?_) (fun hg77 => ?_)
       ·refine mvs 5 5 rfl rfl ?_
        exact U1t 82 (.bool (decide (((hgt d ((ga s 0).a) = 2) ∧ (hgt d ((ga s 1).a) = 0)) ∨ ((hgt d ((ga s 0).a) = 0) ∧ (hgt d ((ga s 1).a) = 2))))) rfl (congrArg Value.bool (decide_eq_true (.inl hg77)).symm) (U22 [(82, _), (8, _), (9, _)] ⟨rfl, rfl, rfl, trivial⟩ hJ82)
       ·refine mvs 5 2 rfl rfl ?_
        refine U27 (k' := 9) (d := 81) (decide ((hgt d ((ga s 0).a) = 0) ∧ (hgt d ((ga s 1).a) = 2))) [(8, _), (9, _), (77, _)] ⟨rfl, rfl, rfl, trivial⟩ (fun hJ81 => ?_) ?_
        ·refine Ut (t := 79) rfl (fun hg79 => ?_) (fun hg79 => ?_)
         ·refine mvs 7 2 rfl rfl ?_
          exact U1t 81 (.bool (decide ((hgt d ((ga s 0).a) = 0) ∧ (hgt d ((ga s 1).a) = 2)))) rfl (congrArg Value.bool (decide_eq_decide.2 ⟨fun h => ⟨hg79, h⟩, fun h => h.2⟩)) (U22 [(81, _), (8, _), (9, _), (77, _)] ⟨rfl, rfl, rfl, rfl, trivial⟩ hJ81)
         ·refine mvs 7 2 rfl rfl ?_
          exact U1t 81 (.bool (decide ((hgt d ((ga s 0).a) = 0) ∧ (hgt d ((ga s 1).a) = 2)))) rfl (congrArg Value.bool (decide_eq_false (fun h => hg79 h.1)).symm) (U22 [(81, _), (8, _), (9, _), (77, _)] ⟨rfl, rfl, rfl, rfl, trivial⟩ hJ81)
        ·refine mvs 9 1 rfl rfl ?_
         exact U1t 82 (.bool (decide (((hgt d ((ga s 0).a) = 2) ∧ (hgt d ((ga s 1).a) = 0)) ∨ ((hgt d ((ga s 0).a) = 0) ∧ (hgt d ((ga s 1).a) = 2))))) rfl (congrArg Value.bool (decide_eq_decide.2 ⟨.inr, fun h => h.resolve_left hg77⟩)) (U22 [(82, _), (8, _), (9, _)] ⟨rfl, rfl, rfl, trivial⟩ hJ82)
      ·refine mvs 10 1 rfl rfl (U5 rfl (nmk [4] rfl (U4 (Uk hC [_] rfl rfl ⟨rfl, trivial⟩ ?_))))
       exact ⟨_, rfl, (S45.pick [] [] (by decide) trivial), (by show Value.bool _ = Value.bool _; refine congrArg Value.bool ?_; unfold pulP tlC; rw [Bool.eq_iff_iff]; simp only [decide_eq_true_eq, Bool.false_eq_true, false_iff, true_iff]; omega)⟩
noncomputable def Z112:=Tryz.f70.body.getD .skip
def Z113 := cL Z112
def Z114 := cR Z112
def Z115 := cL Z114
def Z116 := cR Z114
def Z117 := cL Z116
def Z118 := cR Z116
def Z119 := cL Z118
def Z11a := cR Z118
set_option maxHeartbeats 1000000 in
set_option maxRecDepth 10000 in
theorem Pull_m {w : World} {M : Hp} {X : Fr} (d : Dg) {ggb ggs : Nat} {vcr : Value} {iA oA fA : Option Addr} {ic oc fc : Nat} {fv : List SlV} (m : Mv) (hsi : RdA cdPl M iA ic (tabL d false (4 * d.crs.length))) (hso : RdA cdPl M oA oc (tabL d true (4 * d.crs.length))) (hfa : RdA (cdV 141) M fA fc fv) (hfd : Rd2 cdDa M fv (U6 d)) (hn : d.crs.length ≤ 16) (hab : U1b d = true) (hlo : 0 ≤ d.loops ∧ d.loops ≤ 16) (S : SH w M X [Rs.bun [Rs.box ggb 67 [.pointer (some ⟨ggs, 0, none⟩), .slice fA fv.length fc], Rs.box ggs 70 [vcr, .int .i64 d.loops, .slice iA (tabL d false (4 * d.crs.length)).length ic, .slice oA (tabL d true (4 * d.crs.length)).length oc], Rs.row cdCr vcr d.crs]]) : Cm 70 [.pointer (some ⟨ggb, 0, none⟩), .agg [.int .i64 m.kd, .int .i64 m.at_, .int .i64 m.by_, .int .i64 m.ua, .bool m.ub, .int .i64 m.va, .bool m.vb, .bool m.ov].toArray] w M X (plE d m) (BnR ggb ggs (.slice fA fv.length fc) (.slice iA (tabL d false (4 * d.crs.length)).length ic) (.slice oA (tabL d true (4 * d.crs.length)).length oc) (plD d m)) := by
 unfold Cm
 replace S := S.unbun
 obtain ⟨cA, cc, ecr, _⟩ := S.sl (i := 2) rfl
 refine Uo (b := Z112) Tryz.func70 rfl Tryz.ntmps70 rfl (fun C hC => (U14 [(0, _), (1, _)] ⟨rfl, rfl, trivial⟩ (U2 Z113 Z114 rfl rfl rfl (U1 rfl (wlo 0 1 rfl rfl rfl (U18 (l := [_]) rfl rfl rfl rfl rfl S ?_))))))
 intro gb1 w1 S1; clear S
 refine wlo 1 2 rfl rfl rfl (U18 (l := [_, _, _, _, _, _, _, _]) rfl rfl rfl rfl rfl S1 ?_)
 intro gb2 w2 S2; clear S1
 refine U5 rfl (nmk [2, 3] rfl (U4 (U2 Z115 Z116 rfl rfl rfl (U1 rfl (wlr 0 rfl (U3 rfl rfl uT55 rfl (S2.boxc (i := 1) rfl rfl)) (wlr 1 rfl (U0 rfl rfl uT28 rfl (ce3) (nf3)) (wlr 2 rfl (U3 rfl rfl uT3 rfl (S2.boxc (i := 0) rfl rfl)) (wlo 3 4 rfl rfl rfl (U20 rfl rfl rfl rfl rfl rfl rfl cf114 S2 (isCross_q d m.at_ (SH.bxOf (N := []) (i := 2) S2 rfl rfl) (SH.bxOf (N := []) (i := 3) S2 rfl (by rw [ecr])) (SH.rdOf (N := []) (i := 4) S2 rfl ecr (by show _ * 40 ≤ _; omega)) (hsi.mono (Hp.U1p _ _)) (hso.mono (Hp.U1p _ _)) (by omega) S2.lend) ?_)))))))))
 rintro _ w3 S3 rfl; clear S2
 refine mvs 4 1 rfl rfl ?_
 refine Ut (t := 9) rfl (fun hg9 => ?_) (fun hg9 => ?_)
 ·refine wlg 5 6 rfl rfl rfl rfl rfl rfl rfl rfl (Ub rfl rfl (U3 rfl rfl uT55 rfl (S3.boxc (i := 1) rfl rfl)) (wlg 6 7 rfl rfl rfl rfl rfl rfl rfl rfl (Ub rfl rfl (U0 rfl rfl uT28 rfl (ce3) (nf3)) (wlg 7 8 rfl rfl rfl rfl rfl rfl rfl rfl (Ub rfl rfl (U3 rfl rfl uT3 rfl (S3.boxc (i := 0) rfl rfl)) (wlg 8 9 rfl rfl rfl rfl rfl rfl rfl rfl (U20 rfl rfl rfl rfl rfl rfl rfl cf114 S3 (isCross_q d m.by_ (SH.bxOf (N := []) (i := 2) S3 rfl rfl) (SH.bxOf (N := []) (i := 3) S3 rfl (by rw [ecr])) (SH.rdOf (N := []) (i := 4) S3 rfl ecr (by show _ * 40 ≤ _; omega)) (hsi.mono (Hp.U1p _ _)) (hso.mono (Hp.U1p _ _)) (by omega) S3.lend) ?_)))))))
  rintro _ w4 S4 rfl; clear S3
  refine mvs 9 2 rfl rfl ?_
  refine Ut (t := 15) rfl (fun hg15 => ?_) (fun hg15 => ?_)
  ·refine wlg 11 12 rfl rfl rfl rfl rfl rfl rfl rfl (Ub rfl rfl (U0 rfl rfl uT28 rfl (ce3) (nf3)) (wlg 12 13 rfl rfl rfl rfl rfl rfl rfl rfl (Ub rfl rfl (U3 rfl rfl uT3 rfl (S4.boxc (i := 0) rfl rfl)) (wlg 13 14 rfl rfl rfl rfl rfl rfl rfl rfl (Ub rfl rfl (U0 rfl rfl uT28 rfl (ce3) (nf3)) (wlg 14 15 rfl rfl rfl rfl rfl rfl rfl rfl (Ub rfl rfl (U3 rfl rfl uT3 rfl (S4.boxc (i := 0) rfl rfl)) (wlg 15 16 rfl rfl rfl rfl rfl rfl rfl rfl (Ub rfl rfl (U2k rfl rfl rfl) (mvs 16 1 rfl rfl ?_))))))))))
   refine Ut (t := 21) rfl (fun hn21 => ?_) (fun hn21 => ?_)
   ·refine wlo 17 18 rfl rfl rfl (U20 rfl rfl rfl rfl rfl rfl rfl cf109 S4 (U31 3 S4.lend) ?_)
    rintro _ w5 S5 rfl; clear S4
    refine U5 rfl (nmk [2, 3] rfl (U4 (U2 Z117 Z118 rfl rfl rfl (U1 rfl (wlr 0 rfl (U3 rfl rfl uT55 rfl (S5.boxc (i := 1) rfl rfl)) (wlr 1 rfl (U9 rfl rfl) (wlr 2 rfl (U0 rfl rfl uT67 rfl (ce65) (nf65)) (wlr 3 rfl (U3 rfl rfl uT65 rfl (S5.boxc (i := 2) rfl rfl)) ?_))))))))
    refine wlr 4 rfl (U2l (vs := [_, _]) rfl rfl rfl rfl) (wlo 5 6 rfl rfl rfl (U20 rfl rfl rfl rfl rfl rfl rfl cf117 S5 (ContainsFuncD_q (U6 d) 124 _ (pulP d m.at_ m.by_) (hfa.mono (Hp.U1p _ _)) (hfd.mono (Hp.U1p _ _)) cf124 (fun w9 Y9 hl9 S9 A9 c9 x9 hm9 hr9 => pull1_q x9 d m hr9 ((SH.bxOf (N := []) (i := 2) S5 rfl rfl).mono hl9) ((SH.bxOf (N := []) (i := 3) S5 rfl (by rw [ecr])).mono hl9) ((SH.rdOf (N := []) (i := 4) S5 rfl ecr (by show _ * 40 ≤ _; omega)).mono hl9) ((hsi.mono (Hp.U1p _ _)).mono hl9) ((hso.mono (Hp.U1p _ _)).mono hl9) ((SH.bxOf (N := []) (i := 1) S5 rfl rfl).mono hl9) ((SH.bxOf (N := []) (i := 0) S5 rfl rfl).mono hl9) hn hab (faces_ok hab hm9) S9) S5.lend) ?_))
    rintro _ w6 S6 rfl; clear S5
    refine mvs 6 1 rfl rfl (U5 rfl (nmk [2, 3, 4] rfl (U4 (U2 Z119 Z11a rfl rfl rfl (U1 rfl (mvs 0 1 rfl rfl ?_))))))
    refine U2x (t := 29) rfl (fun hn29 => ?_) (fun hn29 => ?_)
    ·refine wlo 1 2 rfl rfl rfl (U20 rfl rfl rfl rfl rfl rfl rfl cf109 S6 (U31 8 S6.lend) ?_)
     rintro _ w7 S7 rfl; clear S6
     refine U5 rfl (nmk [2, 3] rfl (U4 ?_))
     have hok3 : (0 ≤ m.at_ ∧ m.at_ < (d.crs.length : Int)) ∧ (0 ≤ m.by_ ∧ m.by_ < (d.crs.length : Int)) ∧ m.at_ ≠ m.by_ := by omega
     refine U1 rfl (wlr 0 rfl (U3 rfl rfl uT55 rfl (S7.boxc (i := 1) rfl rfl)) (wlr 1 rfl (U0 rfl rfl uT28 rfl (ce3) (nf3)) (wlr 2 rfl (U3 rfl rfl uT3 rfl (S7.boxc (i := 0) rfl rfl)) (wlr 3 rfl (U0 rfl rfl uT28 rfl (ce3) (nf3)) (wlr 4 rfl (U3 rfl rfl uT3 rfl (S7.boxc (i := 0) rfl rfl)) (U1t 33 (.int .i64 ((m.at_.toNat : Nat) : Int)) rfl (int_eq (by omega)) ?_))))))
     refine U1t 35 (.int .i64 ((m.by_.toNat : Nat) : Int)) rfl (int_eq (by omega)) ?_
     refine wlo 5 6 rfl rfl rfl (U2g (C := Uv) (l := [_, _]) (pl := [(0, 1), (1, 1)]) rfl rfl rfl rfl sl53 rfl rfl rfl rfl rfl S7 ?_)
     intro gb3 w9 S9; clear S7
     by_cases herr037 : takE d [m.at_.toNat, m.by_.toNat] = 0
     ·have S10 := S9.pick [3, 4, 5, 0, 1, 2] [_, _, _, _, _, _] (by decide) ⟨rfl, rfl, rfl, rfl, rfl, rfl, trivial⟩; clear S9
      have S11 : SH _ _ _ (Rs.bun [_, _, _] :: [_, _, _]) := SH.bunC (A := [_, _, _]) (B := [_, _, _]) S10; clear S10
      have S12 : SH _ _ _ [_, _, _, _] := S11.less (i := 0) rfl
      have hr1 := S12.lendBoxN (C := Uv) (zs := [((m.at_.toNat : Nat) : Int), ((m.by_.toNat : Nat) : Int)]) (i := 1) rfl rfl (by show 2 * _ ≤ _; decide)
      have hcall1 := Take_m d ([((m.at_.toNat : Nat) : Int), ((m.by_.toNat : Nat) : Int)]) hsi hso hfa hfd hr1 (gs := [m.at_.toNat, m.by_.toNat]) rfl hn hab hlo (S11.lend1 (i := 0) rfl)
      clear S12
      refine wlo 6 7 rfl rfl rfl (wo_c1 (i := 0) rfl rfl rfl rfl rfl rfl rfl cf116 S11 rfl (hcall1.ok herr037) ?_)
      intro vw10 w10 M1 rw10 hle1 S13 hR1; clear S11
      obtain ⟨rfl, A1, c1, rfl, hr2⟩ := hR1
      replace hsi := hsi.mono hle1
      replace hso := hso.mono hle1
      replace hfa := hfa.mono hle1
      replace hfd := hfd.mono hle1
      replace S13 : SH _ _ _ (Rs.bun [_, _] :: [_, _, _]) := S13
      have S14 : SH _ _ _ [_, _, _, _, _] := SH.U2y (A := [_, _]) (B := [_, _, _]) S13; clear S13
      refine U5 rfl (U2j hC [] rfl trivial ?_)
      have herr : plE d m = 0 := by unfold plE; rw [if_pos hok3, if_pos hn29]; exact herr037
      refine .inl ⟨herr, _, rfl, _, _, hle1, (S14.pick [0, 1] [_, _] (by decide) ⟨rfl, rfl, trivial⟩).bun, ?_⟩
      exact ⟨rfl, _, _, rfl, hr2⟩
     ·have herr : plE d m = takE d [m.at_.toNat, m.by_.toNat] := by unfold plE; rw [if_pos hok3, if_pos hn29]
      have S15 := S9.pick [3, 4, 5, 0, 1, 2] [_, _, _, _, _, _] (by decide) ⟨rfl, rfl, rfl, rfl, rfl, rfl, trivial⟩; clear S9
      have S16 : SH _ _ _ (Rs.bun [_, _, _] :: [_, _, _]) := SH.bunC (A := [_, _, _]) (B := [_, _, _]) S15; clear S15
      have S17 : SH _ _ _ [_, _, _, _] := S16.less (i := 0) rfl
      have hr3 := S17.lendBoxN (C := Uv) (zs := [((m.at_.toNat : Nat) : Int), ((m.by_.toNat : Nat) : Int)]) (i := 1) rfl rfl (by show 2 * _ ≤ _; decide)
      have hcall2 := Take_m d ([((m.at_.toNat : Nat) : Int), ((m.by_.toNat : Nat) : Int)]) hsi hso hfa hfd hr3 (gs := [m.at_.toNat, m.by_.toNat]) rfl hn hab hlo (S16.lend1 (i := 0) rfl)
      refine U2e (k := 6) rfl rfl rfl rfl rfl rfl rfl cf116 S17 (hcall2.no herr037) ?_
      intro w9 M9 hle9 S9
      subst hC
      exact .inr ⟨by rw [herr]; first | decide | assumption, by rw [herr], M9, (Hp.le_refl _).trans hle9, S9.pick [] [] (by decide) trivial⟩
    ·have hok3 : (0 ≤ m.at_ ∧ m.at_ < (d.crs.length : Int)) ∧ (0 ≤ m.by_ ∧ m.by_ < (d.crs.length : Int)) ∧ m.at_ ≠ m.by_ := by omega
     have herr : plE d m = 8 := by unfold plE; rw [if_pos hok3, if_neg (by rw [hn29]; exact Bool.false_ne_true)]
     refine U2e (k := 1) rfl rfl rfl rfl rfl rfl rfl cf109 S6 (U25 8 S6.lend) ?_
     intro w9 M9 hle9 S9
     subst hC
     exact .inr ⟨by rw [herr]; first | decide | assumption, by rw [herr], M9, (Hp.le_refl _).trans hle9, S9.pick [] [] (by decide) trivial⟩
   ·have herr : plE d m = 3 := by unfold plE; rw [if_neg (by omega)]
    refine U2e (k := 17) rfl rfl rfl rfl rfl rfl rfl cf109 S4 (U25 3 S4.lend) ?_
    intro w9 M9 hle9 S9
    subst hC
    exact .inr ⟨by rw [herr]; first | decide | assumption, by rw [herr], M9, (Hp.le_refl _).trans hle9, S9.pick [] [] (by decide) trivial⟩
  ·refine mvs 11 6 rfl rfl ?_
   have herr : plE d m = 3 := by unfold plE; rw [if_neg (by omega)]
   refine U2e (k := 17) rfl rfl rfl rfl rfl rfl rfl cf109 S4 (U25 3 S4.lend) ?_
   intro w9 M9 hle9 S9
   subst hC
   exact .inr ⟨by rw [herr]; first | decide | assumption, by rw [herr], M9, (Hp.le_refl _).trans hle9, S9.pick [] [] (by decide) trivial⟩
 ·refine mvs 5 6 rfl rfl (mvs 11 6 rfl rfl ?_)
  have herr : plE d m = 3 := by unfold plE; rw [if_neg (by omega)]
  refine U2e (k := 17) rfl rfl rfl rfl rfl rfl rfl cf109 S3 (U25 3 S3.lend) ?_
  intro w9 M9 hle9 S9
  subst hC
  exact .inr ⟨by rw [herr]; first | decide | assumption, by rw [herr], M9, (Hp.le_refl _).trans hle9, S9.pick [] [] (by decide) trivial⟩
end Go.Proofs.YthppkofceancjaaGreat
namespace Go.Proofs.YthppkofceancjaaGreat
open Go.ChangeShapes Go.WideShapes Go.ChangeAt Go.RowKit
theorem mk190 : MapK Tryz.prog 190 (fun x : Nat × Nat => Value.agg (cdPl.f x).toArray) := mapK_st se190 (fun x y => ⟨(x.1 : Int) = (y.1 : Int) ∧ (x.2 : Int) = (y.2 : Int), ⟨_, _, _, _, rfl, rfl, ⟨_, _, _, rfl, rfl, rfl⟩, rfl⟩, ⟨fun h => by obtain ⟨a, b⟩ := x; obtain ⟨c, e⟩ := y; simp only at h; obtain ⟨h1, h2⟩ := h; simp; omega, fun h => by rw [h]; exact ⟨rfl, rfl⟩⟩⟩) (fun k => by simp [Instr.sameBits, cdPl, plF])
def esN (d : Dg) (f : List Da) : Nat → List (Int × Bool)
 | 0 => []
 | i + 1 => mp ((tlC d (ga f i) : Nat) : Int) true (esN d f i)
def hcN (d : Dg) (f : List Da) (h : Nat) : Nat → Nat
 | 0 => 0
 | i + 1 => hcN d f h i + (if hgt d (ga f i).a = h then 1 else 0)
def U3d (d : Dg) (f : List Da) : Bool := decide (f.length = 3 ∧ (esN d f 3).length = 3 ∧ hcN d f 2 3 = 1 ∧ hcN d f 0 3 = 1)
theorem hcN_le (d : Dg) (f : List Da) (h i : Nat) : hcN d f h i ≤ i := by
 induction i with
 | zero => exact Nat.le_refl _
 | succ i ih => unfold hcN; split <;> omega
theorem hcN_yes {d : Dg} {f : List Da} {h i : Nat} (e : hgt d (ga f i).a = h) : hcN d f h (i + 1) = hcN d f h i + 1 := by rw [hcN, if_pos e]
theorem hcN_no {d : Dg} {f : List Da} {h i : Nat} (e : ¬ hgt d (ga f i).a = h) : hcN d f h (i + 1) = hcN d f h i := by rw [hcN, if_neg e, Nat.add_zero]
def oppP (p : Nat × Nat) : Nat × Nat := (p.1, (p.2 + 2) % 4)
def nowN (d : Dg) (f : List Da) : Nat → List ((Nat × Nat) × Int)
 | 0 => []
 | i + 1 => mp (Ud d (ga f i).a true) (U1g d (oppP (Ud d (ga f i).a false)).1 (oppP (Ud d (ga f i).a false)).2) (mp (oppP (Ud d (ga f i).a true)) (ga f i).a (mp (oppP (Ud d (ga f i).a false)) (ga f i).a (mp (Ud d (ga f i).a false) (U1g d (oppP (Ud d (ga f i).a true)).1 (oppP (Ud d (ga f i).a true)).2) (nowN d f i))))
def U3b (xs : List Cr) (es : List ((Nat × Nat) × Int)) : List Cr := es.foldl (fun c q => U1c c q.1.1 q.1.2 q.2) xs
theorem setsL_len (es : List ((Nat × Nat) × Int)) : ∀ xs : List Cr, (U3b xs es).length = xs.length := by
 induction es with
 | nil => intro xs; rfl
 | cons q es ih => intro xs; exact (ih _).trans (U1o _ _ _ _)
theorem setsL_snoc (xs : List Cr) (es : List ((Nat × Nat) × Int)) (q : (Nat × Nat) × Int) : U3b xs (es ++ [q]) = U1c (U3b xs es) q.1.1 q.1.2 q.2 := by unfold U3b; rw [List.foldl_append]; rfl
def atOk (d : Dg) (p : Nat × Nat) : Prop := p.1 < d.crs.length ∧ p.2 < 4
theorem U3o {d : Dg} {p : Nat × Nat} (h : atOk d p) : atOk d (oppP p) := ⟨h.1, Nat.mod_lt _ (by decide)⟩
theorem mp_keysP {κ ε : Type} [DecidableEq κ] (k : κ) (v : ε) (es : List (κ × ε)) : (mp k v es).map Prod.fst = if k ∈ es.map Prod.fst then es.map Prod.fst else es.map Prod.fst ++ [k] := by
 induction es with
 | nil => simp [mp]
 | cons p r ih =>
  unfold mp
  by_cases h : k = p.1
  ·rw [if_pos h]; simp [h]
  ·rw [if_neg h, List.map_cons, ih]
   by_cases h2 : k ∈ r.map Prod.fst
   ·rw [if_pos h2, if_pos (by rw [List.map_cons]; exact List.mem_cons_of_mem _ h2), List.map_cons]
   ·rw [if_neg h2, if_neg (by rw [List.map_cons]; intro h3; exact (List.mem_cons.1 h3).elim h h2), List.map_cons, List.cons_append]
def PlE (d : Dg) (es : List ((Nat × Nat) × Int)) : Prop := (es.map Prod.fst).Nodup ∧ ∀ k ∈ es.map Prod.fst, atOk d k
theorem PlE.put {d : Dg} {es : List ((Nat × Nat) × Int)} (h : PlE d es) {k : Nat × Nat} (hk : atOk d k) (v : Int) : PlE d (mp k v es) := by
 refine ⟨?_, fun q hq => ?_⟩
 ·rw [mp_keysP]
  split
  ·exact h.1
  ·rename_i hn
   exact List.nodup_append.2 ⟨h.1, by simp, fun a ha b hb => by simp at hb; subst hb; exact fun e => hn (e ▸ ha)⟩
 ·rw [mp_keysP] at hq
  split at hq
  ·exact h.2 q hq
  ·rcases List.mem_append.1 hq with hq | hq
   ·exact h.2 q hq
   ·rw [List.mem_singleton] at hq; subst hq; exact hk
theorem endOf_ok {d : Dg} (hab : U1b d = true) {x : Da} (hx : okD d x) (b : Bool) : atOk d (Ud d x.a b) := by
 obtain ⟨h1, h2, _⟩ := endD hab hx b
 exact ⟨h1, h2⟩
theorem nowN_ok {d : Dg} (hab : U1b d = true) {f : List Da} (hf : ∀ x ∈ f, okD d x) : ∀ i, i ≤ f.length → PlE d (nowN d f i) := by
 intro i
 induction i with
 | zero => intro _; exact ⟨List.nodup_nil, fun k hk => by cases hk⟩
 | succ i ih =>
  intro hi
  have hx := hf _ (U2m (show i < f.length by omega))
  have h1 := endOf_ok hab hx true
  have h2 := endOf_ok hab hx false
  exact ((((ih (by omega)).put h2 _).put (U3o h2) _).put (U3o h1) _).put h1 _
theorem putS_comm {x : Cr} {j k : Nat} {a b : Int} (hj : j < 4) (hk : k < 4) (h : j ≠ k) : putS (putS x j a) k b = putS (putS x k b) j a := by
 obtain rfl | rfl | rfl | rfl : j = 0 ∨ j = 1 ∨ j = 2 ∨ j = 3 := by omega
 all_goals obtain rfl | rfl | rfl | rfl : k = 0 ∨ k = 1 ∨ k = 2 ∨ k = 3 := by omega
 all_goals first | rfl | exact absurd rfl h
theorem setCr_comm {n : Nat} {xs : List Cr} {p q : Nat × Nat} {a b : Int} (hn : xs.length = n) (hp : p.1 < n ∧ p.2 < 4) (hq : q.1 < n ∧ q.2 < 4) (h : p ≠ q) : U1c (U1c xs p.1 p.2 a) q.1 q.2 b = U1c (U1c xs q.1 q.2 b) p.1 p.2 a := by
 unfold U1c
 by_cases e : p.1 = q.1
 ·have h2 : p.2 ≠ q.2 := fun e2 => h (Prod.ext e e2)
  rw [← e, U1y _ _ _ _ (by omega), U1y _ _ _ _ (by omega), if_pos rfl, if_pos rfl, List.set_set, List.set_set, putS_comm hp.2 hq.2 h2]
 ·rw [U1y _ _ _ _ (by omega), U1y _ _ _ _ (by omega), if_neg e, if_neg (fun e' => e e'.symm), List.set_comm _ _ e]
theorem setsL_perm {d : Dg} {es es' : List ((Nat × Nat) × Int)} (hp : es.Perm es') (h : PlE d es') : U3b d.crs es = U3b d.crs es' := by
 have h0 : PlE d es := ⟨(hp.map Prod.fst).nodup_iff.2 h.1, fun k hk => h.2 k ((hp.map Prod.fst).mem_iff.1 hk)⟩
 have key : ∀ {l₁ l₂ : List ((Nat × Nat) × Int)}, l₁.Perm l₂ → PlE d l₁ → ∀ xs : List Cr, xs.length = d.crs.length → U3b xs l₁ = U3b xs l₂ := by
  intro l₁ l₂ hp
  induction hp with
  | nil => intro _ xs _; rfl
  | cons x _ ih =>
   intro hl xs hx
   obtain ⟨h1, h2⟩ := hl
   rw [List.map_cons, List.nodup_cons] at h1
   exact ih ⟨h1.2, fun k hk => h2 k (by rw [List.map_cons]; exact List.mem_cons_of_mem _ hk)⟩ _ ((U1o _ _ _ _).trans hx)
  | swap x y l =>
   intro hl xs hx
   obtain ⟨h1, h2⟩ := hl
   rw [List.map_cons, List.map_cons, List.nodup_cons] at h1
   have hx1 := h2 x.1 (by simp)
   have hy1 := h2 y.1 (by simp)
   have hne : y.1 ≠ x.1 := fun e => h1.1 (by rw [e]; simp)
   show U3b (U1c (U1c xs y.1.1 y.1.2 y.2) x.1.1 x.1.2 x.2) l = U3b (U1c (U1c xs x.1.1 x.1.2 x.2) y.1.1 y.1.2 y.2) l
   rw [setCr_comm hx hy1 hx1 hne]
  | trans h1 _ ih1 ih2 =>
   intro hl xs hx
   exact (ih1 hl xs hx).trans (ih2 ⟨(h1.map Prod.fst).nodup_iff.1 hl.1, fun k hk => hl.2 k ((h1.map Prod.fst).mem_iff.2 hk)⟩ xs hx)
 exact key hp h0 _ rfl
def slE (d : Dg) (m : Mv) : Int := if 0 ≤ m.at_ ∧ m.at_ < ((U6 d).length : Int) then (if U3d d (ga (U6 d) m.at_.toNat) = true then 0 else 8) else 3
def slD (d : Dg) (m : Mv) : Dg := ⟨U3b d.crs (nowN d (ga (U6 d) m.at_.toNat) 3), d.loops⟩
noncomputable def Z11b:=Tryz.f127.body.getD .skip
def Z11c := cL Z11b
def Z11d := cR Z11b
def Z11e := cL Z11d
def Z11f := cR Z11d
def Z11g := cL Z11e
def Z11h := cR Z11e
def Z11i := cL Z11h
def Z11j := cR Z11h
def Z11k := cL Z11i
def Z11l := cR Z11i
def Z11m := cL Z11f
def Z11n := cR Z11f
def Z11o := cL Z11n
def Z11p := cR Z11n
def Z11q := cL Z11p
def Z11r := cR Z11p
def Z11s := cL Z11q
def Z11t := cR Z11q
def Z11u := cL Z11t
def Z11v := cL Z11u
def Z11w := cL Z11v
def Z11x := cR Z11v
def Z11y := cL Z11x
def Z11z := cR Z11x
def Z120 := cL Z11y
def Z121 := cR Z11y
def Z122 := cL Z11z
def Z123 := cR Z11z
def Z124 := cL Z122
def Z125 := cL Z124
def Z126 := cR Z124
def Z127 := cL Z126
def Z128 := cR Z126
def Z129 := cL Z128
def Z12a := cR Z128
def Z12b := cL Z12a
def Z12c := cR Z12a
def Z12d := cL Z12b
def Z12e := cR Z12b
def Z12f := cL Z12e
def Z12g := cR Z12e
def Z12h := cL Z12c
def Z12i := cR Z12c
def Z12j := cL Z12i
def Z12k := cR Z12i
def Z12l := cL Z11r
def Z12m := cR Z11r
set_option maxHeartbeats 1000000 in
set_option maxRecDepth 10000 in
theorem slides_q {w : World} {M : Hp} {X : Fr} (d : Dg) {gsh : Nat} {cA iA oA : Option Addr} {cc ic oc : Nat} {ggb : Nat} {fV : Value} (f : List Da) {fA : Option Addr} {fc : Nat} (hbb : BxM (M.un X.h) ggb 67 [.pointer (some ⟨gsh, 0, none⟩), fV]) (hsb : BxM (M.un X.h) gsh 70 [.slice cA d.crs.length cc, .int .i64 d.loops, .slice iA (tabL d false (4 * d.crs.length)).length ic, .slice oA (tabL d true (4 * d.crs.length)).length oc]) (hsc : RdA cdCr (M.un X.h) cA cc d.crs) (hsi : RdA cdPl (M.un X.h) iA ic (tabL d false (4 * d.crs.length))) (hso : RdA cdPl (M.un X.h) oA oc (tabL d true (4 * d.crs.length))) (hf : RdA cdDa (M.un X.h) fA fc f) (hn : d.crs.length ≤ 16) (hab : U1b d = true) (hok : ∀ x ∈ f, okD d x) (S : SH w M X []) : Cq Tryz.prog 127 [.pointer (some ⟨ggb, 0, none⟩), .slice fA f.length fc] w M X (fun u => u = .bool (U3d d f)) := by
 unfold Cq
 have rmhf : f.length * 16 ≤ 140737488355328 := hf.room
 refine Uo (b := Z11b) Tryz.func127 rfl Tryz.ntmps127 rfl (fun C hC => (U14 [(0, _), (1, _)] ⟨rfl, rfl, trivial⟩ (U2 Z11c Z11d rfl rfl rfl (U1 rfl (mvs 0 1 rfl rfl (U5 rfl (nmk [0, 1] rfl (U4 (U2 Z11e Z11f rfl rfl rfl ?_)))))))))
 refine U2 Z11g Z11h rfl rfl rfl (U1 rfl (mvs 0 1 rfl rfl (wlr 1 rfl (U1f rfl rfl rfl rfl rfl rfl uT141) (wlr 2 rfl (U2k rfl rfl rfl) (U5 rfl (nmk [0, 1, 14] rfl (U4 ?_)))))))
 refine Ue Z11i Z11j rfl rfl rfl rfl (fun hb14 => ?_) (fun hb14 => ?_)
 ·refine U2 Z11k Z11l rfl rfl rfl (U1 rfl (mvs 0 1 rfl rfl (U5 rfl (nmk [4] rfl (U4 (Uk hC [_] rfl rfl ⟨rfl, trivial⟩ ?_))))))
  exact ⟨_, rfl, (S.pick [] [] (by decide) trivial), (by show Value.bool _ = Value.bool _; refine congrArg Value.bool ?_; unfold U3d; first | (refine decide_eq_decide.2 ?_; omega) | (symm; rw [decide_eq_false_iff_not]; omega))⟩
 ·refine Uf rfl (nmk [0, 1] rfl (U4 (U2 Z11m Z11n rfl rfl rfl (U1 rfl (wlo 0 1 rfl rfl rfl (U3g Int Bool (Value.int .i64) Value.bool rfl rfl rfl S ?_))))))
  intro gm1 w1 S1; clear S
  refine mvs 1 1 rfl rfl (U5 rfl (nmk [0, 1, 5] rfl (U4 (U2 Z11o Z11p rfl rfl rfl (U1 rfl (mvs 0 2 rfl rfl (U5 rfl (U4 ?_))))))))
  refine U2 Z11q Z11r rfl rfl rfl (U2 Z11s Z11t rfl rfl rfl (U1 rfl (mvs 0 1 rfl rfl (wlr 1 rfl (U1f rfl rfl rfl rfl rfl rfl uT141) (mvs 2 1 rfl rfl (U5 rfl (nmk [0, 5, 6, 7, 16, 17, 18] rfl (U4 ?_))))))))
  refine Uc Z11u 0 rfl rfl rfl ?_
  refine U11 (fun mx_ ax_ wx_ => ∃ (i : Nat) (ab : Nat) (be : Nat) (es : List (Int × Bool)), mx_ = f.length - i ∧ Env 55 [(0, .pointer (some ⟨ggb, 0, none⟩)), (5, .map (some gm1)), (6, .int .i64 (ab : Int)), (7, .int .i64 (be : Int)), (16, .slice fA f.length fc), (17, .int .i64 (f.length : Int)), (18, .int .i64 (i : Int))] ax_ ∧ SH wx_ M X [Rs.mp (Value.int .i64) Value.bool gm1 es] ∧ i ≤ f.length ∧ es = esN d f i ∧ ab = hcN d f 2 i ∧ be = hcN d f 0 i) rfl ?_ ?_
  ·intro ax_ hax_
   refine ⟨_, ⟨0, 0, 0, [], rfl, hax_.sub ⟨rfl, rfl, rfl, rfl, rfl, rfl, rfl, trivial⟩, S1.pick [0] [_] (by decide) ⟨rfl, trivial⟩, ?hq1f0, ?hq1f1, ?hq1f2, ?hq1f3⟩⟩
   case hq1f0 => omega
   case hq1f1 => rfl
   case hq1f2 => rfl
   case hq1f3 => rfl
  ·rintro m2 a1 w2 ⟨i, ab, be, es, rfl, he1, S2, hi, hes, hab2, hbe⟩
   clear S1
   refine U1u he1 (c := Z11v) rfl ?_
   clear he1 a1
   have hbd1 : ab ≤ i := by rw [hab2]; exact hcN_le _ _ _ _
   have hbd2 : be ≤ i := by rw [hbe]; exact hcN_le _ _ _ _
   refine U2 Z11w Z11x rfl rfl rfl (U1 rfl (wlr 0 rfl (U17 rfl rfl rfl) (U5 rfl (U4 (U2 Z11y Z11z rfl rfl rfl ?_)))))
   refine Ue Z120 Z121 rfl rfl rfl rfl (fun hb19 => ?_) (fun hb19 => ?_)
   ·refine Uf rfl (nmk [0, 5, 6, 7, 16, 17, 18] rfl (U4 (U2 Z122 Z123 rfl rfl rfl (Uc Z124 1 rfl rfl rfl (U2 Z125 Z126 rfl rfl rfl (U1 rfl (wlr 0 rfl (Uj (C := cdDa) i rfl rfl rfl sl141 (by first | rfl | omega) hf (by first | omega | (simp only [ls]; omega))) ?_)))))))
    refine wlr 1 rfl (U8 (us := [_, _]) rfl rfl uT26 rfl sz26 (hf.U1x S2.um (e := i) (by first | omega | (simp only [ls]; omega)) (j := 0) ⟨rfl, rfl, trivial⟩)) ?_
    refine wlo 2 3 rfl rfl rfl (Uh (l := [_, _]) rfl rfl rfl zr26 rfl S2 ?_)
    intro gb1 w3 S3; clear S2
    refine wlo 3 4 rfl rfl rfl (U7 (i := 0) (us := [_, _]) (l' := [_, _]) (H' := [_, _]) rfl rfl S3 rfl rfl rfl rfl sz26 rfl rfl rfl rfl ?_)
    intro w4 S4; clear S3
    refine U5 rfl (nmk [0, 5, 6, 7, 16, 17, 18, 9] rfl (U4 (U2 Z127 Z128 rfl rfl rfl ?_)))
    have ho : okD d (ga f i) := hok _ (U2m (by omega))
    have hpo : 1 ≤ (ga f i).a ∧ (ga f i).a ≤ 2 * (d.crs.length : Int) := ho
    have S5 := S4.pick [1, 0] [_, _] (by decide) ⟨rfl, rfl, trivial⟩; clear S4
    refine U29 [_] [_] rfl (by kernel_rfl) S5 9 rfl ?_
    clear S5
    change WA _ _ _ _ _ _ _ _ _ _ _ _ [_, _]
    refine wap 0 8 rfl (by kernel_rfl) (fun _ => run_move rfl rfl) ?_
    refine wap 1 7 rfl (by kernel_rfl) (fun _ => run_move rfl rfl) ?_
    refine wap 2 6 rfl (by kernel_rfl) (fun _ => U9 rfl rfl) ?_
    refine wap 3 5 rfl (by kernel_rfl) (fun _ => U0 rfl rfl uT67 rfl (ce64) (nf64)) ?_
    refine wat 4 4 rfl (by kernel_rfl) (fun _ _ _ hz Sz => .inl (U3 rfl rfl uT64 rfl ((hbb.mono (Hp.Ua hz Sz.mx)).cell Sz.um rfl))) ?_
    refine wat 5 3 rfl (by kernel_rfl) (fun _ _ _ hz Sz => .inl (U8 (us := [_, _]) rfl rfl uT26 rfl sz26 (Sz.suf.boxcs (i := 0) rfl ⟨rfl, rfl, trivial⟩))) ?_
    refine wat 6 2 rfl (by kernel_rfl) (fun _ _ _ hz Sz => Uq rfl rfl rfl rfl rfl cf125 Sz (Tail_q d (ga f i) ((hsb.mono (Hp.Ua hz Sz.mx)).mono Sz.Uw) ((hsc.mono (Hp.Ua hz Sz.mx)).mono Sz.Uw) ((hsi.mono (Hp.Ua hz Sz.mx)).mono Sz.Uw) ((hso.mono (Hp.Ua hz Sz.mx)).mono Sz.Uw) (by first | assumption | omega) hab (by first | assumption | omega) Sz.lend)) ?_
    refine wap 7 1 rfl (by kernel_rfl) (fun _ => U23 rfl rfl uT190 rfl uT3 rfl rfl) ?_
    refine Um (i := 8) 0 rfl (by kernel_rfl) rfl rfl (fun w14 S15 => ?_)
    refine (U1s (kc := Value.int .i64) (vc := Value.bool) (es := es) (k := ((Ud d (ga f i).a (!(ga f i).b)).1 : Int)) (e := true) (i := 0) (H' := [_, _]) (.inl rfl) rfl S15 rfl rfl rfl rfl uT180 mk3 rfl ?_)
    intro w15 S16; clear S15
    refine U10.grow [_] (Hp.le_refl _) S16 ?_; clear S16
    change WA _ _ _ _ _ _ _ _ _ _ _ _ [_, _]
    refine Uu (by kernel_rfl) (fun w16 S17 => ?_)
    refine nmk [0, 5, 6, 7, 16, 17, 18, 9] rfl (U4 (U2 Z129 Z12a rfl rfl rfl (U1 rfl (mvs 0 1 rfl rfl (wlr 1 rfl (U0 rfl rfl uT26 rfl (ce3) (nf3)) (wlr 2 rfl (U3 rfl rfl uT3 rfl (S17.boxc (i := 1) rfl rfl)) (wlo 3 4 rfl rfl rfl (U20 rfl rfl rfl rfl rfl rfl rfl cf126 S17 (over_q d ((ga f i).a) (hbb.mono S17.Uw) (hsb.mono S17.Uw) (hsc.mono S17.Uw) (hsi.mono S17.Uw) (hso.mono S17.Uw) hn hab (by first | assumption | omega) S17.lend) ?_))))))))
    rintro _ w17 S18 rfl; clear S17
    refine mvs 4 1 rfl rfl (wlr 5 rfl (Ul rfl rfl rfl) (wlr 6 rfl (Ul rfl rfl rfl) (mvs 7 2 rfl rfl (U5 rfl (nmk [0, 5, 6, 7, 16, 17, 18, 10, 11] rfl (U4 (U2 Z12b Z12c rfl rfl rfl (U2 Z12d Z12e rfl rfl rfl ?_))))))))
    refine U1 rfl (mvs 0 1 rfl rfl (U5 rfl (nmk [0, 5, 6, 7, 16, 17, 18, 11, 37] rfl (U4 ?_))))
    refine Ue Z12f Z12g rfl rfl rfl rfl (fun hb37 => ?_) (fun hb37 => ?_)
    ·refine U1 rfl (mvs 0 1 rfl rfl (wlr 1 rfl (Ug rfl rfl rfl (by first | omega | (simp only [ls]; omega))) ?_))
     refine mvs 2 1 rfl rfl (U5 rfl (nmk [0, 5, 6, 7, 16, 17, 18, 11] rfl (U4 (U2 Z12h Z12i rfl rfl rfl (U1 rfl (mvs 0 1 rfl rfl (U5 rfl (nmk [0, 5, 6, 7, 16, 17, 18, 40] rfl ?_))))))))
     refine U4 ?_
     refine Ue Z12j Z12k rfl rfl rfl rfl (fun hb40 => ?_) (fun hb40 => ?_)
     ·refine U1 rfl (mvs 0 1 rfl rfl (wlr 1 rfl (Ug rfl rfl rfl (by first | omega | (simp only [ls]; omega))) ?_))
      refine mvs 2 1 rfl rfl (U5 rfl (U12 (nmk [0, 5, 6, 7, 16, 17, 18] rfl (U4 (U1 rfl (wlr 0 rfl (Ug rfl rfl rfl (by first | omega | (simp only [ls]; omega))) ?_))))))
      refine mvs 1 1 rfl rfl (U5 rfl (U15 ?_))
      intro ax_ hax_
      refine ⟨_, ?hq2m, ⟨i + 1, ab + 1, be + 1, mp ((Ud d (ga f i).a (!(ga f i).b)).1 : Int) true es, rfl, hax_.sub ⟨rfl, rfl, rfl, rfl, rfl, rfl, rfl, trivial⟩, S18.pick [0] [_] (by decide) ⟨rfl, trivial⟩, ?hq2f0, ?hq2f1, ?hq2f2, ?hq2f3⟩⟩
      case hq2f0 => omega
      case hq2f1 => (rw [hes]; rfl)
      case hq2f2 => first | (rw [hcN_yes hb37, ← hab2]) | (rw [hcN_no hb37, ← hab2])
      case hq2f3 => first | (rw [hcN_yes hb40, ← hbe]) | (rw [hcN_no hb40, ← hbe])
      case hq2m => omega
     ·refine Uf rfl (U12 (nmk [0, 5, 6, 7, 16, 17, 18] rfl (U4 (U1 rfl (wlr 0 rfl (Ug rfl rfl rfl (by first | omega | (simp only [ls]; omega))) ?_)))))
      refine mvs 1 1 rfl rfl (U5 rfl (U15 ?_))
      intro ax_ hax_
      refine ⟨_, ?hq3m, ⟨i + 1, ab + 1, be, mp ((Ud d (ga f i).a (!(ga f i).b)).1 : Int) true es, rfl, hax_.sub ⟨rfl, rfl, rfl, rfl, rfl, rfl, rfl, trivial⟩, S18.pick [0] [_] (by decide) ⟨rfl, trivial⟩, ?hq3f0, ?hq3f1, ?hq3f2, ?hq3f3⟩⟩
      case hq3f0 => omega
      case hq3f1 => (rw [hes]; rfl)
      case hq3f2 => first | (rw [hcN_yes hb37, ← hab2]) | (rw [hcN_no hb37, ← hab2])
      case hq3f3 => first | (rw [hcN_yes hb40, ← hbe]) | (rw [hcN_no hb40, ← hbe])
      case hq3m => omega
    ·refine Uf rfl (nmk [0, 5, 6, 7, 16, 17, 18, 11] rfl (U4 (U2 Z12h Z12i rfl rfl rfl (U1 rfl (mvs 0 1 rfl rfl (U5 rfl (nmk [0, 5, 6, 7, 16, 17, 18, 40] rfl (U4 ?_))))))))
     refine Ue Z12j Z12k rfl rfl rfl rfl (fun hb40 => ?_) (fun hb40 => ?_)
     ·refine U1 rfl (mvs 0 1 rfl rfl (wlr 1 rfl (Ug rfl rfl rfl (by first | omega | (simp only [ls]; omega))) ?_))
      refine mvs 2 1 rfl rfl (U5 rfl (U12 (nmk [0, 5, 6, 7, 16, 17, 18] rfl (U4 (U1 rfl (wlr 0 rfl (Ug rfl rfl rfl (by first | omega | (simp only [ls]; omega))) ?_))))))
      refine mvs 1 1 rfl rfl (U5 rfl (U15 ?_))
      intro ax_ hax_
      refine ⟨_, ?hq4m, ⟨i + 1, ab, be + 1, mp ((Ud d (ga f i).a (!(ga f i).b)).1 : Int) true es, rfl, hax_.sub ⟨rfl, rfl, rfl, rfl, rfl, rfl, rfl, trivial⟩, S18.pick [0] [_] (by decide) ⟨rfl, trivial⟩, ?hq4f0, ?hq4f1, ?hq4f2, ?hq4f3⟩⟩
      case hq4f0 => omega
      case hq4f1 => (rw [hes]; rfl)
      case hq4f2 => first | (rw [hcN_yes hb37, ← hab2]) | (rw [hcN_no hb37, ← hab2])
      case hq4f3 => first | (rw [hcN_yes hb40, ← hbe]) | (rw [hcN_no hb40, ← hbe])
      case hq4m => omega
     ·refine Uf rfl (U12 (nmk [0, 5, 6, 7, 16, 17, 18] rfl (U4 (U1 rfl (wlr 0 rfl (Ug rfl rfl rfl (by first | omega | (simp only [ls]; omega))) ?_)))))
      refine mvs 1 1 rfl rfl (U5 rfl (U15 ?_))
      intro ax_ hax_
      refine ⟨_, ?hq5m, ⟨i + 1, ab, be, mp ((Ud d (ga f i).a (!(ga f i).b)).1 : Int) true es, rfl, hax_.sub ⟨rfl, rfl, rfl, rfl, rfl, rfl, rfl, trivial⟩, S18.pick [0] [_] (by decide) ⟨rfl, trivial⟩, ?hq5f0, ?hq5f1, ?hq5f2, ?hq5f3⟩⟩
      case hq5f0 => omega
      case hq5f1 => (rw [hes]; rfl)
      case hq5f2 => first | (rw [hcN_yes hb37, ← hab2]) | (rw [hcN_no hb37, ← hab2])
      case hq5f3 => first | (rw [hcN_yes hb40, ← hbe]) | (rw [hcN_no hb40, ← hbe])
      case hq5m => omega
   ·refine U16 rfl rfl (nmk [5, 6, 7] rfl (U4 (U2 Z12l Z12m rfl rfl rfl ?_)))
    obtain rfl : i = 3 := by omega
    have hel : es.length = (esN d f 3).length := by rw [hes]
    refine U1 rfl (mvs 0 1 rfl rfl (wlr 1 rfl (run_lenMap (i := 0) rfl rfl rfl rfl rfl rfl uT180 S2 rfl) (wlr 2 rfl (Uz rfl rfl rfl) (mvs 3 1 rfl rfl ?_))))
    refine Ut (t := 47) rfl (fun hg47 => ?_) (fun hg47 => ?_)
    ·refine mvs 4 1 rfl rfl (wlg 5 6 rfl rfl rfl rfl rfl rfl rfl rfl (Ub rfl rfl (Uz rfl rfl rfl) (mvs 6 2 rfl rfl ?_)))
     refine Ut (t := 51) rfl (fun hg51 => ?_) (fun hg51 => ?_)
     ·refine mvs 8 1 rfl rfl (wlg 9 10 rfl rfl rfl rfl rfl rfl rfl rfl (Ub rfl rfl (Uz rfl rfl rfl) (mvs 10 2 rfl rfl (U5 rfl (nmk [4] rfl (U4 (Uk hC [_] rfl rfl ⟨rfl, trivial⟩ ?_)))))))
      exact ⟨_, rfl, (S2.pick [] [] (by decide) trivial), (by show Value.bool _ = Value.bool _; refine congrArg Value.bool ?_; unfold U3d; first | (refine decide_eq_decide.2 ?_; omega) | (symm; rw [decide_eq_false_iff_not]; omega))⟩
     ·refine mvs 8 4 rfl rfl (U5 rfl (nmk [4] rfl (U4 (Uk hC [_] rfl rfl ⟨rfl, trivial⟩ ?_))))
      exact ⟨_, rfl, (S2.pick [] [] (by decide) trivial), (by show Value.bool _ = Value.bool _; refine congrArg Value.bool ?_; unfold U3d; first | (refine decide_eq_decide.2 ?_; omega) | (symm; rw [decide_eq_false_iff_not]; omega))⟩
    ·refine mvs 4 6 rfl rfl (mvs 10 2 rfl rfl (U5 rfl (nmk [4] rfl (U4 (Uk hC [_] rfl rfl ⟨rfl, trivial⟩ ?_)))))
     exact ⟨_, rfl, (S2.pick [] [] (by decide) trivial), (by show Value.bool _ = Value.bool _; refine congrArg Value.bool ?_; unfold U3d; first | (refine decide_eq_decide.2 ?_; omega) | (symm; rw [decide_eq_false_iff_not]; omega))⟩
noncomputable def Z12n:=Tryz.f128.body.getD .skip
def Z12o := cL Z12n
def Z12p := cR Z12n
def Z12q := cL Z12p
def Z12r := cR Z12p
set_option maxRecDepth 10000 in
theorem slide1_q {w : World} {M : Hp} {X : Fr} (x : Nat × Nat) (hx : x.2 < 4) (S : SH w M X []) : Cq Tryz.prog 128 [.agg [.int .i64 (x.1 : Int), .int .i64 (x.2 : Int)].toArray] w M X (fun u => u = .agg [.int .i64 ((oppP x).1 : Int), .int .i64 ((oppP x).2 : Int)].toArray) := by
 unfold Cq
 refine Uo (b := Z12n) Tryz.func128 rfl Tryz.ntmps128 rfl (fun C hC => (U14 [(0, _)] ⟨rfl, trivial⟩ (U2 Z12o Z12p rfl rfl rfl (U1 rfl (wlo 0 1 rfl rfl rfl (U18 (l := [_, _]) rfl rfl rfl rfl rfl S ?_))))))
 intro gb1 w1 S1; clear S
 refine wlo 1 2 rfl rfl rfl (Uh (l := [_, _]) rfl rfl rfl zr190 rfl S1 ?_)
 intro gb2 w2 S2; clear S1
 refine U5 rfl (nmk [1, 2] rfl (U4 (U2 Z12q Z12r rfl rfl rfl (U1 rfl (wlr 0 rfl (U0 rfl rfl uT190 rfl (ce3) (nf3)) (wlr 1 rfl (U3 rfl rfl uT3 rfl (S2.boxc (i := 1) rfl rfl)) (wlr 2 rfl (U0 rfl rfl uT190 rfl (ce3) (nf3)) (wlr 3 rfl (U3 rfl rfl uT3 rfl (S2.boxc (i := 1) rfl rfl)) ?_))))))))
 refine wlr 4 rfl (Ug rfl rfl rfl (by first | omega | (simp only [ls]; omega))) ?_
 refine wlr 5 rfl (U2i rfl rfl rfl (by first | omega | (simp only [ls]; omega))) ?_
 refine U1t 8 (.int .i64 (((x.2 + 2) % 4 : Nat) : Int)) rfl (int_eq (by omega)) ?_
 refine wlr 6 rfl (run_build (l := [_, _]) rfl rfl st190 rfl rfl) (wlo 7 8 rfl rfl rfl (U7 (i := 0) (us := [_, _]) (l' := [_, _]) (H' := [_, _]) rfl rfl S2 rfl rfl rfl rfl sz190 rfl rfl rfl rfl ?_))
 intro w3 S3; clear S2
 refine U5 rfl (nmk [2] rfl (U4 (Uk hC [_] rfl rfl ⟨⟨_, rfl, Up (us := [_, _]) uT190 rfl sz190 (S3.boxcs (i := 0) rfl ⟨rfl, rfl, trivial⟩)⟩, trivial⟩ ?_)))
 exact ⟨_, rfl, (S3.pick [] [] (by decide) trivial), (by rfl)⟩
end Go.Proofs.YthppkofceancjaaGreat
namespace Go.Proofs.YthppkofceancjaaGreat
open Go.ChangeShapes Go.WideShapes Go.ChangeAt Go.RowKit
section
variable {κ ε : Type} [DecidableEq κ]
theorem fk_mp (k : κ) (v : ε) : ∀ (es : List (κ × ε)) (i : Nat), fk k (mp k v es) i = some (((fk k es i).map (·.1)).getD (i + es.length), v)
  | [], i => by simp [mp, fk]
  | p :: r, i => by
    unfold mp
    by_cases h : k = p.1
    · rw [if_pos h]; simp [fk, h]
    · rw [if_neg h]
      simp only [fk, if_neg h, fk_mp k v r (i + 1), List.length_cons]
      rw [show i + 1 + r.length = i + (r.length + 1) by omega]
theorem fk_at {k : κ} : ∀ {es : List (κ × ε)} {j : Nat} {v : ε}, fk k es 0 = some (j, v) → es[j]? = some (k, v) := by
  have key : ∀ (es : List (κ × ε)) (i j : Nat) (v : ε), fk k es i = some (j, v) → ∃ m, j = i + m ∧ es[m]? = some (k, v) := by
    intro es
    induction es with
    | nil => intro i j v h; cases h
    | cons p r ih =>
      intro i j v h
      unfold fk at h
      split at h
      · rename_i he
        injection h with h
        injection h with h1 h2
        exact ⟨0, by omega, by subst he; subst h2; rfl⟩
      · obtain ⟨m, h1, h2⟩ := ih _ _ _ h
        exact ⟨m + 1, by omega, by simpa using h2⟩
  intro es j v h
  obtain ⟨m, h1, h2⟩ := key es 0 j v h
  obtain rfl : j = m := by omega
  exact h2
theorem mp_mp (k : κ) (v v' : ε) : ∀ es : List (κ × ε), mp k v (mp k v' es) = mp k v es
  | [] => by simp [mp]
  | p :: r => by
    by_cases h : k = p.1
    · simp [mp, h]
    · simp [mp, h, mp_mp k v v' r]
theorem born_idx {st : Nat} : ∀ {l : List MapEntry} {j : Nat}, (l.map (·.born)).Nodup → (l[j]?).map (·.born) = some st → l.findIdx? (fun e => ((e.born : Nat) : Int) == (st : Int)) = some j
  | [], _, _, h => by simp at h
  | e :: l, 0, _, h => by
    have h1 : e.born = st := by simpa using h
    rw [List.findIdx?_cons, if_pos (by simp [h1])]
  | e :: l, j + 1, hn, h => by
    obtain ⟨h1, h2⟩ := List.nodup_cons.1 (by simpa using hn : (e.born :: l.map (·.born)).Nodup)
    have h3 : (l[j]?).map (·.born) = some st := by simpa using h
    have hne : e.born ≠ st := fun e1 => h1 (by
      cases hl : l[j]? with
      | none => rw [hl] at h3; cases h3
      | some y =>
        rw [hl] at h3
        injection h3 with h3
        exact List.mem_map.2 ⟨y, List.mem_of_getElem? hl, (show y.born = e.born from by rw [e1]; exact h3)⟩)
    rw [List.findIdx?_cons, if_neg (by simpa using fun e1 => hne (by omega)), born_idx h2 h3]
    rfl
theorem set_same {α : Type} {l : List α} {j : Nat} {a : α} (h : l[j]? = some a) : l.set j a = l := by
  apply List.ext_getElem?
  intro q
  rw [List.getElem?_set]
  split
  · rename_i e
    subst e
    rw [h, if_pos (List.getElem?_eq_some_iff.1 h).1]
  · rfl
def MpS (kc : κ → Value) (vc : ε → Value) (g : Nat) (es : List (κ × ε)) (k : κ) (st : Nat) (h : Hp) : Prop :=
  ∃ arr clock, h g = some (.map arr clock) ∧ arr.toList.map (fun e => (e.key, e.val)) = es.map (fun p => (kc p.1, vc p.2)) ∧ Stm arr clock ∧ ∃ j v, fk k es 0 = some (j, v) ∧ (arr[j]?).map (·.born) = some st
def Rs.mpS (kc : κ → Value) (vc : ε → Value) (g : Nat) (es : List (κ × ε)) (k : κ) (st : Nat) : Rs :=
  ⟨[g], MpS kc vc g es k st, fun h h' hb hk => by
    obtain ⟨arr, clock, h1, h2⟩ := hk
    exact ⟨arr, clock, by rw [hb g (by simp)]; exact h1, h2⟩⟩
end
section
variable {P : Program} {o : Oper} {L : List (Nat × Value)} {w w' : World} {x y z : Operand} {t T K E : TypeId} {v u : Value} {n d g i : Nat} {Kt : List (Nat × Value) → World → Prop} {M M' : Hp} {X : Fr} {H H' : List Rs}
variable {κ ε : Type} [DecidableEq κ] {kc : κ → Value} {vc : ε → Value} {es : List (κ × ε)}
theorem wo_mapEntry {k : κ} {zv : ε} (hop : o.op = .mapEntry T x y) (hd : o.dst = some d) (hn : Nat.blt d n = true) (S : SH w M X H) (hi : nth H i = some (Rs.mp kc vc g es)) (hx : oev L x = some (.map (some g))) (hy : oev L y = some (kc k)) (hu : P.underlying T = some (.map K E)) (hK : MapK P K kc) (hz : (P.info? E).map (·.zero) = some (some (vc zv)))
    (h : ∀ (st : Nat) w', SH w' M X (H.set i (Rs.mpS kc vc g (Go.Proofs.YthppkofceancjaaGreat.mp k ((mg k es).getD zv) es) k st)) → Kt ((d, .tuple #[vc ((mg k es).getD zv), .int .i64 (st : Int)]) :: L) w') : WO P n o L w Kt := by
  obtain ⟨arr, clock, hg, ha, hstm⟩ := (S.get hi : MpOk kc vc g es (hp w))
  have hf := hK.find k _ arr.toList w (map_pairs ha)
  rw [fk_map] at hf
  have hg' : w.heap[g]? = some (.map arr clock) := hg
  have hgo := MapKept.run_getObj_map (P := P) hg'
  have hc := fun b => hK.check k w b
  have hlen : arr.toList.length = es.length := by have := congrArg List.length ha; simpa using this
  have key : ∃ arr' clock' st, (Instr.mapEntry T (.map (some g)) (kc k)).run P w = .ok (.tuple #[vc ((mg k es).getD zv), .int .i64 ((st : Nat) : Int)]) { w with heap := w.heap.setIfInBounds g (.map arr' clock') } ∧ arr'.toList.map (fun e => (e.key, e.val)) = (Go.Proofs.YthppkofceancjaaGreat.mp k ((mg k es).getD zv) es).map (fun p => (kc p.1, vc p.2)) ∧ Stm arr' clock' ∧ ∃ j v, fk k (Go.Proofs.YthppkofceancjaaGreat.mp k ((mg k es).getD zv) es) 0 = some (j, v) ∧ (arr'[j]?).map (·.born) = some st := by
    cases hfk : fk k es 0 with
    | none =>
      rw [hfk] at hf
      have hm := (fk_none hfk).1
      rw [hm, Option.getD_none]
      refine ⟨arr.push { key := kc k, val := vc zv, born := clock }, clock + 1, clock, ?_, ?_, ?_, ?_⟩
      · simp only [Instr.mapEntry, Sem.run_bind, run_underlying hu, hgo, hc, hf, Result.andThen_ok, Option.map_none, run_zero hz, MapKept.run_setObj_map _ hg', Sem.run_pure]
        rfl
      · rw [(fk_none hfk).2 zv, Array.toList_push, List.map_append, List.map_append, ha]; rfl
      · refine ⟨?_, fun x hx => ?_⟩
        · rw [Array.toList_push, List.map_append]
          refine List.nodup_append.2 ⟨hstm.1, by simp, fun a ha' b hb' => ?_⟩
          obtain ⟨x, hx, rfl⟩ := List.mem_map.1 ha'
          simp at hb'
          have := hstm.2 x hx
          omega
        · rw [Array.toList_push] at hx
          rcases List.mem_append.1 hx with h1 | h1
          · have := hstm.2 x h1; omega
          · simp at h1; subst h1; exact Nat.lt_succ_self _
      · refine ⟨_, _, fk_mp k zv es 0, ?_⟩
        rw [hfk]
        show ((arr.push _)[0 + es.length]?).map _ = _
        rw [Nat.zero_add, ← hlen, Array.length_toList, Array.getElem?_push_size]
        rfl
    | some q =>
      obtain ⟨j, v⟩ := q
      rw [hfk] at hf
      obtain ⟨hm, m, hj, p, hp1, hp2, hset⟩ := fk_some hfk
      obtain rfl : j = m := by omega
      have hjl : j < es.length := (List.getElem?_eq_some_iff.1 hp1).1
      have hja : j < arr.size := by rw [← Array.length_toList, hlen]; exact hjl
      have hkv : (arr[j]?).map (fun e => (e.key, e.val)) = some (kc p.1, vc p.2) := by
        have h1 := congrArg (fun l => l[j]?) ha
        simp only [List.getElem?_map, hp1, Option.map_some] at h1
        rw [Array.getElem?_toList] at h1
        exact h1
      rw [Array.getElem?_eq_getElem hja, Option.map_some, Option.some.injEq, Prod.mk.injEq] at hkv
      rw [hp2] at hkv
      have hp3 := fk_at hfk
      have hv : p.2 = v := by rw [hp1] at hp3; simp at hp3; rw [hp3]
      have hmodk : (arr.modify j fun e' => { e' with key := kc k }) = arr := by
        apply Array.ext'
        apply List.ext_getElem?
        intro q
        rw [Array.getElem?_toList, Array.getElem?_modify, Array.getElem?_toList]
        by_cases hq : j = q
        · subst hq
          rw [if_pos rfl, Array.getElem?_eq_getElem hja, Option.map_some, ← hkv.1]
        · rw [if_neg hq]
      rw [hm, Option.getD_some]
      refine ⟨arr, clock, arr[j].born, ?_, ?_, hstm, j, v, ?_, by rw [Array.getElem?_eq_getElem hja]; rfl⟩
      · have hst : (Instr.keyThatStays (kc k) (kc k)).run P w = .ok (kc k) w := by
          unfold Instr.keyThatStays
          rw [if_pos (hK.bits k)]; rfl
        have hkey : (arr[j]?).map (·.key) = some (kc k) := by rw [Array.getElem?_eq_getElem hja, Option.map_some, hkv.1]
        simp only [Instr.mapEntry, Sem.run_bind, run_underlying hu, hgo, hc, hf, Result.andThen_ok, Option.map_some, hkey, Option.getD_some, hst, MapKept.run_setObj_map _ hg', hmodk, Sem.run_pure]
        rw [Array.getElem?_eq_getElem hja]
        rfl
      · rw [hset v, ha]
        have h4 : es.set j (k, v) = es := by
          rw [← hp2, ← hv]
          exact set_same hp1
        rw [h4]
      · have h5 := fk_mp k v es 0
        rw [hfk] at h5
        exact h5
  obtain ⟨arr', clock', st, hrun, hpairs, hstm', hst'⟩ := key
  have hlt := U3f hg
  refine Ub (v := .tuple #[vc ((mg k es).getD zv), .int .i64 ((st : Nat) : Int)]) (w' := { w with heap := w.heap.setIfInBounds g (.map arr' clock') }) hd hn ?_ (h st _ ?_)
  · intro n c he
    unfold execOp
    simp only [hop, he.eval hx, he.eval hy, hrun, Sem.run_bind, Result.andThen_ok, Sem.run_pure]
  · refine S.step hi rfl (like_setB w g _) (fun b _ hb => ?_) ⟨arr', clock', ?_, hpairs, hstm', hst'⟩ (fun b hb => ⟨.inl hb, ?_⟩)
    · have hne : b ≠ g := by simpa [Rs.mp] using hb
      show (w.heap.setIfInBounds g _)[b]? = w.heap[b]?
      rw [Array.getElem?_setIfInBounds_ne (Ne.symm hne)]
    · show (w.heap.setIfInBounds g _)[g]? = _
      simp [hlt]
    · simp [Rs.mpS] at hb
      subst hb
      show _ < (w.heap.setIfInBounds _ _).size
      simpa using hlt
theorem wo_entryStore {k : κ} {e : ε} {st : Nat} (hop : o.op = .entryStore T x y z) (hd : o.dst = none) (S : SH w M X H) (hi : nth H i = some (Rs.mpS kc vc g es k st)) (hx : oev L x = some (.map (some g))) (hy : oev L y = some (.int .i64 (st : Int))) (hz : oev L z = some (vc e))
    (hH : H.set i (Rs.mp kc vc g (Go.Proofs.YthppkofceancjaaGreat.mp k e es)) = H') (h : ∀ w', SH w' M X H' → Kt L w') : WO P n o L w Kt := by
  obtain ⟨arr, clock, hg, ha, hstm, j, v, hfk, hb⟩ := (S.get hi : MpS kc vc g es k st (hp w))
  have hg' : w.heap[g]? = some (.map arr clock) := hg
  have hgo := MapKept.run_getObj_map (P := P) hg'
  have hlen : arr.toList.length = es.length := by have := congrArg List.length ha; simpa using this
  obtain ⟨hm, m, hj, p, hp1, hp2, hset⟩ := fk_some hfk
  obtain rfl : j = m := by omega
  have hjl : j < es.length := (List.getElem?_eq_some_iff.1 hp1).1
  have hja : j < arr.size := by rw [← Array.length_toList, hlen]; exact hjl
  have hkey : arr[j].key = kc k := by
    have h1 := congrArg (fun l => l[j]?) ha
    simp only [List.getElem?_map, hp1, Option.map_some] at h1
    rw [Array.getElem?_toList, Array.getElem?_eq_getElem hja] at h1
    simp only [Option.map_some, Option.some.injEq, Prod.mk.injEq] at h1
    rw [h1.1, hp2]
  rw [Array.getElem?_eq_getElem hja, Option.map_some, Option.some.injEq] at hb
  have hidx : arr.findIdx? (fun e => ((e.born : Nat) : Int) == (st : Int)) = some j := by
    obtain ⟨la⟩ := arr
    rw [show (Array.mk la).findIdx? (fun e => ((e.born : Nat) : Int) == (st : Int)) = la.findIdx? (fun e => ((e.born : Nat) : Int) == (st : Int)) from by simp]
    exact born_idx hstm.1 (by rw [Array.getElem?_toList, Array.getElem?_eq_getElem hja, Option.map_some, hb])
  have hrun : (Instr.entryStore T (.map (some g)) (.int .i64 (st : Int)) (vc e)).run P w = .ok () { w with heap := w.heap.setIfInBounds g (.map (arr.modify j fun e' => { e' with val := vc e }) clock) } := by
    simp [Instr.entryStore, hgo, asInt, asIntOf, hidx, MapKept.run_setObj_map _ hg', Result.andThen]
  have hlt := U3f hg
  refine wo_runS hd (w' := { w with heap := w.heap.setIfInBounds g (.map (arr.modify j fun e' => { e' with val := vc e }) clock) }) ?_ (h _ ?_)
  · intro n c he
    unfold execOp
    simp only [hop, he.eval hx, he.eval hy, he.eval hz, hrun, Sem.run_bind, Result.andThen_ok, Sem.run_pure]
  · refine S.step hi hH (like_setB w g _) (fun b _ hb => ?_) ⟨arr.modify j fun e' => { e' with val := vc e }, clock, ?_, ?_, ?_⟩ (fun b hb => ⟨.inl hb, ?_⟩)
    · have hne : b ≠ g := by simpa [Rs.mpS] using hb
      show (w.heap.setIfInBounds g _)[b]? = w.heap[b]?
      rw [Array.getElem?_setIfInBounds_ne (Ne.symm hne)]
    · show (w.heap.setIfInBounds g _)[g]? = _
      simp [hlt]
    · rw [hset e]
      apply List.ext_getElem?
      intro q
      have h1 := congrArg (fun l => l[q]?) ha
      simp only [List.getElem?_map] at h1 ⊢
      rw [Array.getElem?_toList, Array.getElem?_modify, List.getElem?_set]
      rw [Array.getElem?_toList] at h1
      by_cases hq : j = q
      · subst hq
        rw [if_pos rfl, if_pos rfl, if_pos hjl, Array.getElem?_eq_getElem hja]
        simp only [Option.map_some, hkey]
      · rw [if_neg hq, if_neg hq]
        exact h1
    · have hbn : (arr.modify j fun e' => { e' with val := vc e }).toList.map (·.born) = arr.toList.map (·.born) := by
        apply List.ext_getElem?
        intro q
        simp only [List.getElem?_map]
        rw [Array.getElem?_toList, Array.getElem?_modify, Array.getElem?_toList]
        by_cases hq : j = q
        · subst hq; rw [if_pos rfl, Array.getElem?_eq_getElem hja]; rfl
        · rw [if_neg hq]
      refine ⟨by rw [hbn]; exact hstm.1, fun x hx => ?_⟩
      have h2 : x.born ∈ arr.toList.map (·.born) := by rw [← hbn]; exact List.mem_map.2 ⟨x, hx, rfl⟩
      obtain ⟨y, hy, e2⟩ := List.mem_map.1 h2
      rw [← e2]; exact hstm.2 y hy
    · simp [Rs.mp] at hb
      subst hb
      show _ < (w.heap.setIfInBounds _ _).size
      simpa using hlt
end
section
variable {P : Program} {ops : Array Oper} {Q : Exit → Act → World → Prop} {md : Region.Mode} {X : Fr}
end
section
variable {P : Program} {n : Nat} {C : Ctx} {c : Code} {s : List K} {L : List (Nat × Value)} {w : World} {Mb M : Hp} {X : Fr} {Hb H : List Rs} {l : Array Bool} {f : Nat}
end
section
variable {P : Program} {n : Nat} {C : Ctx} {c : Code} {s : List K} {L : List (Nat × Value)} {w : World} {M : Hp} {X : Fr} {H : List Rs}
end
end Go.Proofs.YthppkofceancjaaGreat
