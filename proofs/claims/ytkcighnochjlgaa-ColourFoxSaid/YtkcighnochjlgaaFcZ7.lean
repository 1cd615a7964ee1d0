/- Part 7 of the proof of the law ColourFox: the walks through its functions and the plain laws that they need. -/
import Derived.Test.YtkcighnochjlgaaFcZ6
import Derived.Lib.SmallJoins
import Derived.Deep.Slices
import Derived.Deep.Fields
import Derived.ChangeSame
set_option linter.unusedSimpArgs false
set_option linter.unusedVariables false
noncomputable section
namespace Go.Proofs.Ytkcighnochjlgaa
open Go.ChangeShapes Go.WideShapes Go.ChangeAt Go.RowKit
def U12 (d : Dg) : List Int := (List.range (2 * d.crs.length)).map fun q => ovA d (q + 1)
noncomputable def Z31 := Try.f79.body.getD .skip
set_option maxHeartbeats 1000000 in
set_option maxRecDepth 10000 in
theorem OversOf_t {w : World} {M : Hp} {X : Fr} (d : Dg) {dcrsA : Option Addr} {dcrsc : Nat} (hdcrs : RdA cdCr (M.un X.h) dcrsA dcrsc d.crs) (hn : d.crs.length ≤ 16) (hab : Ue d = true) (S : SH w M X []) : Ct Try.prog 79 [.agg [.slice dcrsA d.crs.length dcrsc, .int .i64 d.loops].toArray] w M X (fun u N => ∃ A c, u = .slice A (U12 d).length c ∧ RdA U2 N A c (U12 d)) := by
 unfold Ct
 have rmhdcrs : d.crs.length * 40 ≤ 140737488355328 := hdcrs.room
 refine U7 (b := Z31) Try.func79 rfl Try.ntmps79 rfl (fun C hC => (zzwsk [0] rfl (zzsR (zzwU rfl (Uv (l := [_, _]) rfl rfl rfl rfl rfl S ?_)))))
 intro gb1 w1 S1; clear S
 refine zzmv 1 rfl (zzeR [1] rfl (zzwr rfl (zzfa rfl uT51 rfl ce49 nf49) (zzwr rfl (zzld1 rfl uT49 (S1.bc 0 rfl rfl)) (zzwr rfl (zzln rfl uT49) (zzwr rfl (run_mul rfl rfl rfl (by first | omega | (simp only [ls]; omega))) ?_)))))
 refine zzmv 1 rfl (zzeR [1, 3] rfl (zzmv 1 rfl (zzwr rfl (U1 rfl) (zzwU rfl (U1y (C := U2) ((2 * (d.crs.length : Int)).toNat + 1) rfl rfl rfl rfl rfl sl36 (by first | rfl | omega) (by show _ * 8 ≤ _; first | omega | (simp only [ls]; omega)) S1 ?_)))))
 intro vr1 w2 S2; clear S1
 refine zzmv 1 rfl (zzeS [1, 3, 4] rfl (zzsR (zzmv 1 rfl (zzeE (U6 (zzbK ?_))))))
 refine U4 (fun mx_ ax_ wx_ => ∃ (i : Nat) (ws : List Int) (vrw : Value), mx_ = 2 * d.crs.length + 1 - i ∧ Env 85 [(1, .pointer (some ⟨gb1, 0, none⟩)), (3, .int .i64 (2 * (d.crs.length : Int))), (4, vrw), (5, .int .i64 (i : Int))] ax_ ∧ SH wx_ M X [Rs.row U2 vrw ws, Rs.box gb1 51 [.slice dcrsA d.crs.length dcrsc, .int .i64 d.loops]] ∧ i ≤ 2 * d.crs.length + 1 ∧ ws = iniW (2 * d.crs.length + 1) i) rfl ?_ ?_
 ·intro ax_ hax_
  refine ⟨_, ⟨0, _, _, rfl, hax_.su rfl, S2.pick [0, 1] [_, _] (by decide) ⟨rfl, rfl, trivial⟩, ?hq1f0, ?hq1f1⟩⟩
  case hq1f0 => omega
  case hq1f1 => rfl
 ·rintro m1 a1 w3 ⟨i, ws, vrw, rfl, he1, S3, hi, hw⟩
  clear S2
  refine zziN he1 ?_
  clear he1 a1
  have hwl : ws.length = 2 * d.crs.length + 1 := by rw [hw, U23]
  refine zzsS (zzsR (zzmv 3 rfl (zzeT [1, 3, 4, 5, 21] rfl ?_)))
  refine zzcD rfl (fun hb21 => ?_) (fun hb21 => ?_)
  ·refine zzsK (zznS [1, 3, 4, 5] rfl (zzbK (zzrG (zzmv 3 rfl (zzwr rfl (Uc (i := 0) i rfl sl36 S3 rfl) (zzwU rfl (Ub (C := U2) (i := 0) (e := i) (j := 0) (us := [_]) (H' := [_, _]) (i : Int) rfl rfl S3 rfl (by first | omega | (simp only [ls]; omega)) rfl rfl rfl sz3 rfl rfl rfl rfl ?_)))))))
   intro w4 S4; clear S3
   refine zzeE (U8 (zznT [1, 3, 4, 5] rfl (zzrG (zzmv 1 rfl (zzwr rfl (U1 rfl) (zzmv 1 rfl (zzeE (Uf ?_))))))))
   intro ax_ hax_
   refine ⟨_, ?hq2m, ⟨i + 1, _, _, rfl, hax_.su rfl, S4.pick [0, 1] [_, _] (by decide) ⟨rfl, rfl, trivial⟩, ?hq2f0, ?hq2f1⟩⟩
   case hq2f0 => omega
   case hq2f1 => (rw [hw]; rfl)
   case hq2m => omega
  ·refine zzxE rfl (zznS [1, 3, 4] rfl (zzsR (zzmv 1 rfl (zzeE (U6 (zzbK ?_))))))
   refine U4 (fun mx_ ax_ wx_ => ∃ (j : Nat) (ws2 : List Int) (vrw2 : Value), mx_ = 2 * d.crs.length + 1 - j ∧ Env 85 [(1, .pointer (some ⟨gb1, 0, none⟩)), (3, .int .i64 (2 * (d.crs.length : Int))), (4, vrw2), (6, .int .i64 (j : Int))] ax_ ∧ SH wx_ M X [Rs.row U2 vrw2 ws2, Rs.box gb1 51 [.slice dcrsA d.crs.length dcrsc, .int .i64 d.loops]] ∧ j ≤ 2 * d.crs.length + 1 ∧ ws2 = ovRd d j) rfl ?_ ?_
   ·intro ax_ hax_
    refine ⟨_, ⟨0, _, _, rfl, hax_.su rfl, S3.pick [0, 1] [_, _] (by decide) ⟨rfl, rfl, trivial⟩, ?hq3f0, ?hq3f1⟩⟩
    case hq3f0 => omega
    case hq3f1 => (obtain rfl : i = 2 * d.crs.length + 1 := (by omega); exact hw)
   ·rintro m2 a2 w5 ⟨j, ws2, vrw2, rfl, he2, S5, hj, hw2⟩
    clear S3
    refine zziN he2 ?_
    clear he2 a2
    have hl2 : ws2.length = 2 * d.crs.length + 1 := by rw [hw2, ovRd_len]
    refine zzsS (zzsR (zzmv 3 rfl (zzeT [1, 3, 4, 6, 30] rfl ?_)))
    refine zzcD rfl (fun hb30 => ?_) (fun hb30 => ?_)
    ·refine zzsK (zznS [1, 3, 4, 6] rfl (zzbK (zzsR (zzmv 1 rfl (zzeE (U6 (zzbK ?_)))))))
     refine U4 (fun mx_ ax_ wx_ => ∃ (k : Nat) (ws3 : List Int) (vrw3 : Value), mx_ = d.crs.length - k ∧ Env 85 [(1, .pointer (some ⟨gb1, 0, none⟩)), (3, .int .i64 (2 * (d.crs.length : Int))), (4, vrw3), (6, .int .i64 (j : Int)), (7, .int .i64 (k : Int))] ax_ ∧ SH wx_ M X [Rs.row U2 vrw3 ws3, Rs.box gb1 51 [.slice dcrsA d.crs.length dcrsc, .int .i64 d.loops]] ∧ k ≤ d.crs.length ∧ ws3 = roundG (eB d) (eD d) ws2 k) rfl ?_ ?_
     ·intro ax_ hax_
      refine ⟨_, ⟨0, _, _, rfl, hax_.su rfl, S5.pick [0, 1] [_, _] (by decide) ⟨rfl, rfl, trivial⟩, ?hq4f0, ?hq4f1⟩⟩
      case hq4f0 => omega
      case hq4f1 => rfl
     ·rintro m3 a3 w6 ⟨k, ws3, vrw3, rfl, he3, S6, hk, hw3⟩
      clear S5
      refine zziN he3 ?_
      clear he3 a3
      have hl3 : ws3.length = 2 * d.crs.length + 1 := by rw [hw3, roundG_len, hl2]
      have hebd := fun h => cls_bd hab (k := k) h
      refine zzsS (zzsR (zzmv 1 rfl (zzwr rfl (zzfa rfl uT51 rfl ce49 nf49) (zzwr rfl (zzld1 rfl uT49 (S6.bc 1 rfl rfl)) (zzwr rfl (zzln rfl uT49) (zzmv 1 rfl (zzeT [1, 3, 4, 6, 7, 37] rfl ?_)))))))
      refine zzcD rfl (fun hb37 => ?_) (fun hb37 => ?_)
      ·obtain ⟨⟨b1, b2⟩, ⟨b3, b4⟩⟩ := hebd (by omega)
       unfold eB at b1 b2
       unfold eD at b3 b4
       refine zzsK (zznS [1, 3, 4, 6, 7] rfl (zzbK (zzdW S6 14 ?_)))
       clear S6
       refine zzmW 13 [0] rfl (zzpW 1 rfl (zzfa rfl uT51 rfl ce49 nf49) (zzlW 2 rfl (fun hZz Sz => zzld1 rfl uT49 (Sz.suf.bc 1 rfl rfl)) (zzmW 10 [3] rfl (zzlW 4 rfl (fun hZz Sz => Ux k rfl sl49 (hdcrs.mono (Hp.U0 hZz Sz.mx))) (zzpW 5 rfl (zzfa rfl uT111 rfl ce3 nf3) (zzlW 6 rfl (fun hZz Sz => zzld1 rfl uT3 ((hdcrs.mono (Hp.U0 hZz Sz.mx)).cell Sz.um (i := k) (by first | omega | (simp only [ls]; omega)) 1 rfl rfl)) ?_))))))
       refine zzpW 7 rfl (zzfa rfl uT51 rfl ce49 nf49) (zzlW 8 rfl (fun hZz Sz => zzld1 rfl uT49 (Sz.suf.bc 1 rfl rfl)) (zzmW 4 [9] rfl (zzlW 10 rfl (fun hZz Sz => Ux k rfl sl49 (hdcrs.mono (Hp.U0 hZz Sz.mx))) (zzpW 11 rfl (zzfa rfl uT111 rfl ce3 nf3) (zzlW 12 rfl (fun hZz Sz => zzld1 rfl uT3 ((hdcrs.mono (Hp.U0 hZz Sz.mx)).cell Sz.um (i := k) (by first | omega | (simp only [ls]; omega)) 3 rfl rfl)) ?_)))))
       refine zzuW 13 rfl (fun w21 S21 => ((wo_c1 rfl rfl rfl rfl rfl rfl rfl cf91 S21 (i := 0) rfl (level_w vrw3 _ ((ga d.crs k).b) ((ga d.crs k).d) (by omega) (by omega) (S21.lend1 (i := 0) rfl)) ?_)))
       rintro vw22 w22 _ _ - S22 ⟨rfl, rfl, rfl⟩; clear S21
       change SH _ _ _ [_, _] at S22
       refine zzturnW S22 ?_; clear S22
       change WA _ _ _ _ _ _ _ _ _ _ _ _ [_, _]
       refine zzeW (fun w23 S23 => (U8 (zznT [1, 3, 4, 6, 7] rfl (zzrG (zzmv 1 rfl (zzwr rfl (U1 rfl) (zzmv 1 rfl (zzeE (Uf ?_)))))))))
       intro ax_ hax_
       refine ⟨_, ?hq5m, ⟨k + 1, _, _, rfl, hax_.su rfl, S23.pick [0, 1] [_, _] (by decide) ⟨rfl, rfl, trivial⟩, ?hq5f0, ?hq5f1⟩⟩
       case hq5f0 => omega
       case hq5f1 => (rw [hw3]; rfl)
       case hq5m => omega
      ·refine zzxE rfl (U8 (zznT [1, 3, 4, 6] rfl (zzrG (zzmv 1 rfl (zzwr rfl (U1 rfl) (zzmv 1 rfl (zzeE (Uf ?_))))))))
       intro ax_ hax_
       refine ⟨_, ?hq6m, ⟨j + 1, _, _, rfl, hax_.su rfl, S6.pick [0, 1] [_, _] (by decide) ⟨rfl, rfl, trivial⟩, ?hq6f0, ?hq6f1⟩⟩
       case hq6f0 => omega
       case hq6f1 => (obtain rfl : k = d.crs.length := (by omega); rw [hw3, hw2]; rfl)
       case hq6m => omega
    ·refine zzxE rfl (zznS [3, 4] rfl ?_)
     obtain rfl : j = 2 * d.crs.length + 1 := by omega
     have hcL : ws2 = clsL d := by rw [hw2, over_law hab]
     have hok : ∀ x, x < 2 * d.crs.length + 1 → 0 ≤ ga ws2 x ∧ ga ws2 x ≤ x ∧ ga ws2 (ga ws2 x).toNat = ga ws2 x := by rw [hcL]; exact (clsN_ok hab _ (Nat.le_refl _)).2
     refine zzrG (zzmv 1 rfl (zzeE (zztR (zzmv 1 rfl (zzeE (zztS (ws_eq 9 (.int .i64 (rk d (0 + 1))) rfl (int_eq (rk_one d).symm) (zzrG ?_))))))))
     refine zzmv 1 rfl (zzwr rfl (U1 rfl) (zzwU rfl (U1y (C := U2) ((2 * (d.crs.length : Int)).toNat + 1) rfl rfl rfl rfl rfl sl36 (by first | rfl | omega) (by show _ * 8 ≤ _; first | omega | (simp only [ls]; omega)) S5 ?_)))
     intro vr2 w24 S24; clear S5
     refine zzmv 1 rfl (zzeS [3, 4, 8, 9, 10] rfl (zzsR (zzmv 1 rfl (zzeE (U6 (zzbK ?_))))))
     have S25 := S24.nilrow U2; clear S24
     refine U4 (fun mx_ ax_ wx_ => ∃ (a : Nat) (acc : List Int) (nb : List Int) (vra : Value) (vrn : Value), mx_ = 2 * d.crs.length - a ∧ Env 85 [(3, .int .i64 (2 * (d.crs.length : Int))), (4, vrw2), (8, vra), (9, .int .i64 (rk d (a + 1))), (10, vrn), (11, .int .i64 ((a + 1 : Nat) : Int))] ax_ ∧ SH wx_ M X [Rs.row U2 vra acc, Rs.row U2 vrn nb, Rs.row U2 vrw2 ws2] ∧ a ≤ 2 * d.crs.length ∧ nb.length = 2 * d.crs.length + 1 ∧ acc = (List.range a).map (fun q => ovA d (q + 1)) ∧ (∀ x, x < a + 1 → ga (clsL d) x = (x : Int) → ga nb x = rk d x)) rfl ?_ ?_
     ·intro ax_ hax_
      refine ⟨_, ⟨0, _, _, _, _, rfl, hax_.su rfl, S25.pick [0, 1, 2] [_, _, _] (by decide) ⟨rfl, rfl, rfl, trivial⟩, ?hq7f0, ?hq7f1, ?hq7f2, ?hq7f3⟩⟩
      case hq7f0 => omega
      case hq7f1 => (rw [List.length_replicate]; omega)
      case hq7f2 => rfl
      case hq7f3 => (intro x hx _; obtain rfl : x = 0 := (by omega); rw [U24 _ _ _ (by omega)]; rfl)
     ·rintro m4 a4 w25 ⟨a, acc, nb, vra, vrn, rfl, he4, S26, ha, hnl, hac, hnb⟩
      clear S25
      refine zziN he4 ?_
      clear he4 a4
      have hal : acc.length = a := by rw [hac]; simp
      refine zzsS (zzsR (zzmv 3 rfl (zzeT [3, 4, 8, 9, 10, 11, 59] rfl ?_)))
      refine zzcD rfl (fun hb59 => ?_) (fun hb59 => ?_)
      ·obtain ⟨o1, o2, o3⟩ := hok (a + 1) (by omega)
       have hrk := rk_bd d (a + 1)
       refine zzsK (zznS [3, 4, 8, 9, 10, 11] rfl (zzbK (zzsS (zzsR (zzmv 2 rfl (zzwr rfl (Uc (i := 2) (a + 1) rfl sl36 S26 rfl) (zzwr rfl (zzld1 rfl uT3 (S26.rowc (i := 2) (e := a + 1) (j := 0) rfl (by first | omega | (simp only [ls]; omega)) rfl rfl)) ?_)))))))
       refine zzmv 2 rfl (zzeT [3, 4, 8, 9, 10, 11, 67] rfl ?_)
       refine zzcD rfl (fun hb67 => ?_) (fun hb67 => ?_)
       ·refine zzsR (zzmv 3 rfl (zzwr rfl (Uc (i := 1) (a + 1) rfl sl36 S26 rfl) (zzwU rfl (Ub (C := U2) (i := 1) (e := a + 1) (j := 0) (us := [_]) (H' := [_, _, _]) (rk d (a + 1)) rfl rfl S26 rfl (by first | omega | (simp only [ls]; omega)) rfl rfl rfl sz3 rfl rfl rfl rfl ?_))))
        intro w26 S27; clear S26
        refine zzeT [3, 4, 8, 9, 10, 11] rfl (zzrG (zzmv 1 rfl (zzwr rfl (U1 rfl) (zzmv 1 rfl (zzeT [3, 4, 8, 9, 10, 11] rfl (zzrG (zzmv 4 rfl (zzwr rfl (Uc (i := 2) (a + 1) rfl sl36 S27 rfl) ?_))))))))
        refine zzwr rfl (zzld1 rfl uT3 (S27.rowc (i := 2) (e := a + 1) (j := 0) rfl (by first | omega | (simp only [ls]; omega)) rfl rfl)) ?_
        refine zzwr rfl (Uc (i := 1) ((ga ws2 (a + 1)).toNat) rfl sl36 S27 rfl) (zzwr rfl (zzld1 rfl uT3 (S27.rowc (i := 1) (e := (ga ws2 (a + 1)).toNat) (j := 0) rfl (by first | omega | (simp only [ls]; omega)) rfl rfl)) ?_)
        refine zzwU rfl (Uh (C := U2) (l := [_]) rfl rfl rfl rfl sl36 rfl rfl rfl rfl S27 ?_)
        intro gb2 w27 S28; clear S27
        refine zzwU rfl (Uy (C := U2) (i := 1) (q := 0) (ga (nb.set (a + 1) (rk d (a + 1))) ((ga ws2 (a + 1)).toNat)) rfl rfl rfl rfl rfl rfl rfl rfl sl36 S28 rfl rfl rfl (by show (_ + 1) * 8 ≤ _; first | omega | (simp only [ls]; omega)) ?_)
        intro vra1 w28 S29; clear S28
        have S30 := S29.pick [1, 2, 3] [_, _, _] (by decide) ⟨rfl, rfl, rfl, trivial⟩; clear S29
        refine zzmv 1 rfl (zzeE (U8 (zznT [3, 4, 8, 9, 10, 11] rfl (ws_eq 9 (.int .i64 (rk d (a + 1 + 1))) rfl (int_eq (by exact (rk_root (a := a + 1) (by omega) (by rw [← hcL]; exact hb67)).symm)) ?_))))
        refine zzrG (zzmv 1 rfl (zzwr rfl (U1 rfl) (zzmv 1 rfl (zzeE (Uf ?_)))))
        have hv : ga (nb.set (a + 1) (rk d (a + 1))) (ga ws2 (a + 1)).toNat = ovA d (a + 1) := by (have e9 : (ga ws2 (a + 1)).toNat = a + 1 := by omega); unfold ovA; rw [← hcL, e9, U3 _ _ _ _ (by omega), if_pos rfl]
        intro ax_ hax_
        refine ⟨_, ?hq8m, ⟨a + 1, _, _, _, _, rfl, hax_.su rfl, S30.pick [0, 1, 2] [_, _, _] (by decide) ⟨rfl, rfl, rfl, trivial⟩, ?hq8f0, ?hq8f1, ?hq8f2, ?hq8f3⟩⟩
        case hq8f0 => omega
        case hq8f1 => first | assumption | simpa using hnl
        case hq8f2 => (rw [hv, hac, List.range_succ, List.map_append]; rfl)
        case hq8f3 => first | (intro x hx hr; rw [U3 _ _ _ _ (by omega)]; split; (rename_i e9; rw [← e9]); exact hnb x (by omega) hr) | (intro x hx hr; exact hnb x (by rcases Nat.lt_or_ge x (a + 1) with h8 | h8; (· exact h8); (· obtain rfl : x = a + 1 := (by omega); rw [← hcL] at hr; exact absurd hr hb67)) hr)
        case hq8m => omega
       ·refine zzsK (zznT [3, 4, 8, 9, 10, 11] rfl (zzrG (zzmv 4 rfl (zzwr rfl (Uc (i := 2) (a + 1) rfl sl36 S26 rfl) (zzwr rfl (zzld1 rfl uT3 (S26.rowc (i := 2) (e := a + 1) (j := 0) rfl (by first | omega | (simp only [ls]; omega)) rfl rfl)) ?_)))))
        refine zzwr rfl (Uc (i := 1) ((ga ws2 (a + 1)).toNat) rfl sl36 S26 rfl) (zzwr rfl (zzld1 rfl uT3 (S26.rowc (i := 1) (e := (ga ws2 (a + 1)).toNat) (j := 0) rfl (by first | omega | (simp only [ls]; omega)) rfl rfl)) ?_)
        refine zzwU rfl (Uh (C := U2) (l := [_]) rfl rfl rfl rfl sl36 rfl rfl rfl rfl S26 ?_)
        intro gb3 w29 S31; clear S26
        refine zzwU rfl (Uy (C := U2) (i := 1) (q := 0) (ga nb ((ga ws2 (a + 1)).toNat)) rfl rfl rfl rfl rfl rfl rfl rfl sl36 S31 rfl rfl rfl (by show (_ + 1) * 8 ≤ _; first | omega | (simp only [ls]; omega)) ?_)
        intro vra2 w30 S32; clear S31
        have S33 := S32.pick [1, 2, 3] [_, _, _] (by decide) ⟨rfl, rfl, rfl, trivial⟩; clear S32
        refine zzmv 1 rfl (zzeE (U8 (zznT [3, 4, 8, 9, 10, 11] rfl (ws_eq 9 (.int .i64 (rk d (a + 1 + 1))) rfl (int_eq (by exact (rk_skip (a := a + 1) (by rw [← hcL]; exact hb67)).symm)) ?_))))
        refine zzrG (zzmv 1 rfl (zzwr rfl (U1 rfl) (zzmv 1 rfl (zzeE (Uf ?_)))))
        have hv : ga nb (ga ws2 (a + 1)).toNat = ovA d (a + 1) := by unfold ovA; rw [← hcL]; exact hnb _ (by omega) (by rw [← hcL, o3]; omega)
        intro ax_ hax_
        refine ⟨_, ?hq9m, ⟨a + 1, _, _, _, _, rfl, hax_.su rfl, S33.pick [0, 1, 2] [_, _, _] (by decide) ⟨rfl, rfl, rfl, trivial⟩, ?hq9f0, ?hq9f1, ?hq9f2, ?hq9f3⟩⟩
        case hq9f0 => omega
        case hq9f1 => first | assumption | simpa using hnl
        case hq9f2 => (rw [hv, hac, List.range_succ, List.map_append]; rfl)
        case hq9f3 => first | (intro x hx hr; rw [U3 _ _ _ _ (by omega)]; split; (rename_i e9; rw [← e9]); exact hnb x (by omega) hr) | (intro x hx hr; exact hnb x (by rcases Nat.lt_or_ge x (a + 1) with h8 | h8; (· exact h8); (· obtain rfl : x = a + 1 := (by omega); rw [← hcL] at hr; exact absurd hr hb67)) hr)
        case hq9m => omega
      ·refine zzxE rfl (zznR [8] rfl (zzmv 2 rfl (zzeT [2] rfl ?_)))
       obtain ⟨M15, hle19, S34, ⟨A1, c1, e1, hr1⟩⟩ := S26.pubrow (i := 0) (H' := [_, _, _]) rfl rfl (by show _ * 8 ≤ _; first | omega | (simp only [ls]; omega))
       clear S26; subst e1
       replace hdcrs := hdcrs.mono (Hp.U0 hle19 S34.mx)
       refine zzrT hC rfl ?_
       refine ⟨_, rfl, _, hle19, (S34.pick [] [] (by decide) trivial), ?_⟩
       obtain rfl : a = 2 * d.crs.length := by omega
       have e2 : U12 d = acc := hac.symm
       rw [e2]
       exact ⟨_, _, rfl, hr1⟩
end Go.Proofs.Ytkcighnochjlgaa
namespace Go.Proofs.Ytkcighnochjlgaa
open Go.ChangeShapes Go.WideShapes Go.ChangeAt Go.RowKit
def okT (a : List Tm) (i : Nat) : Prop := (-1000 ≤ (ga a i).e ∧ (ga a i).e ≤ 1000) ∧ (-1000000 ≤ (ga a i).c ∧ (ga a i).c ≤ 1000000) ∧ (ga a i).c ≠ 0 ∧ (0 < i → (ga a ((i : Int) - 1).toNat).e < (ga a i).e)
instance (a : List Tm) (i : Nat) : Decidable (okT a i) := by unfold okT; infer_instance
end Go.Proofs.Ytkcighnochjlgaa
namespace Go.Proofs.Ytkcighnochjlgaa
open Go.ChangeShapes Go.WideShapes Go.ChangeAt Go.RowKit
def mostN (l : List Int) : Nat → Int
 | 0 => 0
 | k + 1 => if mostN l k < ga l k + 1 then ga l k + 1 else mostN l k
theorem cn_up {p : Nat → Bool} {a b : Nat} (h : a ≤ b) : cn p a ≤ cn p b := by
 induction b with
 | zero => obtain rfl : a = 0 := (by omega); exact Nat.le_refl _
 | succ b ih =>
  by_cases e : a = b + 1
  ·subst e; exact Nat.le_refl _
  ·have := ih (by omega)
   rw [cn]; omega
theorem cls_pos {d : Dg} (h : Ue d = true) {a : Nat} (h1 : 1 ≤ a) (h2 : a < 2 * d.crs.length + 1) : 1 ≤ (ga (clsL d) a).toNat := by
 obtain ⟨o1, o2, o3⟩ := (clsN_ok h d.crs.length (Nat.le_refl _)).2 a h2
 have hc := cls_con h (fun x => x = 0) (fun k hk => by
  have hb := Uq h (i := k) hk (k := 1) (by omega)
  have hd := Uq h (i := k) hk (k := 3) (by omega)
  obtain ⟨⟨b1, b2⟩, ⟨b3, b4⟩⟩ := cls_bd h hk
  have e1 : Uu d k 1 = (ga d.crs k).b := rfl
  have e2 : Uu d k 3 = (ga d.crs k).d := rfl
  constructor <;> intro h9 <;> exfalso <;> omega) d.crs.length (Nat.le_refl _) a (ga (clsL d) a).toNat h2 (by unfold clsL; omega) (by unfold clsL; rw [o3])
 rcases Nat.eq_zero_or_pos (ga (clsL d) a).toNat with h9 | h9
 ·have := hc.2 h9; omega
 ·exact h9
theorem most_ov {d : Dg} (h : Ue d = true) (k : Nat) (hk : k ≤ 2 * d.crs.length) : mostN (U12 d) k = rk d (k + 1) := by
 induction k with
 | zero => rfl
 | succ k ih =>
  rw [mostN, ih (by omega)]
  have e1 : ga (U12 d) k = ovA d (k + 1) := by
   rw [U14 (by simp [U12]; omega)]; simp [U12]
  rw [e1]
  obtain ⟨o1, o2, o3⟩ := (clsN_ok h d.crs.length (Nat.le_refl _)).2 (k + 1) (by omega)
  have hp := cls_pos h (a := k + 1) (by omega) (by omega)
  by_cases e : ga (clsL d) (k + 1) = ((k + 1 : Nat) : Int)
  ·have e2 : ovA d (k + 1) = rk d (k + 1) := by unfold ovA; rw [e]; rfl
   rw [rk_root (by omega) e, e2, if_pos (by omega)]
  ·rw [rk_skip e]
   have e3 : ga (clsL d) (ga (clsL d) (k + 1)).toNat = (((ga (clsL d) (k + 1)).toNat : Nat) : Int) := by
    unfold clsL at *; rw [o3]; omega
   have e4 := rk_root hp e3
   have e5 : rk d ((ga (clsL d) (k + 1)).toNat + 1) ≤ rk d (k + 1) := by
    unfold rk; exact_mod_cast cn_up (by unfold clsL at *; omega)
   have e6 : ovA d (k + 1) = rk d (ga (clsL d) (k + 1)).toNat := rfl
   rw [if_neg (by omega)]
theorem ov_lt {d : Dg} (h : Ue d = true) {a : Nat} (h1 : 1 ≤ a) (h2 : a ≤ 2 * d.crs.length) : 0 ≤ ovA d a ∧ ovA d a < rk d (2 * d.crs.length + 1) := by
 obtain ⟨o1, o2, o3⟩ := (clsN_ok h d.crs.length (Nat.le_refl _)).2 a (by omega)
 have hp := cls_pos h h1 (by omega)
 have e3 : ga (clsL d) (ga (clsL d) a).toNat = (((ga (clsL d) a).toNat : Nat) : Int) := by
  unfold clsL at *; rw [o3]; omega
 have e4 := rk_root hp e3
 have e5 : rk d ((ga (clsL d) a).toNat + 1) ≤ rk d (2 * d.crs.length + 1) := by
  unfold rk; exact_mod_cast cn_up (by unfold clsL at *; omega)
 have e6 : ovA d a = rk d (ga (clsL d) a).toNat := rfl
 have := rk_bd d (ga (clsL d) a).toNat
 omega
noncomputable def Z32 := Try.f80.body.getD .skip
set_option maxRecDepth 10000 in
theorem mostOf_q {w : World} {M : Hp} {X : Fr} (l : List Int) {lA : Option Addr} {lc : Nat} (hl : RdA U2 (M.un X.h) lA lc l) (hlb : ∀ i, i < l.length → 0 ≤ ga l i ∧ ga l i ≤ 100) (S : SH w M X []) : Cq Try.prog 80 [.slice lA l.length lc] w M X (fun u => u = .int .i64 (mostN l l.length)) := by
 unfold Cq
 have rmhl : l.length * 8 ≤ 140737488355328 := hl.room
 refine U7 (b := Z32) Try.func80 rfl Try.ntmps80 rfl (fun C hC => (zzwsk [0] rfl (zzsR (zzmv 1 rfl (zzeR [0] rfl (zzmv 1 rfl (zzeE (zztS (zzsR ?_)))))))))
 refine zzmv 1 rfl (zzeE (U6 (zzbK ?_)))
 refine U4 (fun mx_ ax_ wx_ => ∃ (k : Nat) (m : Int), mx_ = l.length - k ∧ Env 24 [(0, .slice lA l.length lc), (3, .int .i64 m), (4, .int .i64 (k : Int))] ax_ ∧ SH wx_ M X [] ∧ k ≤ l.length ∧ m = mostN l k ∧ (0 ≤ m ∧ m ≤ 101)) rfl ?_ ?_
 ·intro ax_ hax_
  refine ⟨_, ⟨0, _, rfl, hax_.su rfl, S.pick [] [] (by decide) trivial, ?hq1f0, ?hq1f1, ?hq1f2⟩⟩
  case hq1f0 => omega
  case hq1f1 => rfl
  case hq1f2 => omega
 ·rintro m1 a1 w1 ⟨k, m, rfl, he1, S1, hk, hm, hm2⟩
  clear S
  refine zziN he1 ?_
  clear he1 a1
  have hlk := fun h => hlb k h
  refine zzsS (zzsR (zzmv 2 rfl (zzwr rfl (zzln rfl uT36) (zzmv 1 rfl (zzeT [0, 3, 4, 8] rfl ?_)))))
  refine zzcD rfl (fun hb8 => ?_) (fun hb8 => ?_)
  ·obtain ⟨hl1, hl2⟩ := hlk (by omega)
   refine zzsK (zznS [0, 3, 4] rfl (zzbK (zzsR (zzmv 2 rfl (zzwr rfl (Ux k rfl sl36 hl) (zzwr rfl (zzld1 rfl uT3 (hl.cell S1.um (i := k) (by first | omega | (simp only [ls]; omega)) 0 rfl rfl)) ?_))))))
   refine zzwr rfl (U1 rfl) (zzmv 2 rfl (zzeT [0, 3, 4, 17] rfl ?_))
   refine zzcD rfl (fun hb17 => ?_) (fun hb17 => ?_)
   ·refine zzrG (zzmv 2 rfl (zzwr rfl (Ux k rfl sl36 hl) (zzwr rfl (zzld1 rfl uT3 (hl.cell S1.um (i := k) (by first | omega | (simp only [ls]; omega)) 0 rfl rfl)) ?_)))
    refine zzwr rfl (U1 rfl) (zzmv 1 rfl (zzeE (U8 (zznT [0, 3, 4] rfl (zzrG (zzmv 1 rfl (zzwr rfl (U1 rfl) (zzmv 1 rfl ?_))))))))
    refine zzeE (Uf ?_)
    intro ax_ hax_
    refine ⟨_, ?hq2m, ⟨k + 1, _, rfl, hax_.su rfl, S1.pick [] [] (by decide) trivial, ?hq2f0, ?hq2f1, ?hq2f2⟩⟩
    case hq2f0 => omega
    case hq2f1 => (rw [mostN, ← hm]; first | rw [if_pos (by omega)] | rw [if_neg (by omega)])
    case hq2f2 => (have := hlk (by omega); omega)
    case hq2m => omega
   ·refine zzsK (U8 (zznT [0, 3, 4] rfl (zzrG (zzmv 1 rfl (zzwr rfl (U1 rfl) (zzmv 1 rfl (zzeE (Uf ?_))))))))
    intro ax_ hax_
    refine ⟨_, ?hq3m, ⟨k + 1, _, rfl, hax_.su rfl, S1.pick [] [] (by decide) trivial, ?hq3f0, ?hq3f1, ?hq3f2⟩⟩
    case hq3f0 => omega
    case hq3f1 => (rw [mostN, ← hm]; first | rw [if_pos (by omega)] | rw [if_neg (by omega)])
    case hq3f2 => (have := hlk (by omega); omega)
    case hq3m => omega
  ·refine zzxE rfl (zznR [3] rfl (zzmv 2 rfl (zzeT [2] rfl (zzrT hC rfl ?_))))
   exact ⟨_, rfl, (S1.pick [] [] (by decide) trivial), (by obtain rfl : k = l.length := (by omega); rw [hm]; rfl)⟩
end Go.Proofs.Ytkcighnochjlgaa
namespace Go.Proofs.Ytkcighnochjlgaa
open Go.ChangeShapes Go.WideShapes Go.ChangeAt Go.RowKit
def mny (d : Dg) : Nat := (rk d (2 * d.crs.length + 1)).toNat
def addAt (l : List Int) (k : Nat) (v : Int) : List Int := l.set k (ga l k + v)
theorem U2g (l : List Int) (k : Nat) (v : Int) : (addAt l k v).length = l.length := by simp [addAt]
theorem ga_addAt {l : List Int} {k : Nat} (hk : k < l.length) (v : Int) (x : Nat) : ga (addAt l k v) x = ga l x + if x = k then v else 0 := by
 unfold addAt
 rw [U3 _ _ _ _ hk]
 by_cases e : k = x
 ·subst e; simp
 ·rw [if_neg e, if_neg fun h => e h.symm]; omega
def kP (d : Dg) (a : Int) : Nat := (ga (U2b d) a.toNat).toNat
theorem kP_ok {d : Dg} (h : Ue d = true) {a : Int} (ha : 1 ≤ a ∧ a ≤ 2 * (d.crs.length : Int)) : 0 ≤ a ∧ a.toNat < (U2b d).length ∧ 0 ≤ ga (U2b d) a.toNat ∧ kP d a < mny d ∧ ga (U2b d) a.toNat = (kP d a : Int) := by
 have h1 := ov_lt h (a := a.toNat) (by omega) (by omega)
 unfold kP mny
 rw [U1w, oversL_ga d (by omega)]
 omega
def pr1 (d : Dg) (i : Nat) : List Int := addAt (List.replicate (mny d) 0) (kP d (ga d.crs i).b) 2
def pr2 (d : Dg) (p : Int) (i : Nat) : List Int := addAt (pr1 d i) (kP d (ga d.crs i).a) (p - 1)
def pr3 (d : Dg) (p : Int) (i : Nat) : List Int := addAt (pr2 d p i) (kP d (ga d.crs i).c) (p - 1)
theorem pr1_len (d : Dg) (i : Nat) : (pr1 d i).length = mny d := by unfold pr1; rw [U2g, List.length_replicate]
theorem pr2_len (d : Dg) (p : Int) (i : Nat) : (pr2 d p i).length = mny d := by unfold pr2; rw [U2g, pr1_len]
theorem pr3_len (d : Dg) (p : Int) (i : Nat) : (pr3 d p i).length = mny d := by unfold pr3; rw [U2g, pr2_len]
theorem pr1_ga {d : Dg} {i x : Nat} (hb : kP d (ga d.crs i).b < mny d) (hx : x < mny d) : ga (pr1 d i) x = if x = kP d (ga d.crs i).b then 2 else 0 := by
 unfold pr1; rw [ga_addAt (by rw [List.length_replicate]; exact hb), U24 _ _ _ hx]; omega
theorem pr2_ga {d : Dg} {p : Int} {i x : Nat} (hb : kP d (ga d.crs i).b < mny d) (ha : kP d (ga d.crs i).a < mny d) (hx : x < mny d) : ga (pr2 d p i) x = (if x = kP d (ga d.crs i).b then 2 else 0) + if x = kP d (ga d.crs i).a then p - 1 else 0 := by
 unfold pr2; rw [ga_addAt (by rw [pr1_len]; exact ha), pr1_ga hb hx]
theorem pr3_ga {d : Dg} {p : Int} {i x : Nat} (hb : kP d (ga d.crs i).b < mny d) (ha : kP d (ga d.crs i).a < mny d) (hc : kP d (ga d.crs i).c < mny d) (hx : x < mny d) : ga (pr3 d p i) x = ((if x = kP d (ga d.crs i).b then 2 else 0) + if x = kP d (ga d.crs i).a then p - 1 else 0) + if x = kP d (ga d.crs i).c then p - 1 else 0 := by
 unfold pr3; rw [ga_addAt (by rw [pr2_len]; exact hc), pr2_ga hb ha hx]
theorem ite01 (c : Prop) [Decidable c] (v : Int) : (if c then v else 0) = v ∨ (if c then v else 0) = 0 := by split; exact .inl rfl; exact .inr rfl
def rowP (d : Dg) (p : Int) (i : Nat) : List Int := (pr3 d p i).map fun x => x % p
def rowsP (d : Dg) (p : Int) : List (List Int) := (List.range d.crs.length).map (rowP d p)
theorem rowP_len (d : Dg) (p : Int) (i : Nat) : (rowP d p i).length = mny d := by unfold rowP; rw [List.length_map, pr3_len]
theorem rowP_ga {d : Dg} {p : Int} {i x : Nat} (hx : x < mny d) : ga (rowP d p i) x = ga (pr3 d p i) x % p := by unfold rowP; rw [ga_map _ _ _ (by rw [pr3_len]; exact hx)]
theorem U1z (d : Dg) (p : Int) : (rowsP d p).length = d.crs.length := by simp [rowsP]
theorem rowsP_ga {d : Dg} {p : Int} {i : Nat} (hi : i < d.crs.length) : ga (rowsP d p) i = rowP d p i := by
 unfold rowsP; rw [ga_map _ _ _ (by simpa using hi), U14 (by simpa using hi)]; simp
theorem rowP_of {d : Dg} {p : Int} {i e : Nat} {ws : List Int} (hl : ws.length = mny d) (h : ∀ x, x < mny d → ga ws x = if x < e then ga (pr3 d p i) x % p else ga (pr3 d p i) x) (he : e = mny d) : ws = rowP d p i := by
 refine ga_ext (by rw [rowP_len]; exact hl) fun x hx => ?_
 rw [rowP_ga (by omega), h x (by omega), if_pos (by omega)]
theorem rowsP_bd {d : Dg} {p : Int} (hp : 0 < p) : ∀ i, i < (rowsP d p).length → ∀ j, j < mny d → 0 ≤ ga (ga (rowsP d p) i) j ∧ ga (ga (rowsP d p) i) j < p := by
 intro i hi j hj
 rw [rowsP_ga (by rw [← U1z d p]; exact hi), rowP_ga hj]
 exact ⟨Int.emod_nonneg _ (by omega), Int.emod_lt_of_pos _ hp⟩
theorem rowsP_rl {d : Dg} {p : Int} : ∀ i, i < (rowsP d p).length → (ga (rowsP d p) i).length = mny d := by
 intro i hi
 rw [rowsP_ga (by rw [← U1z d p]; exact hi), rowP_len]
noncomputable def foxN (d : Dg) (p : Int) : Int := (mny d : Int) - (Fx.ldc p (mny d) (rowsP d p).length (Fx.tf (rowsP d p)) (mny d) : Nat) + d.loops
def FoxV (d : Dg) (p : Int) (u : Value) : Prop := (U1t p = false ∧ u = .tuple [.int .i64 0, .int .i64 3].toArray) ∨ (U1t p = true ∧ errO d ≠ 0 ∧ u = .tuple [.int .i64 0, .int .i64 (errO d)].toArray) ∨ (U1t p = true ∧ errO d = 0 ∧ u = .tuple [.int .i64 (foxN d p), .int .i64 0].toArray)
noncomputable def Z33 := Try.f40.body.getD .skip
set_option maxHeartbeats 1000000 in
set_option maxRecDepth 10000 in
theorem Fox_t {w : World} {M : Hp} {X : Fr} (d : Dg) {dcrsA : Option Addr} {dcrsc : Nat} (p : Int) (hdcrs : RdA cdCr (M.un X.h) dcrsA dcrsc d.crs) (hp : p ≤ 9223372036854775807) (S : SH w M X []) : Ct Try.prog 40 [.agg [.slice dcrsA d.crs.length dcrsc, .int .i64 d.loops].toArray, .int .i64 p] w M X (fun u _ => FoxV d p u) := by
 unfold Ct
 have rmhdcrs : d.crs.length * 40 ≤ 140737488355328 := hdcrs.room
 refine U7 (b := Z33) Try.func40 rfl Try.ntmps40 rfl (fun C hC => (zzwsk [0, 1] rfl (zzsR (zzwU rfl (Uv (l := [_, _]) rfl rfl rfl rfl rfl S ?_)))))
 intro gb1 w1 S1; clear S
 refine zzmv 2 rfl (zzeS [1, 2] rfl (zzsR (zzmv 1 rfl (zzwU rfl (U26 rfl rfl rfl rfl rfl rfl rfl cf81 S1 (isPrime_q p (by omega) S1.lend) ?_)))))
 rintro _ w2 S2 rfl; clear S1
 refine zzmv 1 rfl (zzeT [1, 2, 17] rfl ?_)
 refine zzcN rfl (fun hb17 => ?_) (fun hb17 => ?_)
 ·simp only [Bool.and_eq_true, Bool.or_eq_true, Bool.and_eq_false_iff, Bool.or_eq_false_iff, decide_eq_true_eq, decide_eq_false_iff_not, Bool.not_eq_true', Bool.not_eq_false'] at hb17
  refine zzsR (zzmv 2 rfl (zzeT [4, 5] rfl (zzrT hC rfl ?_)))
  refine ⟨_, rfl, _, Hp.le_refl _, (S2.pick [] [] (by decide) trivial), ?_⟩
  exact .inl ⟨by simpa using hb17, rfl⟩
 ·simp only [Bool.and_eq_true, Bool.or_eq_true, Bool.and_eq_false_iff, Bool.or_eq_false_iff, decide_eq_true_eq, decide_eq_false_iff_not, Bool.not_eq_true', Bool.not_eq_false'] at hb17
  refine zzsK (zznS [1, 2] rfl ?_)
  have hpb : U1t p = true := by simpa using hb17
  have hpI := U1s hpb
  refine zzrG (zzwr rfl (Ut [_, _] rfl uT51 sz51 (S2.bs 0 rfl rfl)) (zzwU rfl (wo_ct rfl rfl rfl rfl rfl rfl rfl cf82 S2 (Open_t d (hdcrs.mono S2.Uj) S2.lend) ?_)))
  intro vw3 w3 M1 hle1 S3 hRw3; clear S2
  replace hdcrs := hdcrs.mono (Hp.U0 hle1 S3.mx)
  rcases hRw3 with ⟨hopn20, rfl⟩ | ⟨hopn20, g1, cA20, iA20, oA20, cc20, ic20, oc20, rfl, hsb20, hsc20, hsi20, hso20⟩
  ·refine zzmv 5 rfl (zzeS [1, 6, 7] rfl (zzsR (zzmv 2 rfl (zzeT [1, 6, 7, 24] rfl ?_))))
   refine zzcD rfl (fun hb24 => ?_) (fun hb24 => ?_)
   ·refine zzsR (zzmv 3 rfl (zzeT [4, 5] rfl (zzrT hC rfl ?_)))
    refine ⟨_, rfl, _, hle1, (S3.pick [] [] (by decide) trivial), ?_⟩
    exact .inr (.inl ⟨hpb, hopn20, rfl⟩)
   ·exfalso; omega
  ·obtain ⟨hmo, hpl⟩ := errO_ok hopn20
   obtain ⟨hn, hab, hlo0, hlo1⟩ := mayO hmo
   refine zzmv 5 rfl (zzeS [1, 6, 7] rfl (zzsR (zzmv 2 rfl (zzeT [1, 6, 7, 24] rfl ?_))))
   refine zzcD rfl (fun hb24 => ?_) (fun hb24 => ?_)
   ·exfalso; omega
   ·refine zzsK (zznR [1, 6] rfl (zzmv 1 rfl (zzwU rfl (wo_ct rfl rfl rfl rfl rfl rfl rfl cf83 S3 (Passes_t d (hsb20.mono (Hp.le_un _ _)) (hsc20.mono (Hp.le_un _ _)) (hsi20.mono (Hp.le_un _ _)) (hso20.mono (Hp.le_un _ _)) hn hab S3.lend) ?_))))
    intro vw4 w4 M2 hle2 S4 hRw4; clear S3
    replace hdcrs := hdcrs.mono (Hp.U0 hle2 S4.mx)
    replace hsb20 := hsb20.mono hle2
    replace hsc20 := hsc20.mono hle2
    replace hsi20 := hsi20.mono hle2
    replace hso20 := hso20.mono hle2
    obtain ⟨A1, c1, rfl, hr1⟩ := hRw4
    have hovl := U1w d
    refine zzmv 5 rfl (zzeS [1, 6, 8, 9] rfl ?_)
    have hmb := rk_bd d (2 * d.crs.length + 1)
    have hmn : rk d (2 * d.crs.length + 1) = (mny d : Int) := by unfold mny; omega
    refine ws_eq 9 (.int .i64 (mny d : Int)) rfl (int_eq hmn) ?_
    have hmn2 : mny d ≤ 33 := by omega
    refine zzrG (zzmv 1 rfl (zzeS [1, 6, 8, 9, 10] rfl (zzsR (zzmv 2 rfl (zzwr rfl (zzfa rfl uT114 rfl ce51 nf51) (zzwr rfl (zzfa rfl uT51 rfl ce49 nf49) (zzwr rfl (zzld1 rfl uT49 (hsb20.cell S4.m rfl)) (zzwr rfl (zzln rfl uT49) ?_))))))))
    refine zzmv 1 rfl (zzeT [1, 6, 8, 9, 10, 35, 36, 37] rfl (zzbK ?_))
    have S5 := S4.newtab0 U2; clear S4
    have S6 := S5.nilrow (cdV 36); clear S5
    refine U4 (fun mx_ ax_ wx_ => ∃ (i : Nat) (vs0 : List SlV) (xs0 : List (List Int)) (vrl : Value), mx_ = d.crs.length - i ∧ Env 106 [(1, .int .i64 p), (6, .pointer (some ⟨g1, 0, none⟩)), (8, .slice A1 (U2b d).length c1), (9, .int .i64 (mny d : Int)), (10, vrl), (35, .slice cA20 d.crs.length cc20), (36, .int .i64 (d.crs.length : Int)), (37, .int .i64 (i : Int))] ax_ ∧ SH wx_ M2 X [Rs.row (cdV 36) vrl vs0, Rs.tab U2 vs0 xs0] ∧ i ≤ d.crs.length ∧ xs0 = (rowsP d p).take i) rfl ?_ ?_
    ·intro ax_ hax_
     refine ⟨_, ⟨0, [], [], _, rfl, hax_.su rfl, S6.pick [0, 1] [_, _] (by decide) ⟨rfl, rfl, trivial⟩, ?hq1f0, ?hq1f1⟩⟩
     case hq1f0 => omega
     case hq1f1 => rfl
    ·rintro m1 a1 w5 ⟨i, vs0, xs0, vrl, rfl, he1, S7, hi, hx0⟩
     clear S6
     refine zziN he1 ?_
     clear he1 a1
     have hvl : vs0.length = xs0.length := S7.tablen (i := 1) rfl
     have hxl : xs0.length = i := by rw [hx0, List.length_take, U1z]; omega
     have hba := fun h => Uq hab (i := i) h (k := 0) (by omega)
     have hbb := fun h => Uq hab (i := i) h (k := 1) (by omega)
     have hbc := fun h => Uq hab (i := i) h (k := 2) (by omega)
     refine zzsR (zzmv 1 rfl (zzeE (zztS ?_)))
     refine zzcD rfl (fun hb38 => ?_) (fun hb38 => ?_)
     ·refine zzsK (zznS [1, 6, 8, 9, 10, 35, 36, 37] rfl (zzbK (zzsR (zzwr rfl (Ux i rfl sl49 hsc20) (zzwr rfl (Ut [_, _, _, _, _] rfl uT111 sz111 (hsc20.U1p S7.m (e := i) (by first | omega | (simp only [ls]; omega)) (j := 0) ⟨rfl, rfl, rfl, rfl, rfl, trivial⟩)) ?_)))))
      refine zzwU rfl (Uk (l := [_, _, _, _, _]) rfl rfl rfl zr111 rfl S7 ?_)
      intro gb2 w6 S8; clear S7
      refine zzwU rfl (U1q 0 [_, _, _, _, _] [_, _, _, _, _] [_, _, _] rfl S8 rfl rfl sz111 rfl rfl ?_)
      intro w7 S9; clear S8
      refine zzeR [1, 6, 8, 9, 10, 35, 36, 37, 12] rfl (zzmv 1 rfl (zzwU rfl (U1y (C := U2) (mny d) rfl rfl rfl rfl rfl sl36 (by first | rfl | omega) (by show _ * 8 ≤ _; first | omega | (simp only [ls]; omega)) S9 ?_)))
      intro vr2 w8 S10; clear S9
      refine zzmv 1 rfl (zzeS [1, 6, 8, 9, 10, 35, 36, 37, 12, 13] rfl ?_)
      obtain ⟨ha1, ha2⟩ := hba (by omega)
      obtain ⟨hb1, hb2⟩ := hbb (by omega)
      obtain ⟨hc1, hc2⟩ := hbc (by omega)
      change 1 ≤ (ga d.crs i).a at ha1
      change (ga d.crs i).a ≤ _ at ha2
      obtain ⟨ka1, ka2, ka3, ka4, ka5⟩ := kP_ok hab ⟨ha1, ha2⟩
      change 1 ≤ (ga d.crs i).b at hb1
      change (ga d.crs i).b ≤ _ at hb2
      obtain ⟨kb1, kb2, kb3, kb4, kb5⟩ := kP_ok hab ⟨hb1, hb2⟩
      change 1 ≤ (ga d.crs i).c at hc1
      change (ga d.crs i).c ≤ _ at hc2
      obtain ⟨kc1, kc2, kc3, kc4, kc5⟩ := kP_ok hab ⟨hc1, hc2⟩
      have hz1 : ga (List.replicate (mny d) U2.z) (kP d (ga d.crs i).b) = 0 := U24 _ _ _ kb4
      refine zzrG (zzmv 2 rfl (zzwr rfl (zzfa rfl uT111 rfl ce3 nf3) (zzwr rfl (zzld1 rfl uT3 (S10.bc 1 rfl rfl)) (zzwr rfl (Ux (((ga d.crs i).b).toNat) rfl sl36 hr1) (zzwr rfl (zzld1 rfl uT3 (hr1.cell S10.m (i := ((ga d.crs i).b).toNat) (by first | omega | (simp only [ls]; omega)) 0 rfl rfl)) ?_)))))
      refine wl_eq 48 (.int .i64 (kP d (ga d.crs i).b : Int)) rfl (int_eq kb5) (zzwr rfl (Uc (i := 0) (kP d (ga d.crs i).b) rfl sl36 S10 rfl) (zzwr rfl (zzld1 rfl uT3 (S10.rowc (i := 0) (e := kP d (ga d.crs i).b) (j := 0) rfl (by first | omega | (simp only [ls]; omega)) rfl rfl)) ?_))
      refine zzwr rfl (U1 rfl) (zzwr rfl (Uc (i := 0) (kP d (ga d.crs i).b) rfl sl36 S10 rfl) (zzwU rfl (Ub (C := U2) (i := 0) (e := kP d (ga d.crs i).b) (j := 0) (us := [_]) (H' := [_, _, _, _]) ((ga (List.replicate (mny d) U2.z) (kP d (ga d.crs i).b)) + 2) rfl rfl S10 rfl (by first | omega | (simp only [ls]; omega)) rfl rfl rfl sz3 rfl rfl rfl rfl ?_)))
      intro w9 S11; clear S10
      refine zzeS [1, 6, 8, 9, 10, 35, 36, 37, 12, 13] rfl ?_
      have hrc1 : (List.replicate (mny d) U2.z).set (kP d (ga d.crs i).b) ((ga (List.replicate (mny d) U2.z) (kP d (ga d.crs i).b)) + 2) = (pr1 d i) := rfl
      rw [hrc1] at S11; clear hrc1
      have hl1 := pr1_len d i
      have hy1 := pr1_ga kb4 ka4
      have hy2 := ite01 (kP d (ga d.crs i).a = kP d (ga d.crs i).b) 2
      refine zzrG (zzmv 2 rfl (zzwr rfl (zzfa rfl uT111 rfl ce3 nf3) (zzwr rfl (zzld1 rfl uT3 (S11.bc 1 rfl rfl)) (zzwr rfl (Ux (((ga d.crs i).a).toNat) rfl sl36 hr1) (zzwr rfl (zzld1 rfl uT3 (hr1.cell S11.m (i := ((ga d.crs i).a).toNat) (by first | omega | (simp only [ls]; omega)) 0 rfl rfl)) ?_)))))
      refine wl_eq 58 (.int .i64 (kP d (ga d.crs i).a : Int)) rfl (int_eq ka5) (zzwr rfl (Uc (i := 0) (kP d (ga d.crs i).a) rfl sl36 S11 rfl) (zzwr rfl (zzld1 rfl uT3 (S11.rowc (i := 0) (e := kP d (ga d.crs i).a) (j := 0) rfl (by first | omega | (simp only [ls]; omega)) rfl rfl)) ?_))
      refine zzmv 1 rfl (zzwr rfl (U1o rfl rfl rfl (by first | omega | (simp only [ls]; omega))) ?_)
      refine zzwr rfl (U1 rfl) (zzwr rfl (Uc (i := 0) (kP d (ga d.crs i).a) rfl sl36 S11 rfl) (zzwU rfl (Ub (C := U2) (i := 0) (e := kP d (ga d.crs i).a) (j := 0) (us := [_]) (H' := [_, _, _, _]) ((ga (pr1 d i) (kP d (ga d.crs i).a)) + (p - 1)) rfl rfl S11 rfl (by first | omega | (simp only [ls]; omega)) rfl rfl rfl sz3 rfl rfl rfl rfl ?_)))
      intro w10 S12; clear S11
      refine zzeS [1, 6, 8, 9, 10, 35, 36, 37, 12, 13] rfl ?_
      have hrc2 : (pr1 d i).set (kP d (ga d.crs i).a) ((ga (pr1 d i) (kP d (ga d.crs i).a)) + (p - 1)) = (pr2 d p i) := rfl
      rw [hrc2] at S12; clear hrc2
      have hl2 := pr2_len d p i
      have hy3 := pr2_ga (p := p) kb4 ka4 kc4
      have hy4 := ite01 (kP d (ga d.crs i).c = kP d (ga d.crs i).b) 2
      have hy5 := ite01 (kP d (ga d.crs i).c = kP d (ga d.crs i).a) (p - 1)
      refine zzrG (zzmv 2 rfl (zzwr rfl (zzfa rfl uT111 rfl ce3 nf3) (zzwr rfl (zzld1 rfl uT3 (S12.bc 1 rfl rfl)) (zzwr rfl (Ux (((ga d.crs i).c).toNat) rfl sl36 hr1) (zzwr rfl (zzld1 rfl uT3 (hr1.cell S12.m (i := ((ga d.crs i).c).toNat) (by first | omega | (simp only [ls]; omega)) 0 rfl rfl)) ?_)))))
      refine wl_eq 70 (.int .i64 (kP d (ga d.crs i).c : Int)) rfl (int_eq kc5) (zzwr rfl (Uc (i := 0) (kP d (ga d.crs i).c) rfl sl36 S12 rfl) (zzwr rfl (zzld1 rfl uT3 (S12.rowc (i := 0) (e := kP d (ga d.crs i).c) (j := 0) rfl (by first | omega | (simp only [ls]; omega)) rfl rfl)) ?_))
      refine zzmv 1 rfl (zzwr rfl (U1o rfl rfl rfl (by first | omega | (simp only [ls]; omega))) ?_)
      refine zzwr rfl (U1 rfl) (zzwr rfl (Uc (i := 0) (kP d (ga d.crs i).c) rfl sl36 S12 rfl) (zzwU rfl (Ub (C := U2) (i := 0) (e := kP d (ga d.crs i).c) (j := 0) (us := [_]) (H' := [_, _, _, _]) ((ga (pr2 d p i) (kP d (ga d.crs i).c)) + (p - 1)) rfl rfl S12 rfl (by first | omega | (simp only [ls]; omega)) rfl rfl rfl sz3 rfl rfl rfl rfl ?_)))
      intro w11 S13; clear S12
      refine zzeS [1, 6, 8, 9, 10, 35, 36, 37, 13] rfl (zzsS ?_)
      have hrc3 : (pr2 d p i).set (kP d (ga d.crs i).c) ((ga (pr2 d p i) (kP d (ga d.crs i).c)) + (p - 1)) = (pr3 d p i) := rfl
      rw [hrc3] at S13; clear hrc3
      have hl3 := pr3_len d p i
      refine zzrG (zzmv 1 rfl (zzwr rfl (zzlnR (i := 0) rfl sl36 S13 rfl) (zzmv 1 rfl (zzeT [1, 6, 8, 9, 10, 35, 36, 37, 13, 78, 79] rfl (zzbK ?_)))))
      refine U4 (fun mx_ ax_ wx_ => ∃ (e : Nat) (ws : List Int) (vrm : Value), mx_ = mny d - e ∧ Env 106 [(1, .int .i64 p), (6, .pointer (some ⟨g1, 0, none⟩)), (8, .slice A1 (U2b d).length c1), (9, .int .i64 (mny d : Int)), (10, vrl), (35, .slice cA20 d.crs.length cc20), (36, .int .i64 (d.crs.length : Int)), (37, .int .i64 (i : Int)), (13, vrm), (78, .int .i64 ((pr3 d p i).length : Int)), (79, .int .i64 (e : Int))] ax_ ∧ SH wx_ M2 X [Rs.row U2 vrm ws, Rs.row (cdV 36) vrl vs0, Rs.tab U2 vs0 xs0] ∧ e ≤ mny d ∧ ws.length = mny d ∧ (∀ x, x < mny d → ga ws x = if x < e then ga (pr3 d p i) x % p else ga (pr3 d p i) x)) rfl ?_ ?_
      ·intro ax_ hax_
       refine ⟨_, ⟨0, _, _, rfl, hax_.su rfl, S13.pick [0, 2, 3] [_, _, _] (by decide) ⟨rfl, rfl, rfl, trivial⟩, ?hq2f0, ?hq2f1, ?hq2f2⟩⟩
       case hq2f0 => omega
       case hq2f1 => exact hl3
       case hq2f2 => (intro x hx; rw [if_neg (by omega)])
      ·rintro m2 a2 w12 ⟨e, ws, vrm, rfl, he2, S14, he, hwl, hwg⟩
       clear S13
       refine zziN he2 ?_
       clear he2 a2
       have hwe := fun h => hwg e h
       have hp3 := fun h => pr3_ga (p := p) (i := i) (x := e) kb4 ka4 kc4 h
       refine zzsR (zzmv 1 rfl (zzeE (zztS ?_)))
       refine zzcD rfl (fun hb80 => ?_) (fun hb80 => ?_)
       ·refine zzsK (zznS [1, 6, 8, 9, 10, 35, 36, 37, 13, 78, 79] rfl (zzbK (zzsR (zzmv 2 rfl (zzeT [1, 6, 8, 9, 10, 35, 36, 37, 13, 78, 79, 14] rfl ?_)))))
        have hwe2 := hwe (by omega)
        rw [if_neg (by omega)] at hwe2
        have hp4 := hp3 (by omega)
        have hp5 := ite01 (e = kP d (ga d.crs i).b) 2
        have hp6 := ite01 (e = kP d (ga d.crs i).a) (p - 1)
        have hp7 := ite01 (e = kP d (ga d.crs i).c) (p - 1)
        refine zzrG (zzmv 2 rfl (zzwr rfl (Uc (i := 0) e rfl sl36 S14 rfl) (zzwr rfl (zzld1 rfl uT3 (S14.rowc (i := 0) (e := e) (j := 0) rfl (by first | omega | (simp only [ls]; omega)) rfl rfl)) ?_)))
        refine zzmv 1 rfl (zzwr rfl (run_rem rfl rfl rfl (by first | omega | (simp only [ls]; omega))) ?_)
        refine zzwr rfl (Uc (i := 0) e rfl sl36 S14 rfl) (zzwU rfl (Ub (C := U2) (i := 0) (e := e) (j := 0) (us := [_]) (H' := [_, _, _]) ((ga ws e) % p) rfl rfl S14 rfl (by first | omega | (simp only [ls]; omega)) rfl rfl rfl sz3 rfl rfl rfl rfl ?_))
        intro w13 S15; clear S14
        refine zzeE (U8 (zznT [1, 6, 8, 9, 10, 35, 36, 37, 13, 78, 79] rfl (zzrG (zzwr rfl (U1 rfl) (zzmv 1 rfl (zzeE (Uf ?_)))))))
        intro ax_ hax_
        refine ⟨_, ?hq3m, ⟨e + 1, _, _, rfl, hax_.su rfl, S15.pick [0, 1, 2] [_, _, _] (by decide) ⟨rfl, rfl, rfl, trivial⟩, ?hq3f0, ?hq3f1, ?hq3f2⟩⟩
        case hq3f0 => omega
        case hq3f1 => (rw [List.length_set]; exact hwl)
        case hq3f2 => (intro x hx; rw [U3 _ _ _ _ (by omega)]; by_cases h9 : e = x; (subst h9; rw [if_pos rfl, if_pos (by omega), hwe2]); (rw [if_neg h9, hwg x hx]; by_cases h8 : x < e; (rw [if_pos h8, if_pos (by omega)]); (rw [if_neg h8, if_neg (by omega)])))
        case hq3m => omega
       ·refine zzxE rfl (zznT [1, 6, 8, 9, 10, 35, 36, 37, 13] rfl (zzrG (zzmv 2 rfl ?_)))
        obtain ⟨A2, c2, rfl, _⟩ := S14.sl (i := 0) rfl
        have S16 := S14.tabsnoc (C := U2) (zs := ws) (i := 2) (q := 0) (H' := [_, _, _]) rfl rfl (by decide) rfl; clear S14
        refine zzwU rfl (Uh (C := (cdV 36)) (l := [_]) rfl rfl rfl rfl sl69 rfl rfl rfl rfl S16 ?_)
        intro gb3 w14 S17; clear S16
        refine zzwU rfl (Uy (C := (cdV 36)) (i := 2) (q := 0) (⟨A2, ws.length, c2⟩ : SlV) rfl rfl rfl rfl rfl rfl rfl rfl sl69 S17 rfl rfl rfl (by show (_ + 1) * 24 ≤ _; first | omega | (simp only [ls]; omega)) ?_)
        intro vrl1 w15 S18; clear S17
        have S19 := S18.pick [1, 2, 3] [_, _, _] (by decide) ⟨rfl, rfl, rfl, trivial⟩; clear S18
        refine zzmv 1 rfl (zzeE (U8 (zznT [1, 6, 8, 9, 10, 35, 36, 37] rfl (zzrG (zzwr rfl (U1 rfl) (zzmv 1 rfl (zzeE (Uf ?_))))))))
        intro ax_ hax_
        refine ⟨_, ?hq4m, ⟨i + 1, vs0 ++ [(⟨A2, ws.length, c2⟩ : SlV)], xs0 ++ [ws], _, rfl, hax_.su rfl, S19.pick [1, 2] [_, _] (by decide) ⟨rfl, rfl, trivial⟩, ?hq4f0, ?hq4f1⟩⟩
        case hq4f0 => omega
        case hq4f1 => (rw [take_ga _ i (by rw [U1z]; omega), ← hx0, rowsP_ga (by omega), rowP_of hwl hwg (by omega)])
        case hq4m => omega
     ·refine zzxE rfl (zznS [1, 6, 9, 10] rfl ?_)
      have hie : xs0 = rowsP d p := by rw [hx0, List.take_of_length_le (by rw [U1z]; omega)]
      have hldc := Fx.ldc_le p (mny d) (rowsP d p).length (Fx.tf (rowsP d p)) (mny d)
      have hrpl := U1z d p
      have hvl9 := S7.tablen (i := 1) rfl
      rw [hie] at S7
      have S20 := S7.pick [0, 1] [_, _] (by decide) ⟨rfl, rfl, trivial⟩; clear S7
      refine ws_drawN [_, _] [] rfl (by kernel_rfl) S20 13 rfl ?_
      clear S20
      change WA _ _ _ _ _ _ _ _ _ _ _ _ [_, _]
      refine zzmW 8 [0, 1, 2, 5, 6] rfl (zzpW 7 rfl (zzfa rfl uT114 rfl ce51 nf51) (zzpW 8 rfl (zzfa rfl uT51 rfl ce3 nf3) (zzlW 9 rfl (fun hZz Sz => zzld1 rfl uT3 ((hsb20.mono hZz).cell Sz.m rfl)) (zzuW 3 rfl (fun w30 S35 => ?_)))))
      have S36 := S35.pick [0, 1] [_, _] (by decide) ⟨rfl, rfl, trivial⟩; clear S35
      have S37 : SH _ _ _ (Rs.bun [_, _] :: []) := SH.bunC (A := [_, _]) (B := []) S36; clear S36
      have S38 : SH _ _ _ [_] := S37.less (i := 0) rfl
      have hcall1 := rank_b vs0 (rowsP d p) p (m := mny d) hpb rowsP_rl (rowsP_bd (by omega)) (by omega) (by omega) (S37.lend1 (i := 0) rfl); clear S38
      refine (wo_c1 (i := 0) rfl rfl rfl rfl rfl rfl rfl cf84 S37 rfl hcall1 ?_)
      intro vw31 w31 M17 rw31 hle19 S39 hR1; clear S37
      obtain ⟨huhMX1, hMX1, hR2⟩ := hR1
      rw [hMX1] at S39
      clear hMX1
      subst huhMX1
      obtain ⟨us1, ys1, rfl⟩ := hR2
      replace S39 : SH _ _ _ (Rs.bun [_, _] :: []) := S39
      have S40 : SH _ _ _ [_, _] := SH.unbunC (A := [_, _]) (B := []) S39; clear S39
      refine zzgrowW [_, _] [_, _] rfl S40 ?_; clear S40
      refine zzpW 4 rfl (U1o rfl rfl rfl (by first | omega | (simp only [ls]; omega))) ?_
      refine zzpW 10 rfl (U1 rfl) (zzmW 0 [11, 12] rfl (zzeW (fun w36 S45 => (zznT [4, 5] rfl (zzrT hC rfl ?_)))))
      refine ⟨_, rfl, _, hle1.trans hle2, (S45.pick [] [] (by decide) trivial), ?_⟩
      exact .inr (.inr ⟨hpb, hopn20, rfl⟩)
end Go.Proofs.Ytkcighnochjlgaa
namespace Go.Proofs.Ytkcighnochjlgaa
open Go.RowKit
namespace Fx
def Fnd (p : Int) (tb : List (List Int)) (us : List Bool) (c k : Nat) (wh : Int) : Prop :=
  (wh = -1 ∧ ∀ j, j < k → ga us j = false → (ga (ga tb j) c).tmod p = 0) ∨ ∃ o : Nat, wh = (o : Int) ∧ o < k ∧ ga us o = false ∧ (ga (ga tb o) c).tmod p ≠ 0
theorem Fnd.zero (p : Int) (tb : List (List Int)) (us : List Bool) (c : Nat) : Fnd p tb us c 0 (-1) := .inl ⟨rfl, fun j hj => absurd hj (Nat.not_lt_zero j)⟩
theorem Fnd.skip {p : Int} {tb : List (List Int)} {us : List Bool} {c k : Nat} {wh : Int} (h : Fnd p tb us c k wh) (hs : ¬ wh < 0 ∨ ga us k = true ∨ (ga (ga tb k) c).tmod p = 0) : Fnd p tb us c (k + 1) wh := by
  rcases h with ⟨h1, h2⟩ | ⟨o, h1, h2, h3⟩
  · refine .inl ⟨h1, fun j hj hu => ?_⟩
    by_cases e : j = k
    · subst e
      rcases hs with hs | hs | hs
      · omega
      · rw [hu] at hs; cases hs
      · exact hs
    · exact h2 j (by omega) hu
  · exact .inr ⟨o, h1, by omega, h3⟩
theorem Fnd.hit {p : Int} {tb : List (List Int)} {us : List Bool} {c k : Nat} {wh : Int} (h1 : ga us k = false) (h2 : ¬ (ga (ga tb k) c).tmod p = 0) : Fnd p tb us c (k + 1) (k : Int) := .inr ⟨k, rfl, by omega, h1, h2⟩
theorem Fnd.none_ {p : Int} {tb : List (List Int)} {us : List Bool} {c k : Nat} {wh : Int} (h : Fnd p tb us c k wh) (hw : wh < 0) : ∀ j, j < k → ga us j = false → (ga (ga tb j) c).tmod p = 0 := by
  rcases h with ⟨_, h2⟩ | ⟨o, h1, _⟩
  · exact h2
  · omega
theorem Fnd.some_ {p : Int} {tb : List (List Int)} {us : List Bool} {c k : Nat} {wh : Int} (h : Fnd p tb us c k wh) (hw : ¬ wh < 0) : ∃ o : Nat, wh = (o : Int) ∧ o < k ∧ ga us o = false ∧ (ga (ga tb o) c).tmod p ≠ 0 := by
  rcases h with ⟨h1, _⟩ | h
  · omega
  · exact h
structure FE (p : Int) (m n : Nat) (tb tk : List (List Int)) (c o k : Nat) : Prop where
  len : tk.length = n
  row : ∀ j, j < n → (ga tk j).length = m
  bnd : ∀ j, j < n → ∀ x, x < m → -100 ≤ ga (ga tk j) x ∧ ga (ga tk j) x ≤ 100
  old : ∀ j, j < n → (j = o ∨ k ≤ j) → ga tk j = ga tb j
  new : ∀ j, j < n → j ≠ o → j < k → p ∣ ga (ga tk j) c ∧ ∃ g : Nat, ∀ x, x < m → p ∣ ga (ga tk j) x - (ga (ga tb j) x + (g : Int) * ga (ga tb o) x)
theorem FE.start {p : Int} {m c fr o : Nat} {xss tb : List (List Int)} {us : List Bool} (F : FD p m xss tb us c fr) : FE p m xss.length tb tb c o 0 :=
  ⟨F.len, F.row, F.bnd, fun _ _ _ => rfl, fun _ _ _ h => absurd h (Nat.not_lt_zero _)⟩
theorem FE.skip {p : Int} {m n c o k : Nat} {tb tk : List (List Int)} (E : FE p m n tb tk c o k) (h : k = o) : FE p m n tb tk c o (k + 1) :=
  ⟨E.len, E.row, E.bnd, fun j hj h2 => E.old j hj (by omega), fun j hj h2 h3 => E.new j hj h2 (by omega)⟩
structure RD (p : Int) (m n : Nat) (tb tk te : List (List Int)) (o k T : Nat) : Prop where
  len : te.length = n
  oth : ∀ j, j < n → j ≠ k → ga te j = ga tk j
  rl : (ga te k).length = m
  bd : ∀ x, x < m → -100 ≤ ga (ga te k) x ∧ ga (ga te k) x ≤ 100
  eq : ∀ x, x < m → p ∣ ga (ga te k) x - (ga (ga tb k) x + (T : Int) * ga (ga tb o) x)
theorem RD.start {p : Int} {m n c o k : Nat} {tb tk : List (List Int)} (E : FE p m n tb tk c o k) (hk : k < n) : RD p m n tb tk tk o k 0 :=
  ⟨E.len, fun _ _ _ => rfl, E.row k hk, E.bnd k hk, fun x hx => by rw [E.old k hk (.inr (Nat.le_refl _))]; simp⟩
theorem RD.next {p : Int} {m n o k T : Nat} {tb tk te tg : List (List Int)} (R : RD p m n tb tk te o k T) (hp : 0 < p) (hp2 : p ≤ 97) (h1 : tg.length = n) (h2 : ∀ j, j < n → j ≠ k → ga tg j = ga te j) (h3 : (ga tg k).length = m)
    (h4 : ∀ x, x < m → ga (ga tg k) x = (ga (ga te k) x + ga (ga tb o) x).tmod p) : RD p m n tb tk tg o k (T + 1) := by
  refine ⟨h1, fun j hj hk => by rw [h2 j hj hk, R.oth j hj hk], h3, fun x hx => ?_, fun x hx => ?_⟩
  · rw [h4 x hx]
    have := tm_abs hp (ga (ga te k) x + ga (ga tb o) x)
    omega
  · rw [h4 x hx]
    have g1 := tm_dvd p (ga (ga te k) x + ga (ga tb o) x)
    have g2 := R.eq x hx
    refine U16 g2 g1 ?_
    rw [Int.natCast_add, Int.add_mul]; simp only [Int.natCast_one, Int.one_mul]; omega
theorem RD.more {p : Int} {m n o k T N c : Nat} {tb tk te : List (List Int)} (R : RD p m n tb tk te o k T) (hc : c < m) (hN : p ∣ ga (ga tb k) c + (N : Int) * ga (ga tb o) c) (hT : T ≤ N) (h : ¬ (ga (ga te k) c).tmod p = 0) : T < N := by
  rcases Nat.lt_or_ge T N with h9 | h9
  · exact h9
  · obtain rfl : T = N := by omega
    refine absurd (tm_zero.2 ?_) h
    exact dvd_lin (R.eq c hc) hN (by omega)
theorem FE.step {p : Int} {m n c o k T : Nat} {tb tk te : List (List Int)} (E : FE p m n tb tk c o k) (hko : ¬ k = o) (R : RD p m n tb tk te o k T) (h : (ga (ga te k) c).tmod p = 0) : FE p m n tb te c o (k + 1) := by
  refine ⟨R.len, fun j hj => ?_, fun j hj => ?_, fun j hj h2 => ?_, fun j hj h2 h3 => ?_⟩
  · by_cases e : j = k
    · subst e; exact R.rl
    · rw [R.oth j hj e]; exact E.row j hj
  · by_cases e : j = k
    · subst e; exact R.bd
    · rw [R.oth j hj e]; exact E.bnd j hj
  · rw [R.oth j hj (by omega)]; exact E.old j hj (by omega)
  · by_cases e : j = k
    · subst e; exact ⟨tm_zero.1 h, T, R.eq⟩
    · rw [R.oth j hj e]; exact E.new j hj h2 (by omega)
theorem FE.done {p : Int} {m c fr o : Nat} {xss tb tk : List (List Int)} {us : List Bool} (F : FD p m xss tb us c fr) (hc : c < m) (ho : o < xss.length) (hu : ga us o = false) (hpv : (ga (ga tb o) c).tmod p ≠ 0) {k : Nat} (E : FE p m xss.length tb tk c o k) (hk : xss.length ≤ k) :
    1 ≤ fr ∧ FD p m xss tk (us.set o true) (c + 1) (fr - 1) :=
  F.hit hc ho hu hpv E.len E.row E.bnd (E.old o ho (.inl rfl)) fun i hi hne => E.new i hi hne (by omega)
theorem FD.end_ {p : Int} {m c fr : Nat} {xss tb : List (List Int)} {us : List Bool} (F : FD p m xss tb us c fr) (hc : c = m) : (fr : Int) = (m : Int) - (ldc p m xss.length (tf xss) m : Nat) := by
  subst hc
  have := F.cnt
  omega
end Fx
theorem prim_N {p : Int} (h : U1t p = true) : Fx.U2a p.toNat = true := by
  unfold U1t at h
  rw [Bool.and_eq_true] at h
  exact h.2
end Go.Proofs.Ytkcighnochjlgaa
namespace Go.Proofs.Ytkcighnochjlgaa
open Go.ChangeShapes Go.WideShapes Go.ChangeAt Go.RowKit
theorem ovTail_bd {d : Dg} (h : Ue d = true) (hn : d.crs.length ≤ 16) : ∀ i, i < (U12 d).length → 0 ≤ ga (U12 d) i ∧ ga (U12 d) i ≤ 100 := fun i hi => by
 have hl : (U12 d).length = 2 * d.crs.length := by simp [U12]
 have h1 := ov_lt h (a := i + 1) (by omega) (by omega)
 have h2 := rk_bd d (2 * d.crs.length + 1)
 rw [U14 hi]
 simp only [U12, List.getElem_map, List.getElem_range]
 omega
theorem kD_ok {d : Dg} (h : Ue d = true) {a : Int} (ha : 1 ≤ a ∧ a ≤ 2 * (d.crs.length : Int)) : 0 ≤ a - 1 ∧ (a - 1).toNat < 2 * d.crs.length ∧ kP d a < mny d ∧ ga (U12 d) (a - 1).toNat = (kP d a : Int) := by
 obtain ⟨h1, h2, h3, h4, h5⟩ := kP_ok h ha
 refine ⟨by omega, by omega, h4, ?_⟩
 rw [← h5, oversL_ga d (by rw [U1w] at h2; exact h2), U14 (by simp [U12]; omega)]
 simp only [U12, List.getElem_map, List.getElem_range]
 rw [show (a - 1).toNat + 1 = a.toNat by omega]
def dr1 (d : Dg) (i : Nat) : List Int := addAt (List.replicate (mny d) 0) (kP d (ga d.crs i).b) 2
def dr2 (d : Dg) (i : Nat) : List Int := addAt (dr1 d i) (kP d (ga d.crs i).a) (-1)
def dr3 (d : Dg) (i : Nat) : List Int := addAt (dr2 d i) (kP d (ga d.crs i).c) (-1)
theorem dr1_len (d : Dg) (i : Nat) : (dr1 d i).length = mny d := by unfold dr1; rw [U2g, List.length_replicate]
theorem dr2_len (d : Dg) (i : Nat) : (dr2 d i).length = mny d := by unfold dr2; rw [U2g, dr1_len]
theorem dr3_len (d : Dg) (i : Nat) : (dr3 d i).length = mny d := by unfold dr3; rw [U2g, dr2_len]
theorem dr1_ga {d : Dg} {i x : Nat} (hb : kP d (ga d.crs i).b < mny d) (hx : x < mny d) : ga (dr1 d i) x = if x = kP d (ga d.crs i).b then 2 else 0 := by
 unfold dr1; rw [ga_addAt (by rw [List.length_replicate]; exact hb), U24 _ _ _ hx]; omega
theorem dr2_ga {d : Dg} {i x : Nat} (hb : kP d (ga d.crs i).b < mny d) (ha : kP d (ga d.crs i).a < mny d) (hx : x < mny d) : ga (dr2 d i) x = (if x = kP d (ga d.crs i).b then 2 else 0) + if x = kP d (ga d.crs i).a then -1 else 0 := by
 unfold dr2; rw [ga_addAt (by rw [dr1_len]; exact ha), dr1_ga hb hx]
theorem dr3_ga {d : Dg} {i x : Nat} (hb : kP d (ga d.crs i).b < mny d) (ha : kP d (ga d.crs i).a < mny d) (hc : kP d (ga d.crs i).c < mny d) (hx : x < mny d) : ga (dr3 d i) x = ((if x = kP d (ga d.crs i).b then 2 else 0) + if x = kP d (ga d.crs i).a then -1 else 0) + if x = kP d (ga d.crs i).c then -1 else 0 := by
 unfold dr3; rw [ga_addAt (by rw [dr2_len]; exact hc), dr2_ga hb ha hx]
def U20 (d : Dg) : List (List Int) := (List.range d.crs.length).map (dr3 d)
theorem U1n (d : Dg) : (U20 d).length = d.crs.length := by simp [U20]
theorem rowsD_ga {d : Dg} {i : Nat} (hi : i < d.crs.length) : ga (U20 d) i = dr3 d i := by
 unfold U20; rw [ga_map _ _ _ (by simpa using hi), U14 (by simpa using hi)]; simp
theorem cr_k {d : Dg} (hab : Ue d = true) {i : Nat} (hi : i < d.crs.length) : kP d (ga d.crs i).a < mny d ∧ kP d (ga d.crs i).b < mny d ∧ kP d (ga d.crs i).c < mny d := by
 have hba := Uq hab (i := i) hi (k := 0) (by omega)
 have hbb := Uq hab (i := i) hi (k := 1) (by omega)
 have hbc := Uq hab (i := i) hi (k := 2) (by omega)
 obtain ⟨ha1, ha2⟩ := hba
 obtain ⟨hb1, hb2⟩ := hbb
 obtain ⟨hc1, hc2⟩ := hbc
 exact ⟨(kP_ok hab ⟨ha1, ha2⟩).2.2.2.1, (kP_ok hab ⟨hb1, hb2⟩).2.2.2.1, (kP_ok hab ⟨hc1, hc2⟩).2.2.2.1⟩
theorem rowsD_bd {d : Dg} (hab : Ue d = true) : ∀ i, i < (U20 d).length → ∀ j, j < mny d → -100 ≤ ga (ga (U20 d) i) j ∧ ga (ga (U20 d) i) j ≤ 100 := by
 intro i hi j hj
 rw [U1n] at hi
 obtain ⟨h1, h2, h3⟩ := cr_k hab hi
 rw [rowsD_ga hi, dr3_ga h2 h1 h3 hj]
 have q1 := ite01 (j = kP d (ga d.crs i).b) 2
 have q2 := ite01 (j = kP d (ga d.crs i).a) (-1)
 have q3 := ite01 (j = kP d (ga d.crs i).c) (-1)
 omega
theorem rowsD_rl {d : Dg} : ∀ i, i < (U20 d).length → (ga (U20 d) i).length = mny d := by
 intro i hi
 rw [rowsD_ga (by rw [← U1n d]; exact hi), dr3_len]
theorem rows_law {d : Dg} {p : Int} (hab : Ue d = true) : Fx.ldc p (mny d) (rowsP d p).length (Fx.tf (rowsP d p)) (mny d) = Fx.ldc p (mny d) (U20 d).length (Fx.tf (U20 d)) (mny d) := by
 refine Fx.both (by rw [U1z, U1n]) fun i hi j hj => ?_
 rw [U1n] at hi
 obtain ⟨h1, h2, h3⟩ := cr_k hab hi
 rw [rowsP_ga hi, rowP_ga hj, pr3_ga h2 h1 h3 hj, rowsD_ga hi, dr3_ga h2 h1 h3 hj]
 generalize hv : ((if j = kP d (ga d.crs i).b then (2 : Int) else 0) + if j = kP d (ga d.crs i).a then p - 1 else 0) + (if j = kP d (ga d.crs i).c then p - 1 else 0) = v
 have g1 : p ∣ v - v % p := Int.dvd_self_sub_emod
 have g2 : p ∣ (if j = kP d (ga d.crs i).a then p else 0) + (if j = kP d (ga d.crs i).c then p else 0) := by
  refine Int.dvd_add ?_ ?_
  ·split
   ·exact Int.dvd_refl p
   ·exact Int.dvd_zero p
  ·split
   ·exact Int.dvd_refl p
   ·exact Int.dvd_zero p
 refine Fx.U16 g2 g1 ?_
 subst hv
 split <;> split <;> split <;> omega
noncomputable def foxD (d : Dg) (p : Int) : Int := (mny d : Int) - (Fx.ldc p (mny d) (U20 d).length (Fx.tf (U20 d)) (mny d) : Nat) + d.loops
theorem fox_same {d : Dg} {p : Int} (hab : Ue d = true) : foxN d p = foxD d p := by unfold foxN foxD; rw [rows_law hab]
noncomputable def Z34 := Try.f43.body.getD .skip
set_option maxHeartbeats 2000000 in
set_option maxRecDepth 10000 in
theorem FoxOf_t {w : World} {M : Hp} {X : Fr} (d : Dg) {dcrsA : Option Addr} {dcrsc : Nat} (p : Int) (hdcrs : RdA cdCr (M.un X.h) dcrsA dcrsc d.crs) (hn : d.crs.length ≤ 16) (hab : Ue d = true) (hlo : 0 ≤ d.loops ∧ d.loops ≤ 16) (hp : U1t p = true) (S : SH w M X []) : Ct Try.prog 43 [.agg [.slice dcrsA d.crs.length dcrsc, .int .i64 d.loops].toArray, .int .i64 p] w M X (fun u _ => u = .int .i64 (foxD d p)) := by
 unfold Ct
 have rmhdcrs : d.crs.length * 40 ≤ 140737488355328 := hdcrs.room
 have hpI := U1s hp
 have hpe : ((p.toNat : Nat) : Int) = p := Int.toNat_of_nonneg (by omega)
 have hpP : Fx.U2a p.toNat = true ∧ p.toNat ≤ 97 := ⟨prim_N hp, by omega⟩
 refine U7 (b := Z34) Try.func43 rfl Try.ntmps43 rfl (fun C hC => (zzwsk [0, 1] rfl (zzsR (zzwU rfl (Uv (l := [_, _]) rfl rfl rfl rfl rfl S ?_)))))
 intro gb1 w1 S1; clear S
 refine zzmv 1 rfl (zzeR [1, 2] rfl (zzwr rfl (Ut [_, _] rfl uT51 sz51 (S1.bs 0 rfl rfl)) (zzwU rfl (wo_ct rfl rfl rfl rfl rfl rfl rfl cf79 S1 (OversOf_t d (hdcrs.mono S1.Uj) ((by omega)) (hab) S1.lend) ?_))))
 intro vw2 w2 M1 hle1 S2 hRw2; clear S1
 replace hdcrs := hdcrs.mono (Hp.U0 hle1 S2.mx)
 obtain ⟨A1, c1, rfl, hr1⟩ := hRw2
 have hovl : (U12 d).length = 2 * d.crs.length := by simp [U12]
 refine zzmv 1 rfl (zzeR [1, 2, 5] rfl (zzmv 1 rfl (zzwU rfl (U26 rfl rfl rfl rfl rfl rfl rfl cf80 S2 (mostOf_q (U12 d) (hr1.mono (Hp.le_un _ _)) ((ovTail_bd hab (by omega))) S2.lend) ?_))))
 rintro _ w3 S3 rfl; clear S2
 refine zzmv 1 rfl (zzeS [1, 2, 5, 6] rfl ?_)
 have hmb := rk_bd d (2 * d.crs.length + 1)
 have hmn : mostN (U12 d) (U12 d).length = (mny d : Int) := by rw [hovl, most_ov hab _ (Nat.le_refl _)]; unfold mny; omega
 have hmn2 : mny d ≤ 33 := by unfold mny; omega
 refine ws_eq 6 (.int .i64 (mny d : Int)) rfl (int_eq hmn) (zzrG (zzmv 1 rfl (zzeS [1, 2, 5, 6, 7] rfl (zzsR (zzmv 1 rfl (zzeE (U6 (zzbK ?_))))))))
 have S4 := S3.newtab0 U2; clear S3
 have S5 := S4.nilrow (cdV 36); clear S4
 refine U4 (fun mx_ ax_ wx_ => ∃ (i : Nat) (vs0 : List SlV) (xs0 : List (List Int)) (vrl : Value), mx_ = d.crs.length - i ∧ Env 171 [(1, .int .i64 p), (2, .pointer (some ⟨gb1, 0, none⟩)), (5, .slice A1 (U12 d).length c1), (6, .int .i64 (mny d : Int)), (7, vrl), (8, .int .i64 (i : Int))] ax_ ∧ SH wx_ M1 X [Rs.row (cdV 36) vrl vs0, Rs.tab U2 vs0 xs0, Rs.box gb1 51 [.slice dcrsA d.crs.length dcrsc, .int .i64 d.loops]] ∧ i ≤ d.crs.length ∧ xs0 = (U20 d).take i) rfl ?_ ?_
 ·intro ax_ hax_
  refine ⟨_, ⟨0, [], [], _, rfl, hax_.su rfl, S5.pick [0, 1, 2] [_, _, _] (by decide) ⟨rfl, rfl, rfl, trivial⟩, ?hq1f0, ?hq1f1⟩⟩
  case hq1f0 => omega
  case hq1f1 => rfl
 ·rintro m1 a1 w4 ⟨i, vs0, xs0, vrl, rfl, he1, S6, hi, hx0⟩
  clear S5
  refine zziN he1 ?_
  clear he1 a1
  have hvl : vs0.length = xs0.length := S6.tablen (i := 1) rfl
  have hxl : xs0.length = i := by rw [hx0, List.length_take, U1n]; omega
  have hba := fun h => Uq hab (i := i) h (k := 0) (by omega)
  have hbb := fun h => Uq hab (i := i) h (k := 1) (by omega)
  have hbc := fun h => Uq hab (i := i) h (k := 2) (by omega)
  refine zzsS (zzsR (zzmv 1 rfl (zzwr rfl (zzfa rfl uT51 rfl ce49 nf49) (zzwr rfl (zzld1 rfl uT49 (S6.bc 2 rfl rfl)) (zzwr rfl (zzln rfl uT49) (zzmv 1 rfl (zzeT [1, 2, 5, 6, 7, 8, 27] rfl ?_)))))))
  refine zzcD rfl (fun hb27 => ?_) (fun hb27 => ?_)
  ·refine zzsK (zznS [1, 2, 5, 6, 7, 8] rfl (zzbK (zzsR (zzwr rfl (zzfa rfl uT51 rfl ce49 nf49) (zzwr rfl (zzld1 rfl uT49 (S6.bc 2 rfl rfl)) (zzmv 1 rfl (zzwr rfl (Ux i rfl sl49 hdcrs) (zzwr rfl (Ut [_, _, _, _, _] rfl uT111 sz111 (hdcrs.U1p S6.um (e := i) (by first | omega | (simp only [ls]; omega)) (j := 0) ⟨rfl, rfl, rfl, rfl, rfl, trivial⟩)) ?_))))))))
   refine zzwU rfl (Uk (l := [_, _, _, _, _]) rfl rfl rfl zr111 rfl S6 ?_)
   intro gb2 w5 S7; clear S6
   refine zzwU rfl (U1q 0 [_, _, _, _, _] [_, _, _, _, _] [_, _, _, _] rfl S7 rfl rfl sz111 rfl rfl ?_)
   intro w6 S8; clear S7
   refine zzeR [1, 2, 5, 6, 7, 8, 9] rfl (zzmv 1 rfl (zzwU rfl (U1y (C := U2) (mny d) rfl rfl rfl rfl rfl sl36 (by first | rfl | omega) (by show _ * 8 ≤ _; first | omega | (simp only [ls]; omega)) S8 ?_)))
   intro vr2 w7 S9; clear S8
   refine zzmv 1 rfl (zzeS [1, 2, 5, 6, 7, 8, 9, 10] rfl ?_)
   obtain ⟨ha1, ha2⟩ := hba (by omega)
   obtain ⟨hb1, hb2⟩ := hbb (by omega)
   obtain ⟨hc1, hc2⟩ := hbc (by omega)
   change 1 ≤ (ga d.crs i).a at ha1
   change (ga d.crs i).a ≤ _ at ha2
   obtain ⟨ka1, ka2, ka4, ka5⟩ := kD_ok hab ⟨ha1, ha2⟩
   change 1 ≤ (ga d.crs i).b at hb1
   change (ga d.crs i).b ≤ _ at hb2
   obtain ⟨kb1, kb2, kb4, kb5⟩ := kD_ok hab ⟨hb1, hb2⟩
   change 1 ≤ (ga d.crs i).c at hc1
   change (ga d.crs i).c ≤ _ at hc2
   obtain ⟨kc1, kc2, kc4, kc5⟩ := kD_ok hab ⟨hc1, hc2⟩
   have hz1 : ga (List.replicate (mny d) U2.z) (kP d (ga d.crs i).b) = 0 := U24 _ _ _ kb4
   refine zzrG (zzmv 2 rfl (zzwr rfl (zzfa rfl uT111 rfl ce3 nf3) (zzwr rfl (zzld1 rfl uT3 (S9.bc 1 rfl rfl)) (zzwr rfl (U1o rfl rfl rfl (by first | omega | (simp only [ls]; omega))) ?_))))
   refine zzwr rfl (Ux ((((ga d.crs i).b) - 1).toNat) rfl sl36 hr1) (zzwr rfl (zzld1 rfl uT3 (hr1.cell S9.m (i := (((ga d.crs i).b) - 1).toNat) (by first | omega | (simp only [ls]; omega)) 0 rfl rfl)) ?_)
   refine wl_eq 43 (.int .i64 (kP d (ga d.crs i).b : Int)) rfl (int_eq kb5) (zzwr rfl (Uc (i := 0) (kP d (ga d.crs i).b) rfl sl36 S9 rfl) (zzwr rfl (zzld1 rfl uT3 (S9.rowc (i := 0) (e := kP d (ga d.crs i).b) (j := 0) rfl (by first | omega | (simp only [ls]; omega)) rfl rfl)) ?_))
   refine zzwr rfl (U1 rfl) (zzwr rfl (Uc (i := 0) (kP d (ga d.crs i).b) rfl sl36 S9 rfl) (zzwU rfl (Ub (C := U2) (i := 0) (e := kP d (ga d.crs i).b) (j := 0) (us := [_]) (H' := [_, _, _, _, _]) ((ga (List.replicate (mny d) U2.z) (kP d (ga d.crs i).b)) + 2) rfl rfl S9 rfl (by first | omega | (simp only [ls]; omega)) rfl rfl rfl sz3 rfl rfl rfl rfl ?_)))
   intro w8 S10; clear S9
   refine zzeS [1, 2, 5, 6, 7, 8, 9, 10] rfl ?_
   have hrc1 : (List.replicate (mny d) U2.z).set (kP d (ga d.crs i).b) ((ga (List.replicate (mny d) U2.z) (kP d (ga d.crs i).b)) + 2) = (dr1 d i) := rfl
   rw [hrc1] at S10; clear hrc1
   have hl1 := dr1_len d i
   have hy1 := dr1_ga kb4 ka4
   have hy2 := ite01 (kP d (ga d.crs i).a = kP d (ga d.crs i).b) 2
   refine zzrG (zzmv 2 rfl (zzwr rfl (zzfa rfl uT111 rfl ce3 nf3) (zzwr rfl (zzld1 rfl uT3 (S10.bc 1 rfl rfl)) (zzwr rfl (U1o rfl rfl rfl (by first | omega | (simp only [ls]; omega))) ?_))))
   refine zzwr rfl (Ux ((((ga d.crs i).a) - 1).toNat) rfl sl36 hr1) (zzwr rfl (zzld1 rfl uT3 (hr1.cell S10.m (i := (((ga d.crs i).a) - 1).toNat) (by first | omega | (simp only [ls]; omega)) 0 rfl rfl)) ?_)
   refine wl_eq 54 (.int .i64 (kP d (ga d.crs i).a : Int)) rfl (int_eq ka5) (zzwr rfl (Uc (i := 0) (kP d (ga d.crs i).a) rfl sl36 S10 rfl) (zzwr rfl (zzld1 rfl uT3 (S10.rowc (i := 0) (e := kP d (ga d.crs i).a) (j := 0) rfl (by first | omega | (simp only [ls]; omega)) rfl rfl)) ?_))
   refine zzwr rfl (U1o rfl rfl rfl (by first | omega | (simp only [ls]; omega))) ?_
   refine zzwr rfl (Uc (i := 0) (kP d (ga d.crs i).a) rfl sl36 S10 rfl) (zzwU rfl (Ub (C := U2) (i := 0) (e := kP d (ga d.crs i).a) (j := 0) (us := [_]) (H' := [_, _, _, _, _]) ((ga (dr1 d i) (kP d (ga d.crs i).a)) - 1) rfl rfl S10 rfl (by first | omega | (simp only [ls]; omega)) rfl rfl rfl sz3 rfl rfl rfl rfl ?_))
   intro w9 S11; clear S10
   refine zzeS [1, 2, 5, 6, 7, 8, 9, 10] rfl ?_
   have hrc2 : (dr1 d i).set (kP d (ga d.crs i).a) ((ga (dr1 d i) (kP d (ga d.crs i).a)) - 1) = (dr2 d i) := rfl
   rw [hrc2] at S11; clear hrc2
   have hl2 := dr2_len d i
   have hy3 := dr2_ga kb4 ka4 kc4
   have hy4 := ite01 (kP d (ga d.crs i).c = kP d (ga d.crs i).b) 2
   have hy5 := ite01 (kP d (ga d.crs i).c = kP d (ga d.crs i).a) (-1)
   refine zzrG (zzmv 2 rfl (zzwr rfl (zzfa rfl uT111 rfl ce3 nf3) (zzwr rfl (zzld1 rfl uT3 (S11.bc 1 rfl rfl)) (zzwr rfl (U1o rfl rfl rfl (by first | omega | (simp only [ls]; omega))) ?_))))
   refine zzwr rfl (Ux ((((ga d.crs i).c) - 1).toNat) rfl sl36 hr1) (zzwr rfl (zzld1 rfl uT3 (hr1.cell S11.m (i := (((ga d.crs i).c) - 1).toNat) (by first | omega | (simp only [ls]; omega)) 0 rfl rfl)) ?_)
   refine wl_eq 65 (.int .i64 (kP d (ga d.crs i).c : Int)) rfl (int_eq kc5) (zzwr rfl (Uc (i := 0) (kP d (ga d.crs i).c) rfl sl36 S11 rfl) (zzwr rfl (zzld1 rfl uT3 (S11.rowc (i := 0) (e := kP d (ga d.crs i).c) (j := 0) rfl (by first | omega | (simp only [ls]; omega)) rfl rfl)) ?_))
   refine zzwr rfl (U1o rfl rfl rfl (by first | omega | (simp only [ls]; omega))) ?_
   refine zzwr rfl (Uc (i := 0) (kP d (ga d.crs i).c) rfl sl36 S11 rfl) (zzwU rfl (Ub (C := U2) (i := 0) (e := kP d (ga d.crs i).c) (j := 0) (us := [_]) (H' := [_, _, _, _, _]) ((ga (dr2 d i) (kP d (ga d.crs i).c)) - 1) rfl rfl S11 rfl (by first | omega | (simp only [ls]; omega)) rfl rfl rfl sz3 rfl rfl rfl rfl ?_))
   intro w10 S12; clear S11
   refine zzeT [1, 2, 5, 6, 7, 8, 10] rfl ?_
   have hrc3 : (dr2 d i).set (kP d (ga d.crs i).c) ((ga (dr2 d i) (kP d (ga d.crs i).c)) - 1) = (dr3 d i) := rfl
   rw [hrc3] at S12; clear hrc3
   have hl3 := dr3_len d i
   refine zzrG (zzmv 2 rfl ?_)
   obtain ⟨A2, c2, rfl, _⟩ := S12.sl (i := 0) rfl
   have S13 := S12.tabsnoc (C := U2) (zs := (dr3 d i)) (i := 3) (q := 0) (H' := [_, _, _, _, _]) rfl rfl (by decide) rfl; clear S12
   refine zzwU rfl (Uh (C := (cdV 36)) (l := [_]) rfl rfl rfl rfl sl69 rfl rfl rfl rfl S13 ?_)
   intro gb3 w11 S14; clear S13
   refine zzwU rfl (Uy (C := (cdV 36)) (i := 3) (q := 0) (⟨A2, (dr3 d i).length, c2⟩ : SlV) rfl rfl rfl rfl rfl rfl rfl rfl sl69 S14 rfl rfl rfl (by show (_ + 1) * 24 ≤ _; first | omega | (simp only [ls]; omega)) ?_)
   intro vrl1 w12 S15; clear S14
   have S16 := S15.pick [1, 2, 3, 4, 5] [_, _, _, _, _] (by decide) ⟨rfl, rfl, rfl, rfl, rfl, trivial⟩; clear S15
   refine zzmv 1 rfl (zzeE (U8 (zznT [1, 2, 5, 6, 7, 8] rfl (zzrG (zzmv 1 rfl (zzwr rfl (U1 rfl) (zzmv 1 rfl (zzeE ?_))))))))
   refine Uf ?_
   intro ax_ hax_
   refine ⟨_, ?hq2m, ⟨i + 1, vs0 ++ [(⟨A2, (dr3 d i).length, c2⟩ : SlV)], xs0 ++ [(dr3 d i)], _, rfl, hax_.su rfl, S16.pick [2, 3, 4] [_, _, _] (by decide) ⟨rfl, rfl, rfl, trivial⟩, ?hq2f0, ?hq2f1⟩⟩
   case hq2f0 => omega
   case hq2f1 => (rw [take_ga _ i (by rw [U1n]; omega), ← hx0, rowsD_ga (by omega)])
   case hq2m => omega
  ·refine zzxE rfl (zznS [1, 2, 6, 7] rfl ?_)
   have hie : xs0 = (U20 d) := by rw [hx0, List.take_of_length_le (by rw [U1n]; omega)]
   have hrl := U1n d
   rw [hie] at S6 hvl
   refine zzrG (zzmv 1 rfl (zzwr rfl (zzlnR (i := 0) rfl sl69 S6 rfl) (zzwU rfl (U1y (C := U1g) vs0.length rfl rfl rfl rfl rfl sl118 (by first | rfl | omega) (by show _ * 1 ≤ _; first | omega | (simp only [ls]; omega)) S6 ?_))))
   intro vr3 w13 S17; clear S6
   refine zzmv 1 rfl (zzeR [1, 2, 6, 7, 11] rfl (zzmv 2 rfl (zzeS [1, 2, 6, 7, 11, 12] rfl (zzsR (zzmv 1 rfl (zzeE (U6 (zzbK ?_))))))))
   refine U4 (fun mx_ ax_ wx_ => ∃ (c : Nat) (fr : Nat) (us : List Bool) (tb : List (List Int)) (vru : Value), mx_ = mny d - c ∧ Env 171 [(1, .int .i64 p), (2, .pointer (some ⟨gb1, 0, none⟩)), (6, .int .i64 (mny d : Int)), (7, vrl), (11, vru), (12, .int .i64 (fr : Int)), (13, .int .i64 (c : Int))] ax_ ∧ SH wx_ M1 X [Rs.row U1g vru us, Rs.row (cdV 36) vrl vs0, Rs.tab U2 vs0 tb, Rs.box gb1 51 [.slice dcrsA d.crs.length dcrsc, .int .i64 d.loops]] ∧ Fx.FD p (mny d) (U20 d) tb us c fr ∧ c ≤ mny d) rfl ?_ ?_
   ·intro ax_ hax_
    refine ⟨_, ⟨0, mny d, _, (U20 d), _, rfl, hax_.su rfl, S17.pick [0, 1, 2, 3] [_, _, _, _] (by decide) ⟨rfl, rfl, rfl, rfl, trivial⟩, ?hq3f0, ?hq3f1⟩⟩
    case hq3f0 => exact Fx.FD.start (by rw [show vs0.length = (U20 d).length by omega]; rfl) rowsD_rl (rowsD_bd hab)
    case hq3f1 => omega
   ·rintro m2 a2 w14 ⟨c, fr, us, tb, vru, rfl, he2, S18, hF, hcm⟩
    clear S17
    refine zziN he2 ?_
    clear he2 a2
    have hfrm : fr ≤ mny d := by have := hF.cnt; omega
    have hul := hF.ul
    have htl := hF.len
    have hrow := hF.row
    have hbnd := hF.bnd
    refine zzsS (zzsR (zzmv 3 rfl (zzeT [1, 2, 6, 7, 11, 12, 13, 80] rfl ?_)))
    refine zzcD rfl (fun hb80 => ?_) (fun hb80 => ?_)
    ·refine zzsK (zznS [1, 2, 6, 7, 11, 12, 13] rfl (zzbK (zzsR (zzmv 1 rfl (zzeE (zztS (zzsR (zzmv 1 rfl ?_))))))))
     refine zzeE (U6 (zzbK ?_))
     refine U4 (fun mx_ ax_ wx_ => ∃ (k : Nat) (wh : Int), mx_ = d.crs.length - k ∧ Env 171 [(1, .int .i64 p), (2, .pointer (some ⟨gb1, 0, none⟩)), (6, .int .i64 (mny d : Int)), (7, vrl), (11, vru), (12, .int .i64 (fr : Int)), (13, .int .i64 (c : Int)), (14, .int .i64 wh), (15, .int .i64 (k : Int))] ax_ ∧ SH wx_ M1 X [Rs.row U1g vru us, Rs.row (cdV 36) vrl vs0, Rs.tab U2 vs0 tb, Rs.box gb1 51 [.slice dcrsA d.crs.length dcrsc, .int .i64 d.loops]] ∧ k ≤ d.crs.length ∧ Fx.Fnd p tb us c k wh ∧ -1 ≤ wh) rfl ?_ ?_
     ·intro ax_ hax_
      refine ⟨_, ⟨0, -1, rfl, hax_.su rfl, S18.pick [0, 1, 2, 3] [_, _, _, _] (by decide) ⟨rfl, rfl, rfl, rfl, trivial⟩, ?hq4f0, ?hq4f1, ?hq4f2⟩⟩
      case hq4f0 => omega
      case hq4f1 => exact Fx.Fnd.zero p tb us c
      case hq4f2 => omega
     ·rintro m3 a3 w15 ⟨k, wh, rfl, he3, S19, hk, hfd, hwh⟩
      clear S18
      refine zziN he3 ?_
      clear he3 a3
      have hrowk := hrow k
      refine zzsS (zzsR (zzmv 2 rfl (zzwr rfl (zzlnR (i := 1) rfl sl69 S19 rfl) (zzmv 1 rfl (zzeT [1, 2, 6, 7, 11, 12, 13, 14, 15, 86] rfl ?_)))))
      refine zzcD rfl (fun hb86 => ?_) (fun hb86 => ?_)
      ·refine zzsK (zznS [1, 2, 6, 7, 11, 12, 13, 14, 15] rfl (zzbK (zzsR (zzmv 2 rfl (zzwr rfl (Uc (i := 0) k rfl sl118 S19 rfl) (zzwr rfl (zzld1 rfl uT4 (S19.rowc (i := 0) (e := k) (j := 0) rfl (by first | omega | (simp only [ls]; omega)) rfl rfl)) ?_))))))
       refine zzmv 2 rfl ?_
       refine wl_split (t := 94) rfl (fun hg94 => ?_) (fun hg94 => ?_)
       ·simp only [Bool.and_eq_true, Bool.or_eq_true, Bool.and_eq_false_iff, Bool.or_eq_false_iff, decide_eq_true_eq, decide_eq_false_iff_not, Bool.not_eq_true', Bool.not_eq_false'] at hg94
        refine zzmv 2 rfl (zzwg rfl (Uc (i := 1) k rfl sl69 S19 rfl) (zzwg rfl (zzld1 rfl uT36 (S19.rowc (i := 1) (e := k) (j := 0) rfl (by first | omega | (simp only [ls]; omega)) rfl rfl)) ?_))
        refine zzmv 1 rfl (zzwg rfl (Uz (C := U2) (vs := vs0) (xss := tb) (i := 2) k c rfl rfl rfl rfl sl36 S19 rfl (by first | omega | (simp only [ls]; omega) | (rw [U3 _ _ _ _ (by first | omega | (simp only [List.length_set]; omega)), if_pos rfl]; simp only [List.length_set]; omega)) (by first | rfl | omega) (by first | omega | (simp only [ls]; omega) | (rw [U3 _ _ _ _ (by first | omega | (simp only [List.length_set]; omega)), if_pos rfl]; simp only [List.length_set]; omega))) ?_)
        refine zzwg rfl (zzld1 rfl uT3 (S19.tabc (i := 2) (k := k) (e := c) (j := 0) rfl (by first | omega | (simp only [ls]; omega) | (rw [U3 _ _ _ _ (by first | omega | (simp only [List.length_set]; omega)), if_pos rfl]; simp only [List.length_set]; omega)) (by first | omega | (simp only [ls]; omega) | (rw [U3 _ _ _ _ (by first | omega | (simp only [List.length_set]; omega)), if_pos rfl]; simp only [List.length_set]; omega)) rfl rfl)) ?_
        refine zzmv 1 rfl (zzwg rfl (run_trem rfl rfl rfl (by omega)) ?_)
        refine zzmv 3 rfl ?_
        refine Um (t := 106) rfl (fun hg106 => ?_) (fun hg106 => ?_)
        ·refine zzmv 3 rfl (zzeT [1, 2, 6, 7, 11, 12, 13, 14, 15, 109] rfl ?_)
         refine zzcD rfl (fun hb109 => ?_) (fun hb109 => ?_)
         ·refine zzrG (zzmv 2 rfl (zzeE (U8 (zznT [1, 2, 6, 7, 11, 12, 13, 14, 15] rfl (zzrG (zzmv 1 rfl (zzwr rfl (U1 rfl) (zzmv 1 rfl ?_))))))))
          refine zzeE (Uf ?_)
          intro ax_ hax_
          refine ⟨_, ?hq5m, ⟨k + 1, (k : Int), rfl, hax_.su rfl, S19.pick [0, 1, 2, 3] [_, _, _, _] (by decide) ⟨rfl, rfl, rfl, rfl, trivial⟩, ?hq5f0, ?hq5f1, ?hq5f2⟩⟩
          case hq5f0 => omega
          case hq5f1 => first | exact hfd.skip (.inl (by omega)) | exact hfd.skip (.inr (.inl (by assumption))) | exact hfd.skip (.inr (.inr (by omega))) | exact Fx.Fnd.hit (wh := wh) (by assumption) (by assumption) | (exact hfd.skip (.inr (.inl (by simp_all)))) | exact Fx.Fnd.hit (wh := wh) (by simp_all) (by omega)
          case hq5f2 => omega
          case hq5m => omega
         ·refine zzsK (U8 (zznT [1, 2, 6, 7, 11, 12, 13, 14, 15] rfl (zzrG (zzmv 1 rfl (zzwr rfl (U1 rfl) (zzmv 1 rfl (zzeE (Uf ?_))))))))
          intro ax_ hax_
          refine ⟨_, ?hq6m, ⟨k + 1, wh, rfl, hax_.su rfl, S19.pick [0, 1, 2, 3] [_, _, _, _] (by decide) ⟨rfl, rfl, rfl, rfl, trivial⟩, ?hq6f0, ?hq6f1, ?hq6f2⟩⟩
          case hq6f0 => omega
          case hq6f1 => first | exact hfd.skip (.inl (by omega)) | exact hfd.skip (.inr (.inl (by assumption))) | exact hfd.skip (.inr (.inr (by omega))) | exact Fx.Fnd.hit (wh := wh) (by assumption) (by assumption) | (exact hfd.skip (.inr (.inl (by simp_all)))) | exact Fx.Fnd.hit (wh := wh) (by simp_all) (by omega)
          case hq6f2 => omega
          case hq6m => omega
        ·refine zzmv 3 rfl (zzeT [1, 2, 6, 7, 11, 12, 13, 14, 15, 109] rfl (zzcF (zzsK (U8 (zznT [1, 2, 6, 7, 11, 12, 13, 14, 15] rfl (zzrG (zzmv 1 rfl (zzwr rfl (U1 rfl) ?_))))))))
         refine zzmv 1 rfl (zzeE (Uf ?_))
         intro ax_ hax_
         refine ⟨_, ?hq7m, ⟨k + 1, wh, rfl, hax_.su rfl, S19.pick [0, 1, 2, 3] [_, _, _, _] (by decide) ⟨rfl, rfl, rfl, rfl, trivial⟩, ?hq7f0, ?hq7f1, ?hq7f2⟩⟩
         case hq7f0 => omega
         case hq7f1 => first | exact hfd.skip (.inl (by omega)) | exact hfd.skip (.inr (.inl (by assumption))) | exact hfd.skip (.inr (.inr (by omega))) | exact Fx.Fnd.hit (wh := wh) (by assumption) (by assumption) | (exact hfd.skip (.inr (.inl (by simp_all)))) | exact Fx.Fnd.hit (wh := wh) (by simp_all) (by omega)
         case hq7f2 => omega
         case hq7m => omega
       ·simp only [Bool.and_eq_true, Bool.or_eq_true, Bool.and_eq_false_iff, Bool.or_eq_false_iff, decide_eq_true_eq, decide_eq_false_iff_not, Bool.not_eq_true', Bool.not_eq_false'] at hg94
        refine zzmv 6 rfl (zzmv 6 rfl (zzmv 3 rfl (zzeT [1, 2, 6, 7, 11, 12, 13, 14, 15, 109] rfl (zzcF (zzsK (U8 (zznT [1, 2, 6, 7, 11, 12, 13, 14, 15] rfl (zzrG ?_))))))))
        refine zzmv 1 rfl (zzwr rfl (U1 rfl) (zzmv 1 rfl (zzeE (Uf ?_))))
        intro ax_ hax_
        refine ⟨_, ?hq8m, ⟨k + 1, wh, rfl, hax_.su rfl, S19.pick [0, 1, 2, 3] [_, _, _, _] (by decide) ⟨rfl, rfl, rfl, rfl, trivial⟩, ?hq8f0, ?hq8f1, ?hq8f2⟩⟩
        case hq8f0 => omega
        case hq8f1 => first | exact hfd.skip (.inl (by omega)) | exact hfd.skip (.inr (.inl (by assumption))) | exact hfd.skip (.inr (.inr (by omega))) | exact Fx.Fnd.hit (wh := wh) (by assumption) (by assumption) | (exact hfd.skip (.inr (.inl (by simp_all)))) | exact Fx.Fnd.hit (wh := wh) (by simp_all) (by omega)
        case hq8f2 => omega
        case hq8m => omega
      ·refine zzxE rfl (zznS [1, 2, 6, 7, 11, 12, 13, 14] rfl (zzsR (zzmv 2 rfl (zzeT [1, 2, 6, 7, 11, 12, 13, 14, 112] rfl ?_))))
       refine zzcD rfl (fun hb112 => ?_) (fun hb112 => ?_)
       ·refine zzxE rfl (zznT [1, 2, 6, 7, 11, 12, 13] rfl (zzrG (zzmv 1 rfl (zzwr rfl (U1 rfl) (zzmv 1 rfl (zzeE (Uf ?_)))))))
        intro ax_ hax_
        refine ⟨_, ?hq9m, ⟨c + 1, fr, us, tb, _, rfl, hax_.su rfl, S19.pick [0, 1, 2, 3] [_, _, _, _] (by decide) ⟨rfl, rfl, rfl, rfl, trivial⟩, ?hq9f0, ?hq9f1⟩⟩
        case hq9f0 => exact hF.pass hpI.1 (by omega) (fun j hj => hfd.none_ (by omega) j (by omega))
        case hq9f1 => omega
        case hq9m => omega
       ·obtain ⟨o, hw1, hw2, hw3, hw4⟩ := hfd.some_ (by omega)
        refine ws_eq 14 (.int .i64 (o : Int)) rfl (int_eq hw1) ?_
        replace hw2 : o < (U20 d).length := by omega
        have hno : ¬ p ∣ ga (ga tb o) c := fun x => hw4 (Fx.tm_zero.2 x)
        have hrowo := hrow o hw2
        have hbo := hbnd o hw2
        refine zzsK (zznR [1, 2, 6, 7, 11, 12, 13, 14] rfl (zzmv 2 rfl (zzwr rfl (Uc (i := 0) o rfl sl118 S19 rfl) (zzwU rfl (Ub (C := U1g) (i := 0) (e := o) (j := 0) (us := [_]) (H' := [_, _, _, _]) true rfl rfl S19 rfl (by first | omega | (simp only [ls]; omega)) rfl rfl rfl sz4 rfl rfl rfl rfl ?_)))))
        intro w16 S20; clear S19
        refine zzeR [1, 2, 6, 7, 11, 12, 13, 14] rfl (zzmv 1 rfl (zzwr rfl (U1o rfl rfl rfl (by first | omega | (simp only [ls]; omega))) ?_))
        refine zzmv 1 rfl (zzeR [1, 2, 6, 7, 11, 12, 13, 14] rfl (zzmv 1 rfl (zzeE (U6 (zzbK ?_)))))
        refine U4 (fun mx_ ax_ wx_ => ∃ (k : Nat) (tk : List (List Int)), mx_ = d.crs.length - k ∧ Env 171 [(1, .int .i64 p), (2, .pointer (some ⟨gb1, 0, none⟩)), (6, .int .i64 (mny d : Int)), (7, vrl), (11, vru), (12, .int .i64 ((fr : Int) - 1)), (13, .int .i64 (c : Int)), (14, .int .i64 (o : Int)), (16, .int .i64 (k : Int))] ax_ ∧ SH wx_ M1 X [Rs.row U1g vru (us.set o true), Rs.row (cdV 36) vrl vs0, Rs.tab U2 vs0 tk, Rs.box gb1 51 [.slice dcrsA d.crs.length dcrsc, .int .i64 d.loops]] ∧ k ≤ d.crs.length ∧ Fx.FE p (mny d) (U20 d).length tb tk c o k) rfl ?_ ?_
        ·intro ax_ hax_
         refine ⟨_, ⟨0, tb, rfl, hax_.su rfl, S20.pick [0, 1, 2, 3] [_, _, _, _] (by decide) ⟨rfl, rfl, rfl, rfl, trivial⟩, ?hq10f0, ?hq10f1⟩⟩
         case hq10f0 => omega
         case hq10f1 => exact Fx.FE.start hF
        ·rintro m4 a4 w17 ⟨k, tk, rfl, he4, S21, hk, hE⟩
         clear S20
         refine zziN he4 ?_
         clear he4 a4
         have hkl := hE.len
         have hko := hE.old o (by omega) (.inl rfl)
         refine zzsS (zzsR (zzmv 2 rfl (zzwr rfl (zzlnR (i := 1) rfl sl69 S21 rfl) (zzmv 1 rfl (zzeT [1, 2, 6, 7, 11, 12, 13, 14, 16, 121] rfl ?_)))))
         refine zzcD rfl (fun hb121 => ?_) (fun hb121 => ?_)
         ·refine zzsK (zznS [1, 2, 6, 7, 11, 12, 13, 14, 16] rfl (zzbK (zzsS (zzsR (zzmv 3 rfl (zzeT [1, 2, 6, 7, 11, 12, 13, 14, 16, 126] rfl ?_))))))
          refine zzcD rfl (fun hb126 => ?_) (fun hb126 => ?_)
          ·refine zzxE rfl (zznT [1, 2, 6, 7, 11, 12, 13, 14, 16] rfl (zzrG (zzmv 1 rfl (zzwr rfl (U1 rfl) (zzmv 1 rfl (zzeE (Uf ?_)))))))
           intro ax_ hax_
           refine ⟨_, ?hq11m, ⟨k + 1, tk, rfl, hax_.su rfl, S21.pick [0, 1, 2, 3] [_, _, _, _] (by decide) ⟨rfl, rfl, rfl, rfl, trivial⟩, ?hq11f0, ?hq11f1⟩⟩
           case hq11f0 => omega
           case hq11f1 => exact hE.skip (by omega)
           case hq11m => omega
          ·obtain ⟨N, hN1, hN2⟩ := Fx.times_ex hpP.1 hpP.2 (ga (ga tb k) c) (ga (ga tb o) c) (by rw [hpe]; exact hno)
           rw [hpe] at hN1
           refine zzsK (zznR [1, 2, 6, 7, 11, 12, 13, 14, 16] rfl (zzmv 1 rfl (zzeE (U6 (zzbK ?_)))))
           refine U4 (fun mx_ ax_ wx_ => ∃ (T : Nat) (tv : Int) (te : List (List Int)), mx_ = N - T ∧ Env 171 [(1, .int .i64 p), (2, .pointer (some ⟨gb1, 0, none⟩)), (6, .int .i64 (mny d : Int)), (7, vrl), (11, vru), (12, .int .i64 ((fr : Int) - 1)), (13, .int .i64 (c : Int)), (14, .int .i64 (o : Int)), (16, .int .i64 (k : Int)), (17, .int .i64 tv)] ax_ ∧ SH wx_ M1 X [Rs.row U1g vru (us.set o true), Rs.row (cdV 36) vrl vs0, Rs.tab U2 vs0 te, Rs.box gb1 51 [.slice dcrsA d.crs.length dcrsc, .int .i64 d.loops]] ∧ T ≤ N ∧ Fx.RD p (mny d) (U20 d).length tb tk te o k T) rfl ?_ ?_
           ·intro ax_ hax_
            refine ⟨_, ⟨0, 0, tk, rfl, hax_.su rfl, S21.pick [0, 1, 2, 3] [_, _, _, _] (by decide) ⟨rfl, rfl, rfl, rfl, trivial⟩, ?hq12f0, ?hq12f1⟩⟩
            case hq12f0 => omega
            case hq12f1 => exact Fx.RD.start hE (by omega)
           ·rintro m5 a5 w18 ⟨T, tv, te, rfl, he5, S22, hT, hR⟩
            clear S21
            refine zziN he5 ?_
            clear he5 a5
            have hel := hR.len
            have herl := hR.rl
            have heo : ga te o = ga tb o := by rw [hR.oth o (by omega) (by omega)]; exact hko
            have heol : (ga te o).length = mny d := by rw [heo]; exact hrowo
            have hbe := hR.bd
            refine zzsS (zzsR (zzmv 2 rfl (zzwr rfl (Uc (i := 1) k rfl sl69 S22 rfl) (zzwr rfl (zzld1 rfl uT36 (S22.rowc (i := 1) (e := k) (j := 0) rfl (by first | omega | (simp only [ls]; omega)) rfl rfl)) ?_))))
            refine zzmv 1 rfl (zzwr rfl (Uz (C := U2) (vs := vs0) (xss := te) (i := 2) k c rfl rfl rfl rfl sl36 S22 rfl (by first | omega | (simp only [ls]; omega) | (rw [U3 _ _ _ _ (by first | omega | (simp only [List.length_set]; omega)), if_pos rfl]; simp only [List.length_set]; omega)) (by first | rfl | omega) (by first | omega | (simp only [ls]; omega) | (rw [U3 _ _ _ _ (by first | omega | (simp only [List.length_set]; omega)), if_pos rfl]; simp only [List.length_set]; omega))) ?_)
            refine zzwr rfl (zzld1 rfl uT3 (S22.tabc (i := 2) (k := k) (e := c) (j := 0) rfl (by first | omega | (simp only [ls]; omega) | (rw [U3 _ _ _ _ (by first | omega | (simp only [List.length_set]; omega)), if_pos rfl]; simp only [List.length_set]; omega)) (by first | omega | (simp only [ls]; omega) | (rw [U3 _ _ _ _ (by first | omega | (simp only [List.length_set]; omega)), if_pos rfl]; simp only [List.length_set]; omega)) rfl rfl)) ?_
            refine zzmv 1 rfl (zzwr rfl (run_trem rfl rfl rfl (by omega)) ?_)
            refine zzmv 1 rfl (zzeT [1, 2, 6, 7, 11, 12, 13, 14, 16, 17, 136] rfl ?_)
            refine zzcD rfl (fun hb136 => ?_) (fun hb136 => ?_)
            ·have hTN := hR.more (by omega) hN1 hT hb136
             refine zzsK (zznS [1, 2, 6, 7, 11, 12, 13, 14, 16, 17] rfl (zzbK (zzsR (zzmv 1 rfl (zzeE (U6 (zzbK ?_)))))))
             refine U4 (fun mx_ ax_ wx_ => ∃ (e : Nat) (tg : List (List Int)), mx_ = mny d - e ∧ Env 171 [(1, .int .i64 p), (2, .pointer (some ⟨gb1, 0, none⟩)), (6, .int .i64 (mny d : Int)), (7, vrl), (11, vru), (12, .int .i64 ((fr : Int) - 1)), (13, .int .i64 (c : Int)), (14, .int .i64 (o : Int)), (16, .int .i64 (k : Int)), (17, .int .i64 tv), (18, .int .i64 (e : Int))] ax_ ∧ SH wx_ M1 X [Rs.row U1g vru (us.set o true), Rs.row (cdV 36) vrl vs0, Rs.tab U2 vs0 tg, Rs.box gb1 51 [.slice dcrsA d.crs.length dcrsc, .int .i64 d.loops]] ∧ e ≤ mny d ∧ tg.length = (U20 d).length ∧ (∀ j, j < (U20 d).length → j ≠ k → ga tg j = ga te j) ∧ (ga tg k).length = mny d ∧ (∀ x, x < mny d → ga (ga tg k) x = if x < e then (ga (ga te k) x + ga (ga tb o) x).tmod p else ga (ga te k) x)) rfl ?_ ?_
             ·intro ax_ hax_
              refine ⟨_, ⟨0, te, rfl, hax_.su rfl, S22.pick [0, 1, 2, 3] [_, _, _, _] (by decide) ⟨rfl, rfl, rfl, rfl, trivial⟩, ?hq13f0, ?hq13f1, ?hq13f2, ?hq13f3, ?hq13f4⟩⟩
              case hq13f0 => omega
              case hq13f1 => exact hel
              case hq13f2 => (intro j _ _; rfl)
              case hq13f3 => exact herl
              case hq13f4 => (intro x hx; rw [if_neg (by omega)])
             ·rintro m6 a6 w19 ⟨e, tg, rfl, he6, S23, he, hgl, hgo, hgr, hgg⟩
              clear S22
              refine zziN he6 ?_
              clear he6 a6
              have hgo2 : ga tg o = ga tb o := by rw [hgo o (by omega) (by omega)]; exact heo
              have hgol : (ga tg o).length = mny d := by rw [hgo2]; exact hrowo
              have hv1 := fun h => hbe e h
              have hv2 := fun h => hbo e h
              have hv3 := hgg e
              refine zzsS (zzsR (zzmv 3 rfl (zzeT [1, 2, 6, 7, 11, 12, 13, 14, 16, 17, 18, 141] rfl ?_)))
              refine zzcD rfl (fun hb141 => ?_) (fun hb141 => ?_)
              ·refine zzsK (zznS [1, 2, 6, 7, 11, 12, 13, 14, 16, 17, 18] rfl (zzbK ?_))
               have hv4 := hv1 (by omega)
               have hv5 := hv2 (by omega)
               have hv6 := hv3 (by omega)
               rw [if_neg (by omega)] at hv6
               rw [← hgo2] at hv5
               refine zzdW S23 24 ?_
               clear S23
               refine zzmW 22 [0, 1] rfl (zzlW 2 rfl (fun hZz Sz => Uc (i := 1) k rfl sl69 Sz.suf rfl) (zzlW 3 rfl (fun hZz Sz => zzld1 rfl uT36 (Sz.suf.rowc (i := 1) (e := k) (j := 0) rfl (by first | omega | (simp only [ls]; omega)) rfl rfl)) ?_))
               refine zzmW 17 [4, 5, 6] rfl (zzlW 7 rfl (fun hZz Sz => Uc (i := 1) k rfl sl69 Sz.suf rfl) (zzlW 8 rfl (fun hZz Sz => zzld1 rfl uT36 (Sz.suf.rowc (i := 1) (e := k) (j := 0) rfl (by first | omega | (simp only [ls]; omega)) rfl rfl)) ?_))
               refine zzmW 14 [9] rfl (zzlW 10 rfl (fun hZz Sz => Uz (C := U2) (vs := vs0) (xss := tg) (i := 2) k e rfl rfl rfl rfl sl36 Sz.suf rfl (by first | omega | (simp only [ls]; omega) | (rw [U3 _ _ _ _ (by first | omega | (simp only [List.length_set]; omega)), if_pos rfl]; simp only [List.length_set]; omega)) (by first | rfl | omega) (by first | omega | (simp only [ls]; omega) | (rw [U3 _ _ _ _ (by first | omega | (simp only [List.length_set]; omega)), if_pos rfl]; simp only [List.length_set]; omega))) ?_)
               refine zzlW 11 rfl (fun hZz Sz => zzld1 rfl uT3 (Sz.suf.tabc (i := 2) (k := k) (e := e) (j := 0) rfl (by first | omega | (simp only [ls]; omega) | (rw [U3 _ _ _ _ (by first | omega | (simp only [List.length_set]; omega)), if_pos rfl]; simp only [List.length_set]; omega)) (by first | omega | (simp only [ls]; omega) | (rw [U3 _ _ _ _ (by first | omega | (simp only [List.length_set]; omega)), if_pos rfl]; simp only [List.length_set]; omega)) rfl rfl)) ?_
               refine zzmW 10 [12, 13] rfl (zzlW 14 rfl (fun hZz Sz => Uc (i := 1) o rfl sl69 Sz.suf rfl) (zzlW 15 rfl (fun hZz Sz => zzld1 rfl uT36 (Sz.suf.rowc (i := 1) (e := o) (j := 0) rfl (by first | omega | (simp only [ls]; omega)) rfl rfl)) ?_))
               refine zzmW 7 [16] rfl (zzlW 17 rfl (fun hZz Sz => Uz (C := U2) (vs := vs0) (xss := tg) (i := 2) o e rfl rfl rfl rfl sl36 Sz.suf rfl (by first | omega | (simp only [ls]; omega) | (rw [U3 _ _ _ _ (by first | omega | (simp only [List.length_set]; omega)), if_pos rfl]; simp only [List.length_set]; omega)) (by first | rfl | omega) (by first | omega | (simp only [ls]; omega) | (rw [U3 _ _ _ _ (by first | omega | (simp only [List.length_set]; omega)), if_pos rfl]; simp only [List.length_set]; omega))) ?_)
               refine zzlW 18 rfl (fun hZz Sz => zzld1 rfl uT3 (Sz.suf.tabc (i := 2) (k := o) (e := e) (j := 0) rfl (by first | omega | (simp only [ls]; omega) | (rw [U3 _ _ _ _ (by first | omega | (simp only [List.length_set]; omega)), if_pos rfl]; simp only [List.length_set]; omega)) (by first | omega | (simp only [ls]; omega) | (rw [U3 _ _ _ _ (by first | omega | (simp only [List.length_set]; omega)), if_pos rfl]; simp only [List.length_set]; omega)) rfl rfl)) ?_
               refine zzpW 19 rfl (U1 rfl) (zzmW 3 [20] rfl (zzpW 21 rfl (run_trem rfl rfl rfl (by omega)) ?_))
               refine zzlW 22 rfl (fun hZz Sz => Uz (C := U2) (vs := vs0) (xss := tg) (i := 2) k e rfl rfl rfl rfl sl36 Sz.suf rfl (by first | omega | (simp only [ls]; omega) | (rw [U3 _ _ _ _ (by first | omega | (simp only [List.length_set]; omega)), if_pos rfl]; simp only [List.length_set]; omega)) (by first | rfl | omega) (by first | omega | (simp only [ls]; omega) | (rw [U3 _ _ _ _ (by first | omega | (simp only [List.length_set]; omega)), if_pos rfl]; simp only [List.length_set]; omega))) ?_
               refine zzuW 23 rfl (fun w44 S48 => ((wo_storeT (C := U2) (vs := vs0) (xss := tg) (i := 2) (k := k) (e := e) (j := 0) (us := [_]) (H' := [_, _, _, _]) (Int.tmod (((ga (ga tg k) e) + (ga (ga tg o) e))) (p)) rfl rfl S48 rfl (by first | omega | (simp only [ls]; omega) | (rw [U3 _ _ _ _ (by first | omega | (simp only [List.length_set]; omega)), if_pos rfl]; simp only [List.length_set]; omega)) (by first | omega | (simp only [ls]; omega) | (rw [U3 _ _ _ _ (by first | omega | (simp only [List.length_set]; omega)), if_pos rfl]; simp only [List.length_set]; omega)) rfl rfl rfl sz3 rfl rfl rfl rfl ?_)))
               intro w45 S49; clear S48
               refine zzturnW S49 ?_; clear S49
               change WA _ _ _ _ _ _ _ _ _ _ _ _ [_, _, _, _]
               refine zzeW (fun w46 S50 => (U8 (zznT [1, 2, 6, 7, 11, 12, 13, 14, 16, 17, 18] rfl (zzrG (zzmv 1 rfl (zzwr rfl (U1 rfl) (zzmv 1 rfl (zzeE (Uf ?_)))))))))
               intro ax_ hax_
               refine ⟨_, ?hq14m, ⟨e + 1, tg.set k ((ga tg k).set e (Int.tmod (((ga (ga tg k) e) + (ga (ga tg o) e))) (p))), rfl, hax_.su rfl, S50.pick [0, 1, 2, 3] [_, _, _, _] (by decide) ⟨rfl, rfl, rfl, rfl, trivial⟩, ?hq14f0, ?hq14f1, ?hq14f2, ?hq14f3, ?hq14f4⟩⟩
               case hq14f0 => omega
               case hq14f1 => (rw [List.length_set]; exact hgl)
               case hq14f2 => (intro j hj hk9; rw [U3 _ _ _ _ (by omega), if_neg (by omega)]; exact hgo j hj hk9)
               case hq14f3 => (rw [U3 _ _ _ _ (by omega), if_pos rfl, List.length_set]; exact hgr)
               case hq14f4 => (intro x hx; rw [U3 _ _ _ _ (by omega), if_pos rfl, U3 _ _ _ _ (by omega)]; by_cases e9 : e = x; (subst e9; rw [if_pos rfl, if_pos (by omega), hgo2, hv6]); (rw [if_neg e9, hgg x hx]; by_cases h2 : x < e; (rw [if_pos h2, if_pos (by omega)]); (rw [if_neg h2, if_neg (by omega)])))
               case hq14m => omega
              ·refine zzxE rfl (U8 (zznT [1, 2, 6, 7, 11, 12, 13, 14, 16, 17] rfl (zzrG (zzmv 1 rfl (zzwr rfl (run_addW rfl rfl rfl) (zzmv 1 rfl (zzeE (Uf ?_))))))))
               intro ax_ hax_
               refine ⟨_, ?hq15m, ⟨T + 1, wr (tv + 1), tg, rfl, hax_.su rfl, S23.pick [0, 1, 2, 3] [_, _, _, _] (by decide) ⟨rfl, rfl, rfl, rfl, trivial⟩, ?hq15f0, ?hq15f1⟩⟩
               case hq15f0 => omega
               case hq15f1 => exact hR.next (by omega) (by omega) hgl hgo hgr (fun x hx => by (rw [hgg x hx, if_pos (by omega)]))
               case hq15m => omega
            ·refine zzxE rfl (U8 (zznT [1, 2, 6, 7, 11, 12, 13, 14, 16] rfl (zzrG (zzmv 1 rfl (zzwr rfl (U1 rfl) (zzmv 1 rfl (zzeE (Uf ?_))))))))
             intro ax_ hax_
             refine ⟨_, ?hq16m, ⟨k + 1, te, rfl, hax_.su rfl, S22.pick [0, 1, 2, 3] [_, _, _, _] (by decide) ⟨rfl, rfl, rfl, rfl, trivial⟩, ?hq16f0, ?hq16f1⟩⟩
             case hq16f0 => omega
             case hq16f1 => exact hE.step (by omega) hR (by omega)
             case hq16m => omega
         ·refine zzxE rfl (U8 (zznT [1, 2, 6, 7, 11, 12, 13] rfl ?_))
          obtain ⟨hfr1, hF3⟩ := Fx.FE.done hF (by omega) hw2 hw3 hw4 hE (by omega)
          refine ws_eq 12 (.int .i64 ((fr - 1 : Nat) : Int)) rfl (int_eq (by omega)) ?_
          refine zzrG (zzmv 1 rfl (zzwr rfl (U1 rfl) (zzmv 1 rfl (zzeE (Uf ?_)))))
          intro ax_ hax_
          refine ⟨_, ?hq17m, ⟨c + 1, fr - 1, us.set o true, tk, _, rfl, hax_.su rfl, S21.pick [0, 1, 2, 3] [_, _, _, _] (by decide) ⟨rfl, rfl, rfl, rfl, trivial⟩, ?hq17f0, ?hq17f1⟩⟩
          case hq17f0 => exact hF3
          case hq17f1 => omega
          case hq17m => omega
    ·refine zzxE rfl (zznR [2, 12] rfl (zzmv 1 rfl (zzwr rfl (zzfa rfl uT51 rfl ce3 nf3) (zzwr rfl (zzld1 rfl uT3 (S18.bc 3 rfl rfl)) (zzwr rfl (U1 rfl) (zzmv 1 rfl (zzeT [4] rfl (zzrT hC rfl ?_))))))))
     refine ⟨_, rfl, _, hle1, (S18.pick [] [] (by decide) trivial), ?_⟩
     refine congrArg (Value.int .i64) ?_
     have := hF.end_ (by omega)
     unfold foxD
     omega
end Go.Proofs.Ytkcighnochjlgaa
namespace Go.Proofs.Ytkcighnochjlgaa
open Go.ChangeShapes Go.WideShapes Go.ChangeAt Go.RowKit
noncomputable def Z35 := Try.f9.body.getD .skip
set_option maxHeartbeats 1000000 in
set_option maxRecDepth 10000 in
theorem ColourFox_t {w : World} {M : Hp} {X : Fr} (d : Dg) {dcrsA : Option Addr} {dcrsc : Nat} (p : Int) (hdcrs : RdA cdCr M dcrsA dcrsc d.crs) (hp : p ≤ 9223372036854775807) (S : SH w M X []) : Ct Try.prog 9 [.agg [.slice dcrsA d.crs.length dcrsc, .int .i64 d.loops].toArray, .int .i64 p] w M X (fun u _ => u = .bool true) := by
 unfold Ct
 have rmhdcrs : d.crs.length * 40 ≤ 140737488355328 := hdcrs.room
 refine U7 (b := Z35) Try.func9 rfl Try.ntmps9 rfl (fun C hC => (zzwsk [0, 1] rfl (zzsR (zzwU rfl (Uv (l := [_, _]) rfl rfl rfl rfl rfl S ?_)))))
 intro gb1 w1 S1; clear S
 refine zzmv 1 rfl (zzeR [1, 2] rfl (zzwr rfl (Ut [_, _] rfl uT51 sz51 (S1.bs 0 rfl rfl)) (zzwU rfl (wo_ct rfl rfl rfl rfl rfl rfl rfl cf34 S1 (DiagramOf_t d (hdcrs.mono (Hp.le_un _ _)) S1.lend) ?_))))
 intro vw2 w2 M1 hle1 S2 hRw2; clear S1
 replace hdcrs := hdcrs.mono hle1
 obtain ⟨A1, c1, rfl, hr1⟩ := hRw2
 refine zzmv 1 rfl (zzwU rfl (wo_ct rfl rfl rfl rfl rfl rfl rfl cf40 S2 (Fox_t d p (hr1.mono (Hp.le_un _ _)) ((by omega)) S2.lend) ?_))
 intro vw3 w3 M2 hle2 S3 hRw3; clear S2
 replace hdcrs := hdcrs.mono hle2
 replace hr1 := hr1.mono hle2
 rcases hRw3 with ⟨hpb, rfl⟩ | ⟨hpb, hpl, rfl⟩ | ⟨hpb, hpl, rfl⟩
 ·refine zzmv 5 rfl (zzeS [1, 2, 5, 6] rfl (zzsR (zzmv 3 rfl ?_)))
  refine Um (t := 17) rfl (fun hg17 => ?_) (fun hg17 => ?_)
  ·refine zzmv 6 rfl (zzmv 2 rfl (zzeT [1, 2, 5, 6, 25] rfl (zzcT (zzsR (zzmv 3 rfl ?_)))))
   refine Um (t := 28) rfl (fun hg28 => ?_) (fun hg28 => ?_)
   ·refine zzmv 4 rfl (zzeT [4] rfl (zzrT hC rfl ?_))
    refine ⟨_, rfl, _, hle1.trans hle2, (S3.pick [] [] (by decide) trivial), ?_⟩
    show Value.bool _ = _
    refine congrArg Value.bool ?_
    first | rfl | (rw [decide_eq_true_iff]; omega) | (simp_all; done)
   ·refine zzmv 4 rfl (zzeT [4] rfl (zzrT hC rfl ?_))
    refine ⟨_, rfl, _, hle1.trans hle2, (S3.pick [] [] (by decide) trivial), ?_⟩
    show Value.bool _ = _
    refine congrArg Value.bool ?_
    first | rfl | (rw [decide_eq_true_iff]; omega) | (simp_all; done)
  ·refine zzmv 4 rfl ?_
   refine Um (t := 21) rfl (fun hg21 => ?_) (fun hg21 => ?_)
   ·refine zzmv 4 rfl (zzeT [1, 2, 5, 6, 25] rfl (zzcT (zzsR (zzmv 3 rfl ?_))))
    refine Um (t := 28) rfl (fun hg28 => ?_) (fun hg28 => ?_)
    ·refine zzmv 4 rfl (zzeT [4] rfl (zzrT hC rfl ?_))
     refine ⟨_, rfl, _, hle1.trans hle2, (S3.pick [] [] (by decide) trivial), ?_⟩
     show Value.bool _ = _
     refine congrArg Value.bool ?_
     first | rfl | (rw [decide_eq_true_iff]; omega) | (simp_all; done)
    ·refine zzmv 4 rfl (zzeT [4] rfl (zzrT hC rfl ?_))
     refine ⟨_, rfl, _, hle1.trans hle2, (S3.pick [] [] (by decide) trivial), ?_⟩
     show Value.bool _ = _
     refine congrArg Value.bool ?_
     first | rfl | (rw [decide_eq_true_iff]; omega) | (simp_all; done)
   ·refine zzmv 1 rfl (wlg 8 9 rfl rfl rfl rfl rfl rfl rfl rfl (U26 rfl rfl rfl rfl rfl rfl rfl cf41 S3 (Prime_q p (by omega) S3.lend) ?_))
    rintro _ w4 S4 rfl; clear S3
    refine zzmv 2 rfl (zzeT [1, 2, 5, 6, 25] rfl ?_)
    refine zzcN rfl (fun hb25 => ?_) (fun hb25 => ?_)
    ·simp only [Bool.and_eq_true, Bool.or_eq_true, Bool.and_eq_false_iff, Bool.or_eq_false_iff, decide_eq_true_eq, decide_eq_false_iff_not, Bool.not_eq_true', Bool.not_eq_false'] at hb25
     refine zzsR (zzmv 3 rfl ?_)
     refine Um (t := 28) rfl (fun hg28 => ?_) (fun hg28 => ?_)
     ·refine zzmv 4 rfl (zzeT [4] rfl (zzrT hC rfl ?_))
      refine ⟨_, rfl, _, hle1.trans hle2, (S4.pick [] [] (by decide) trivial), ?_⟩
      show Value.bool _ = _
      refine congrArg Value.bool ?_
      first | rfl | (rw [decide_eq_true_iff]; omega) | (simp_all; done)
     ·refine zzmv 4 rfl (zzeT [4] rfl (zzrT hC rfl ?_))
      refine ⟨_, rfl, _, hle1.trans hle2, (S4.pick [] [] (by decide) trivial), ?_⟩
      show Value.bool _ = _
      refine congrArg Value.bool ?_
      first | rfl | (rw [decide_eq_true_iff]; omega) | (simp_all; done)
    ·simp only [Bool.and_eq_true, Bool.or_eq_true, Bool.and_eq_false_iff, Bool.or_eq_false_iff, decide_eq_true_eq, decide_eq_false_iff_not, Bool.not_eq_true', Bool.not_eq_false'] at hb25
     exfalso; first | omega | (simp_all; done) | contradiction
 ·refine zzmv 5 rfl (zzeS [1, 2, 5, 6] rfl (zzsR (zzmv 3 rfl ?_)))
  refine Um (t := 17) rfl (fun hg17 => ?_) (fun hg17 => ?_)
  ·exfalso; (have h9 := U1s hpb; first | omega | (simp_all; done) | contradiction)
  ·refine zzmv 4 rfl ?_
   refine Um (t := 21) rfl (fun hg21 => ?_) (fun hg21 => ?_)
   ·exfalso; (have h9 := U1s hpb; first | omega | (simp_all; done) | contradiction)
   ·refine zzmv 1 rfl (wlg 8 9 rfl rfl rfl rfl rfl rfl rfl rfl (U26 rfl rfl rfl rfl rfl rfl rfl cf41 S3 (Prime_q p (by omega) S3.lend) ?_))
    rintro _ w5 S5 rfl; clear S3
    refine zzmv 2 rfl (zzeT [1, 2, 5, 6, 25] rfl ?_)
    refine zzcN rfl (fun hb25 => ?_) (fun hb25 => ?_)
    ·simp only [Bool.and_eq_true, Bool.or_eq_true, Bool.and_eq_false_iff, Bool.or_eq_false_iff, decide_eq_true_eq, decide_eq_false_iff_not, Bool.not_eq_true', Bool.not_eq_false'] at hb25
     exfalso; (have h9 := U1s hpb; first | omega | (simp_all; done) | contradiction)
    ·simp only [Bool.and_eq_true, Bool.or_eq_true, Bool.and_eq_false_iff, Bool.or_eq_false_iff, decide_eq_true_eq, decide_eq_false_iff_not, Bool.not_eq_true', Bool.not_eq_false'] at hb25
     refine zzsK (zznR [1, 2, 5, 6] rfl (zzwr rfl (Ut [_, _] rfl uT51 sz51 (S5.bs 0 rfl rfl)) (zzwU rfl (wo_ct rfl rfl rfl rfl rfl rfl rfl cf42 S5 (PlanarMay_t d (hdcrs.mono (Hp.le_un _ _)) S5.lend) ?_))))
     intro vw6 w6 M3 hle3 S6 hRw6; clear S5
     replace hdcrs := hdcrs.mono hle3
     replace hr1 := hr1.mono hle3
     obtain rfl := hRw6
     refine zzmv 1 rfl (zzeS [1, 2, 5, 6, 7] rfl (zzsR (zzmv 2 rfl (zzeT [1, 2, 5, 6, 7, 35] rfl ?_))))
     refine zzcD rfl (fun hb35 => ?_) (fun hb35 => ?_)
     ·refine zzsR (zzmv 4 rfl ?_)
      refine Um (t := 39) rfl (fun hg39 => ?_) (fun hg39 => ?_)
      ·refine zzmv 4 rfl (zzeT [4] rfl (zzrT hC rfl ?_))
       refine ⟨_, rfl, _, (hle1.trans hle2).trans hle3, (S6.pick [] [] (by decide) trivial), ?_⟩
       show Value.bool _ = _
       refine congrArg Value.bool ?_
       first | rfl | (rw [decide_eq_true_iff]; omega) | (simp_all; done)
      ·refine zzmv 4 rfl (zzeT [4] rfl (zzrT hC rfl ?_))
       refine ⟨_, rfl, _, (hle1.trans hle2).trans hle3, (S6.pick [] [] (by decide) trivial), ?_⟩
       show Value.bool _ = _
       refine congrArg Value.bool ?_
       first | rfl | (rw [decide_eq_true_iff]; omega) | (simp_all; done)
     ·exfalso; omega
 ·refine zzmv 5 rfl (zzeS [1, 2, 5, 6] rfl (zzsR (zzmv 3 rfl ?_)))
  refine Um (t := 17) rfl (fun hg17 => ?_) (fun hg17 => ?_)
  ·exfalso; (have h9 := U1s hpb; first | omega | (simp_all; done) | contradiction)
  ·refine zzmv 4 rfl ?_
   refine Um (t := 21) rfl (fun hg21 => ?_) (fun hg21 => ?_)
   ·exfalso; (have h9 := U1s hpb; first | omega | (simp_all; done) | contradiction)
   ·refine zzmv 1 rfl (wlg 8 9 rfl rfl rfl rfl rfl rfl rfl rfl (U26 rfl rfl rfl rfl rfl rfl rfl cf41 S3 (Prime_q p (by omega) S3.lend) ?_))
    rintro _ w7 S7 rfl; clear S3
    refine zzmv 2 rfl (zzeT [1, 2, 5, 6, 25] rfl ?_)
    refine zzcN rfl (fun hb25 => ?_) (fun hb25 => ?_)
    ·simp only [Bool.and_eq_true, Bool.or_eq_true, Bool.and_eq_false_iff, Bool.or_eq_false_iff, decide_eq_true_eq, decide_eq_false_iff_not, Bool.not_eq_true', Bool.not_eq_false'] at hb25
     exfalso; (have h9 := U1s hpb; first | omega | (simp_all; done) | contradiction)
    ·simp only [Bool.and_eq_true, Bool.or_eq_true, Bool.and_eq_false_iff, Bool.or_eq_false_iff, decide_eq_true_eq, decide_eq_false_iff_not, Bool.not_eq_true', Bool.not_eq_false'] at hb25
     refine zzsK (zznR [1, 2, 5, 6] rfl (zzwr rfl (Ut [_, _] rfl uT51 sz51 (S7.bs 0 rfl rfl)) (zzwU rfl (wo_ct rfl rfl rfl rfl rfl rfl rfl cf42 S7 (PlanarMay_t d (hdcrs.mono (Hp.le_un _ _)) S7.lend) ?_))))
     intro vw8 w8 M4 hle4 S8 hRw8; clear S7
     replace hdcrs := hdcrs.mono hle4
     replace hr1 := hr1.mono hle4
     obtain rfl := hRw8
     refine zzmv 1 rfl (zzeS [1, 2, 5, 6, 7] rfl (zzsR (zzmv 2 rfl (zzeT [1, 2, 5, 6, 7, 35] rfl ?_))))
     refine zzcD rfl (fun hb35 => ?_) (fun hb35 => ?_)
     ·exfalso; omega
     ·obtain ⟨hmo, hpp⟩ := errO_ok hpl
      obtain ⟨hn, hab, hlo0, hlo1⟩ := mayO hmo
      have hsame := fox_same (p := p) hab
      refine zzsK (zznR [1, 2, 5, 6] rfl (zzmv 3 rfl ?_))
      refine Um (t := 45) rfl (fun hg45 => ?_) (fun hg45 => ?_)
      ·refine zzmv 1 rfl (zzwg rfl (Ut [_, _] rfl uT51 sz51 (S8.bs 0 rfl rfl)) (zzmv 1 rfl (wlg 6 7 rfl rfl rfl rfl rfl rfl rfl rfl (wo_ct rfl rfl rfl rfl rfl rfl rfl cf43 S8 (FoxOf_t d p (hdcrs.mono (Hp.le_un _ _)) (hn) (hab) (⟨hlo0, hlo1⟩) (hpb) S8.lend) ?_))))
       intro vw9 w9 M5 hle5 S9 hRw9; clear S8
       replace hdcrs := hdcrs.mono hle5
       replace hr1 := hr1.mono hle5
       obtain rfl := hRw9
       refine zzmv 3 rfl (zzeT [4] rfl (zzrT hC rfl ?_))
       refine ⟨_, rfl, _, ((hle1.trans hle2).trans hle4).trans hle5, (S9.pick [] [] (by decide) trivial), ?_⟩
       show Value.bool _ = _
       refine congrArg Value.bool ?_
       first | rfl | (rw [decide_eq_true_iff]; omega) | (simp_all; done)
      ·refine zzmv 6 rfl (zzmv 1 rfl (zzeT [4] rfl (zzrT hC rfl ?_)))
       refine ⟨_, rfl, _, (hle1.trans hle2).trans hle4, (S8.pick [] [] (by decide) trivial), ?_⟩
       show Value.bool _ = _
       refine congrArg Value.bool ?_
       first | rfl | (rw [decide_eq_true_iff]; omega) | (simp_all; done)
end Go.Proofs.Ytkcighnochjlgaa
namespace Go.Proofs.Ytkcighnochjlgaa
open Go.ChangeShapes Go.WideShapes Go.ChangeAt Go.RowKit Go.Joins Go.Deep
theorem sized_in {H : Type} {P : Program} {ts : List TypeId} {ds : List (DataW H)} (h : (DataW.weightsEach P ts ds).all (· ≤ reachBytes) = true) {j i : Nat} {t e : TypeId} {f : Field} {fs : Array Field} {parts : List (DataW H)} {elems spare : List (DataW H)}
    (ht : ts[j]? = some t) (hd : ds[j]? = some (.agg parts)) (hu : P.underlying t = some (.struct fs)) (hf : fs.toList[i]? = some f) (hp : parts[i]? = some (.slice elems spare)) (he : P.underlying f.type = some (.slice e)) :
    (elems.length + spare.length) * P.bytesOf e ≤ reachBytes := by
  have m1 := DataW.weights_mem_each (P := P) (ts := fs.toList.map (·.type)) (j := i) (t := f.type) (by rw [List.getElem?_map, hf]; rfl) hp ((elems.length + spare.length) * P.bytesOf e) (by simp [DataW.weights, he])
  have m2 := DataW.weights_mem_each (P := P) ht hd ((elems.length + spare.length) * P.bytesOf e) (by simp only [DataW.weights, hu]; exact m1)
  simpa using List.all_eq_true.1 h _ m2
theorem len5 (l : List Cr) : (l.flatMap codCr.f).length = l.length * 5 := by
  induction l with
  | nil => rfl
  | cons x l ih => rw [List.flatMap_cons, List.length_append, ih, codCr.hf, List.length_cons]; show 5 + _ = _; omega
theorem take1 {l : List Value} {j : Nat} {u : Value} (h : (l.drop j).take 1 = [u]) : l[j]? = some u := by
  have := congrArg (fun z => z[0]?) h
  simpa [List.getElem?_take, List.getElem?_drop] using this
theorem pick {α : Type} [Inhabited α] {m : Nat} {Q : Nat → α → Prop} (h : ∀ i, i < m → ∃ x, Q i x) : ∃ F : Nat → α, ∀ i, i < m → Q i (F i) :=
  ⟨fun i => if hi : i < m then (h i hi).choose else default, fun i hi => by
    show Q i (if hi : i < m then (h i hi).choose else default)
    rw [dif_pos hi]; exact (h i hi).choose_spec⟩
section
variable {H : Type} {enc : TypeId × Value → H} {w : World}
theorem f_int {n j : Nat} {cs : List Value} {y : DataW H × List MemPlace} (h : DataW.trod enc Try.prog w 0 (fun _ => true) true n 3 ((cs.drop j).take (Try.prog.cellsOf 3)) = some y) : ∃ a, cs[j]? = some (.int .i64 a) := by
  obtain ⟨a, e, _⟩ := DataW.trod_int uT3 h
  rw [show Try.prog.cellsOf 3 = 1 by kernel_rfl] at e
  exact ⟨a, take1 e⟩
theorem f_bool {n j : Nat} {cs : List Value} {y : DataW H × List MemPlace} (h : DataW.trod enc Try.prog w 0 (fun _ => true) true n 4 ((cs.drop j).take (Try.prog.cellsOf 4)) = some y) : ∃ a, cs[j]? = some (.bool a) := by
  obtain ⟨a, e, _⟩ := DataW.trod_bool uT4 h
  rw [show Try.prog.cellsOf 4 = 1 by kernel_rfl] at e
  exact ⟨a, take1 e⟩
set_option maxRecDepth 100000 in
theorem open_cr {n : Nat} {cs : List Value} {x : DataW H × List MemPlace} (h : DataW.trod enc Try.prog w 0 (fun _ => true) true n 111 cs = some x) : ∃ c : Cr, ∀ j u, j < 5 → (crF c)[j]? = some u → cs[j]? = some u := by
  obtain ⟨xs, k, _, _, _, hl, hf⟩ := DataW.trod_struct uT111 h
  match xs, hl with
  | [y0, y1, y2, y3, y4], _ =>
    have g0 := hf 0 _ rfl
    have g1 := hf 1 _ rfl
    have g2 := hf 2 _ rfl
    have g3 := hf 3 _ rfl
    have g4 := hf 4 _ rfl
    obtain ⟨n0, e0⟩ := f_int (j := 0) (y := y0) g0
    obtain ⟨n1, e1⟩ := f_int (j := 1) (y := y1) g1
    obtain ⟨n2, e2⟩ := f_int (j := 2) (y := y2) g2
    obtain ⟨n3, e3⟩ := f_int (j := 3) (y := y3) g3
    obtain ⟨n4, e4⟩ := f_bool (j := 4) (y := y4) g4
    refine ⟨⟨n0, n1, n2, n3, n4⟩, fun j u hj hu => ?_⟩
    match j, hj with
    | 0, _ => simp [crF] at hu; subst hu; exact e0
    | 1, _ => simp [crF] at hu; subst hu; exact e1
    | 2, _ => simp [crF] at hu; subst hu; exact e2
    | 3, _ => simp [crF] at hu; subst hu; exact e3
    | 4, _ => simp [crF] at hu; subst hu; exact e4
set_option maxRecDepth 100000 in
theorem open_Dg {v : Value} {d : DataW H} {p : List MemPlace} {b0 : Nat} (hv : Value.okWide Try.prog w .any b0 51 v) (h : DataW.Trod enc Try.prog w 0 (fun _ => true) true 51 v d p) (hlt : ∀ x ∈ p, x.block < w.heap.size)
    {ts : List TypeId} {ds : List (DataW H)} (hsz : (DataW.weightsEach Try.prog ts ds).all (· ≤ reachBytes) = true) {j : Nat} (hj : ts[j]? = some 51) (hd : ds[j]? = some d) :
    ∃ g : Dg, IsDg w w.heap.size v g := by
  obtain ⟨v0, v1, y0, y1, n, rfl, rfl, rfl, t0, t1⟩ := open_agg2 uT51 (by kernel_rfl) (by kernel_rfl) hv h
  obtain ⟨l, e1, _, _⟩ := DataW.trod_int uT3 t1
  injection e1 with e1
  subst e1
  have hs := fun es sp (hp : y0.1 = .slice es sp) => sized_in hsz hj hd uT51 (i := 0) rfl (by rw [List.getElem?_cons_zero, hp]) uT49
  rcases open_slice uT49 t0 with ⟨hcs, hx⟩ | ⟨a, len, cap, m, k, D, Pl, hcs, hb, hl, hm, hmm, hx, hi⟩
  · injection hcs with hcs
    subst hcs
    exact ⟨⟨[], l⟩, none, 0, rfl, Nat.le_refl _, Rd.nil_⟩
  · injection hcs with hcs
    subst hcs
    have hk : Try.prog.cellsOf 111 = 5 := by kernel_rfl
    have hby : Try.prog.bytesOf 111 = 40 := by kernel_rfl
    have hs := hs _ _ (by rw [hx])
    rw [hby] at hs
    simp only [if_true] at hmm
    subst hmm
    simp only [List.length_map, List.length_range, reachBytes] at hs
    obtain ⟨F, hF⟩ := pick (m := m) (Q := fun i (c : Cr) => ∀ j u, j < 5 → (crF c)[j]? = some u → w.cell? (a.add (i * 5 + j)) = some u) (fun i him => by
      obtain ⟨cs', hc, ht'⟩ := hi i him
      rw [hk] at hc
      obtain ⟨c, hc'⟩ := open_cr ht'
      obtain ⟨_, hcl, hat⟩ := World.cells?_some hc
      refine ⟨c, fun j u hj hu => ?_⟩
      rw [← Go.Deep.add_add, hat j hj]
      exact hc' j u hj hu)
    have hlen : ((List.range len).map F).length = len := by simp
    refine ⟨⟨(List.range len).map F, l⟩, some a, m, by rw [hlen], by rw [hlen]; exact hl, ?_⟩
    refine ⟨len5 _, by show _ * 40 ≤ _; rw [hlen]; omega, fun h0 => ?_⟩
    rw [hlen] at h0
    obtain ⟨b, off, spot⟩ := a
    have hspot : spot = none := by simpa [Addr.add] using World.cell?_spot (hF 0 (by omega) 0 _ (by omega) rfl)
    subst hspot
    refine ⟨b, off, rfl, hlt (.cell b off) (List.mem_append_left _ (by rw [hx]; exact List.mem_append_left _ (MemPlace.mem_row.2 ⟨0, by rw [hk]; omega, by simp⟩))), fun i u hu => ?_⟩
    have hil : i < len * 5 := by
      have := (List.getElem?_eq_some_iff.1 hu).1
      rw [len5, hlen] at this
      exact this
    have hu' := hu
    rw [show i = (i / 5) * 5 + i % 5 by omega] at hu'
    rw [show (5 : Nat) = codCr.k from rfl, U15 codCr.hf (by rw [hlen]; show i / 5 < len; omega) (by show i % 5 < 5; omega)] at hu'
    have := hF (i / 5) (by omega) (i % 5) u (by omega) (by simpa [codCr] using hu')
    rw [show (i / 5) * 5 + i % 5 = i by omega] at this
    rcases Nat.eq_zero_or_pos i with h1 | h1
    · subst h1; simpa [Addr.add] using this
    · simpa [Addr.add, show ¬ i = 0 by omega] using this
end
end Go.Proofs.Ytkcighnochjlgaa
namespace Go.Proofs.Ytkcighnochjlgaa
open Go.ChangeShapes Go.WideShapes Go.ChangeAt Go.RowKit
theorem RdA.of_sl {α : Type} {C : Cd α} {w : World} {B c : Nat} {A : Option Addr} {xs : List α} (hc : xs.length ≤ c) (hk : 0 < C.k) (h : Sl w B C.k C.u8 A xs.length (xs.flatMap C.f)) : RdA C (hp w) A c xs := by
  refine ⟨hc, h.2.1, fun h0 => ?_⟩
  obtain ⟨b, off, rfl, _, hat⟩ := h.2.2 h0
  refine ⟨rfl, ?_⟩
  have hlen : 0 < (xs.flatMap C.f).length := by rw [Uw C.hf]; exact Nat.mul_pos h0 hk
  have h1 := hat 0 _ (List.getElem?_eq_getElem hlen)
  show ∃ cs T fz, w.heap[b]? = some (.cells cs T fz) ∧ ∀ j u, (xs.flatMap C.f)[j]? = some u → cs[off + j]? = some u
  unfold World.cell? at h1
  split at h1
  · rename_i cs T fz hb
    refine ⟨cs, T, fz, hb, fun j u hu => ?_⟩
    have := hat j u hu
    rw [cell_of_row w b _ cs T fz hb] at this
    exact this
  · cases h1
theorem IsDg.rd {w : World} {B : Nat} {v : Value} {d : Dg} (h : IsDg w B v d) : ∃ A c, v = .agg [.slice A d.crs.length c, .int .i64 d.loops].toArray ∧ RdA cdCr (hp w) A c d.crs := by
  obtain ⟨A, c, rfl, hc, h⟩ := h
  exact ⟨A, c, rfl, RdA.of_sl (C := cdCr) hc (by decide) h⟩
end Go.Proofs.Ytkcighnochjlgaa
namespace Go.Proofs.Ytkcighnochjlgaa
open Go.ChangeShapes Go.WideShapes Go.ChangeAt Go.RowKit Go.Joins Go.Deep
def wfI (x : Int) : Prop := -9223372036854775808 ≤ x ∧ x ≤ 9223372036854775807
theorem wfI_of {x : Int} (h : (Lit.int .i64 x).wf = true) : wfI x := by
  simpa [Lit.wf, IntKind.min, IntKind.max, IntKind.signed, IntKind.bits, wfI] using h
section
variable {H : Type} {enc : TypeId × Value → H} {P : Program} {w : World} {T : TypeId}
end
end Go.Proofs.Ytkcighnochjlgaa
namespace Go.Proofs.Ytkcighnochjlgaa
open Go.ChangeShapes Go.WideShapes Go.ChangeAt Go.RowKit
theorem lawColourFox (v0 : Value) (x0 : Dg) (x1 : Int) (W : World) (hw : (Lit.int .i64 x1).wf = true) (h0 : IsDg W W.heap.size v0 x0) :
    Calls Try.prog 9 #[v0, .int .i64 x1] W fun e W' => e = .returned (.bool true) ∧ Below W.heap.size W W' := by
  obtain ⟨A0, c0, rfl, r0⟩ := h0.rd
  exact law_of_ct (ColourFox_t x0 x1 r0 (by have h := wfI_of hw; unfold wfI at h; omega) (SH.start W))
set_option maxRecDepth 100000 in
theorem colourFox_lifted (os : Os) (started : os.Started) (H : Type) (enc : TypeId × Value → H) :
    ReturnsInHanded {} Try.checked os 9 .any (Rows.colourFoxSpec.pre6 enc Try.prog Try.f9 Rows.colourFoxRow.domain false) (Rows.colourFoxSpec.post enc Try.prog Try.f9 false true false false) := by
  refine law_lift (C := Try.checked) (tb := 4) (by kernel_rfl) started (by kernel_rfl) Try.func9
    (ChangeSpec.witness6 (enc := enc) (C := Try.checked) false ⟨#[], #[.agg #[.slice none 0 0, .int .i64 0], .int .i64 0], []⟩ 8 (by kernel_rfl) (by kernel_rfl) (by kernel_rfl) (by kernel_rfl))
    rfl (by kernel_rfl) (by kernel_rfl) rfl uT4 ?_ ?_
  · intro ds hds
    match ds, hds with
    | [d0, d1], _ => rfl
  · intro W base args ds p hval hA _ hlt hsz
    rw [Try.params9] at hA hval hsz
    obtain ⟨v0, vs0, d0, ds0, p0, q0, hargs, rfl, rfl, h0, r0⟩ := trodAll_cons hA
    obtain ⟨v1, vs1, d1, ds1, p1, q1, rfl, rfl, rfl, h1, r1⟩ := trodAll_cons r0
    obtain ⟨rfl, rfl, rfl⟩ := trodAll_nil r1
    obtain rfl : args = #[v0, v1] := by cases args; simp_all
    obtain ⟨a0, i0⟩ := open_Dg (hval 0 51 v0 rfl rfl) h0 (fun x hx => hlt x (by simp [hx])) hsz (j := 0) rfl rfl
    obtain ⟨a1, rfl, rfl, rfl, w1⟩ := open_int uT3 (hval 1 3 v1 rfl rfl) h1
    exact lawColourFox v0 a0 a1 W w1 i0
theorem colourFox_holds : Rows.ColourFoxSaid :=
  OpenClaim.holds_of_wide 9 Try.f9 rfl rfl rfl rfl rfl rfl rfl ⟨rfl, rfl, rfl, rfl, rfl⟩ rfl rfl rfl rfl rfl (by kernel_rfl) Try.func9 (by kernel_rfl)
    (of_decide_eq_true (by kernel_rfl)) (by unfold Func.isWrapper; first | (rw [if_pos (by decide +kernel)]; kernel_rfl) | (rw [if_neg (by decide +kernel)]; exact ⟨rfl, rfl⟩))
    (fun os started H enc _ => colourFox_lifted os started H enc)
#print axioms colourFox_holds
end Go.Proofs.Ytkcighnochjlgaa
