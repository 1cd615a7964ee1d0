/- Part 6 of the proof of the law ColourFox: the walks through its functions and the plain laws that they need. -/
import Derived.Test.YtkcighnochjlgaaFcZ5
set_option linter.unusedSimpArgs false
set_option linter.unusedVariables false
noncomputable section
namespace Go.Proofs.Ytkcighnochjlgaa
open Go.ChangeShapes Go.WideShapes Go.ChangeAt Go.RowKit
def nbC (d : Dg) (x k : Nat) : Nat := (Un d (Uu d x k) (Ui d x k)).1
def addS (s : List Bool × List Int) (y : Nat) : List Bool × List Int := if ga s.1 y = true then s else (s.1.set y true, s.2 ++ [(y : Int)])
def bfsS (d : Dg) (x : Nat) (s : List Bool × List Int) : Nat → List Bool × List Int
 | 0 => s
 | k + 1 => addS (bfsS d x s k) (nbC d x k)
def bfsN (d : Dg) : Nat → Nat → List Bool × List Int → List Bool × List Int
 | 0, _, s => s
 | f + 1, i, s => if i < s.2.length then bfsN d f (i + 1) (bfsS d (ga s.2 i).toNat s 4) else s
def pcsN (d : Dg) : Nat → List Bool × List (List Int)
 | 0 => (List.replicate d.crs.length false, [])
 | c + 1 => if ga (pcsN d c).1 c = true then pcsN d c else ((bfsN d d.crs.length 0 ((pcsN d c).1.set c true, [(c : Int)])).1, (pcsN d c).2 ++ [srt (bfsN d d.crs.length 0 ((pcsN d c).1.set c true, [(c : Int)])).2])
def pcsL (d : Dg) : List (List Int) := (pcsN d d.crs.length).2
theorem bfsN_stop {d : Dg} {f i : Nat} {s : List Bool × List Int} (h : s.2.length ≤ i) : bfsN d f i s = s := by
 cases f with
 | zero => rfl
 | succ f => rw [bfsN, if_neg (by omega)]
theorem bfsN_go {d : Dg} {f i x : Nat} {s s' : List Bool × List Int} (h : i < s.2.length) (hx : ga s.2 i = (x : Int)) (hs : bfsS d x s 4 = s') : bfsN d (f + 1) i s = bfsN d f (i + 1) s' := by
 rw [bfsN, if_pos h, hx, Int.toNat_natCast, hs]
theorem pcsN_skip {d : Dg} {c : Nat} {s : List Bool × List (List Int)} (h : pcsN d c = s) (hg : ga s.1 c = true) : pcsN d (c + 1) = s := by
 rw [pcsN, h, if_pos hg]
theorem pcsN_add {d : Dg} {c : Nat} {s : List Bool × List (List Int)} {r : List Bool × List Int} (h : pcsN d c = s) (hg : ga s.1 c = false) (hr : bfsN d d.crs.length 0 (s.1.set c true, [(c : Int)]) = r) : pcsN d (c + 1) = (r.1, s.2 ++ [srt r.2]) := by
 rw [pcsN, h, if_neg (by rw [hg]; exact Bool.false_ne_true), hr]
theorem bfsN_len (d : Dg) (f i : Nat) (s : List Bool × List Int) : (bfsN d f i s).1.length = s.1.length := by
 have h1 : ∀ x s k, (bfsS d x s k).1.length = s.1.length := fun x s k => by
  induction k with
  | zero => rfl
  | succ k ih => rw [bfsS, addS]; split <;> simp [ih]
 induction f generalizing i s with
 | zero => rfl
 | succ f ih => rw [bfsN]; split <;> simp [ih, h1]
theorem pcsN_len (d : Dg) (c : Nat) : (pcsN d c).1.length = d.crs.length := by
 induction c with
 | zero => simp [pcsN]
 | succ c ih => rw [pcsN]; split <;> simp [ih, bfsN_len]
theorem pcsN_many (d : Dg) (c : Nat) : (pcsN d c).2.length ≤ c := by
 induction c with
 | zero => simp [pcsN]
 | succ c ih => rw [pcsN]; split; exact Nat.le_succ_of_le ih; rw [List.length_append]; show _ + 1 ≤ _; omega
theorem nbC_lt {d : Dg} (h : Ue d = true) {x k : Nat} (hx : x < d.crs.length) (hk : k < 4) : nbC d x k < d.crs.length := (endD h (Uq h hx hk) _).1
noncomputable def Z2u := Try.f135.body.getD .skip
set_option maxHeartbeats 1000000 in
set_option maxRecDepth 10000 in
theorem Pieces_t {w : World} {M : Hp} {X : Fr} (d : Dg) {gsh : Nat} {cA iA oA : Option Addr} {cc ic oc : Nat} (hsb : BxM (M.un X.h) gsh 114 [.slice cA d.crs.length cc, .int .i64 d.loops, .slice iA (tabL d false (4 * d.crs.length)).length ic, .slice oA (tabL d true (4 * d.crs.length)).length oc]) (hsc : RdA cdCr (M.un X.h) cA cc d.crs) (hsi : RdA cdPl (M.un X.h) iA ic (tabL d false (4 * d.crs.length))) (hso : RdA cdPl (M.un X.h) oA oc (tabL d true (4 * d.crs.length))) (hn : d.crs.length ≤ 16) (hab : Ue d = true) (S : SH w M X []) : Ct Try.prog 135 [.pointer (some ⟨gsh, 0, none⟩)] w M X (fun u M => ∃ A c vs, u = .slice A vs.length c ∧ RdA (cdV 36) M A c vs ∧ Rd2 U2 M vs (pcsL d)) := by
 unfold Ct
 refine U7 (b := Z2u) Try.func135 rfl Try.ntmps135 rfl (fun C hC => (zzwsk [0] rfl (zzsR (zzmv 1 rfl (zzeR [0] rfl (zzmv 2 rfl (zzwr rfl (zzfa rfl uT114 rfl ce51 nf51) (zzwr rfl (zzfa rfl uT51 rfl ce49 nf49) (zzwr rfl (zzld1 rfl uT49 (hsb.cell S.um rfl)) ?_)))))))))
 refine zzwr rfl (zzln rfl uT49) (zzwU rfl (U1y (C := U1g) d.crs.length rfl rfl rfl rfl rfl sl118 (by first | rfl | omega) (by show _ * 1 ≤ _; first | omega | (simp only [ls]; omega)) S ?_))
 intro vr1 w1 S1; clear S
 refine zzmv 1 rfl (zzeR [0, 3] rfl (zzmv 1 rfl (zzeE (zztS (zzsR (zzmv 2 rfl (zzwr rfl (zzfa rfl uT114 rfl ce51 nf51) (zzwr rfl (zzfa rfl uT51 rfl ce49 nf49) ?_))))))))
 refine zzwr rfl (zzld1 rfl uT49 (hsb.cell S1.um rfl)) (zzwr rfl (zzln rfl uT49) (zzmv 1 rfl (zzeT [0, 3, 4, 22, 23] rfl (zzbK ?_))))
 have S2 := S1.nilrow (cdV 36); clear S1
 refine U4 (fun mx_ ax_ wx_ => ∃ (c : Nat) (seen : List Bool) (vs : List SlV) (pss : List (List Int)) (vrs : Value) (vro : Value) (M1 : Hp), M.le M1 ∧ mx_ = d.crs.length - c ∧ Env 74 [(0, .pointer (some ⟨gsh, 0, none⟩)), (3, vrs), (4, vro), (22, .int .i64 (d.crs.length : Int)), (23, .int .i64 (c : Int))] ax_ ∧ SH wx_ M1 X [Rs.row (cdV 36) vro vs, Rs.row U1g vrs seen] ∧ c ≤ d.crs.length ∧ pcsN d c = (seen, pss) ∧ Rd2 U2 M1 vs pss) rfl ?_ ?_
 ·intro ax_ hax_
  refine ⟨_, ⟨0, _, _, [], _, _, _, Hp.le_refl _, rfl, hax_.su rfl, S2.pick [0, 1] [_, _] (by decide) ⟨rfl, rfl, trivial⟩, ?hq1f0, ?hq1f1, ?hq1f2⟩⟩
  case hq1f0 => omega
  case hq1f1 => rfl
  case hq1f2 => first | exact Rd2.nil_ | (rw [e9]; exact Rd2.nil_)
 ·rintro m1 a1 w2 ⟨c, seen, vs, pss, vrs, vro, M1, hle1, rfl, he1, S3, hc, hpn, hdo⟩
  clear S2
  refine zziN he1 ?_
  clear he1 a1
  replace hsb := hsb.mono (Hp.U0 hle1 S3.mx)
  replace hsc := hsc.mono (Hp.U0 hle1 S3.mx)
  replace hsi := hsi.mono (Hp.U0 hle1 S3.mx)
  replace hso := hso.mono (Hp.U0 hle1 S3.mx)
  have hvs := hdo.1
  have hmany := pcsN_many d c
  rw [hpn] at hmany
  replace hmany : pss.length ≤ c := hmany
  have hsl : seen.length = d.crs.length := by have h9 := pcsN_len d c; rw [hpn] at h9; exact h9
  refine zzsR (zzmv 1 rfl (zzeE (zztS ?_)))
  refine zzcD rfl (fun hb24 => ?_) (fun hb24 => ?_)
  ·refine zzsK (zznS [0, 3, 4, 22, 23] rfl (zzbK (zzsR (zzmv 2 rfl (zzeS [0, 3, 4, 22, 23, 5] rfl (zzsR (zzmv 2 rfl (zzwr rfl (Uc (i := 1) c rfl sl118 S3 rfl) ?_))))))))
   refine zzwr rfl (zzld1 rfl uT4 (S3.rowc (i := 1) (e := c) (j := 0) rfl (by first | omega | (simp only [ls]; omega)) rfl rfl)) ?_
   refine zzeT [0, 3, 4, 22, 23, 5, 29] rfl ?_
   refine zzcN rfl (fun hb29 => ?_) (fun hb29 => ?_)
   ·refine zzxE rfl (zznT [0, 3, 4, 22, 23] rfl (zzrG (zzwr rfl (U1 rfl) (zzmv 1 rfl (zzeE (Uf ?_))))))
    intro ax_ hax_
    refine ⟨_, ?hq2m, ⟨c + 1, _, _, pss, _, _, _, (hle1), rfl, hax_.su rfl, S3.pick [0, 1] [_, _] (by decide) ⟨rfl, rfl, trivial⟩, ?hq2f0, ?hq2f1, ?hq2f2⟩⟩
    case hq2f0 => omega
    case hq2f1 => first | exact pcsN_skip hpn hb29 | exact pcsN_add hpn (by simpa using hb29) (hbf.trans (bfsN_stop (by show l.length ≤ i; omega)))
    case hq2f2 => first | exact hdo | (rw [e9]; exact hdo)
    case hq2m => omega
   ·refine zzsK (zznR [0, 3, 4, 22, 23, 5] rfl (zzmv 2 rfl (zzwr rfl (Uc (i := 1) c rfl sl118 S3 rfl) (zzwU rfl (Ub (C := U1g) (i := 1) (e := c) (j := 0) (us := [_]) (H' := [_, _]) true rfl rfl S3 rfl (by first | omega | (simp only [ls]; omega)) rfl rfl rfl sz4 rfl rfl rfl rfl ?_)))))
    intro w3 S4; clear S3
    refine zzeR [0, 3, 4, 22, 23, 5] rfl (zzmv 1 rfl (zzwU rfl (Uh (C := U2) (l := [_]) rfl rfl rfl rfl sl36 rfl rfl rfl rfl S4 ?_)))
    intro gb1 w4 S5; clear S4
    refine zzmv 1 rfl (zzeS [0, 3, 4, 22, 23, 6] rfl (zzsR (zzmv 1 rfl (zzeE (U6 (zzbK ?_))))))
    have S6 := S5.boxrow (C := U2) [(c : Int)] (i := 0) (H' := [_, _, _]) rfl rfl (by simp) rfl; clear S5
    obtain ⟨vr3, er3⟩ : ∃ v, v = Value.slice (some ⟨gb1, 0, none⟩) ([(c : Int)]).length ([(c : Int)]).length := ⟨_, rfl⟩
    rw [← er3] at S6
    refine ws_eq 6 (vr3) rfl er3.symm ?_
    refine U4 (fun mx_ ax_ wx_ => ∃ (i : Nat) (seen2 : List Bool) (l : List Int) (vrs2 : Value) (vrl : Value), mx_ = d.crs.length - i ∧ Env 74 [(0, .pointer (some ⟨gsh, 0, none⟩)), (3, vrs2), (4, vro), (22, .int .i64 (d.crs.length : Int)), (23, .int .i64 (c : Int)), (6, vrl), (7, .int .i64 (i : Int))] ax_ ∧ SH wx_ M1 X [Rs.row U2 vrl l, Rs.row (cdV 36) vro vs, Rs.row U1g vrs2 seen2] ∧ bfsN d d.crs.length 0 (seen.set c true, [(c : Int)]) = bfsN d (d.crs.length - i) i (seen2, l) ∧ i ≤ l.length ∧ l.length + free seen2 ≤ d.crs.length ∧ (∀ y, y ∈ l → 0 ≤ y ∧ y < (d.crs.length : Int)) ∧ seen2.length = d.crs.length) rfl ?_ ?_
    ·intro ax_ hax_
     refine ⟨_, ⟨0, _, _, _, _, rfl, hax_.su rfl, S6.pick [0, 1, 2] [_, _, _] (by decide) ⟨rfl, rfl, rfl, trivial⟩, ?hq3f0, ?hq3f1, ?hq3f2, ?hq3f3, ?hq3f4⟩⟩
     case hq3f0 => rfl
     case hq3f1 => (exact Nat.zero_le _)
     case hq3f2 => (have h8 := U1u (seen := seen) (x := c) (by omega) (by simpa using hb29); have h9 : free seen ≤ seen.length := List.countP_le_length; show 1 + _ ≤ _; omega)
     case hq3f3 => (intro y hy; rw [List.mem_singleton] at hy; subst hy; omega)
     case hq3f4 => (rw [List.length_set]; exact hsl)
    ·rintro m2 a2 w5 ⟨i, seen2, l, vrs2, vrl, rfl, he2, S7, hbf, hi, hfr, hin, hs2⟩
     clear S6
     refine zziN he2 ?_
     clear he2 a2
     refine zzsS (zzsR (zzmv 2 rfl (zzwr rfl (zzlnR (i := 0) rfl sl36 S7 rfl) (zzmv 1 rfl (zzeT [0, 3, 4, 22, 23, 6, 7, 38] rfl ?_)))))
     refine zzcD rfl (fun hb38 => ?_) (fun hb38 => ?_)
     ·have hil : i < l.length := by omega
      have hxm := hin (ga l i) (by rw [U14 hil]; exact List.getElem_mem hil)
      obtain ⟨x, hx⟩ : ∃ x : Nat, ga l i = (x : Int) := ⟨(ga l i).toNat, by omega⟩
      have hxn : x < d.crs.length := by omega
      refine zzsK (zznS [0, 3, 4, 22, 23, 6, 7] rfl (zzbK (zzsR (zzmv 1 rfl (zzeE (U6 (zzbK ?_)))))))
      refine U4 (fun mx_ ax_ wx_ => ∃ (k : Nat) (seen3 : List Bool) (l3 : List Int) (vrs3 : Value) (vrl3 : Value), mx_ = 4 - k ∧ Env 74 [(0, .pointer (some ⟨gsh, 0, none⟩)), (3, vrs3), (4, vro), (22, .int .i64 (d.crs.length : Int)), (23, .int .i64 (c : Int)), (6, vrl3), (7, .int .i64 (i : Int)), (41, .int .i64 (k : Int))] ax_ ∧ SH wx_ M1 X [Rs.row U2 vrl3 l3, Rs.row (cdV 36) vro vs, Rs.row U1g vrs3 seen3] ∧ k ≤ 4 ∧ bfsS d x (seen2, l) k = (seen3, l3) ∧ l3.length + free seen3 ≤ d.crs.length ∧ (∀ y, y ∈ l3 → 0 ≤ y ∧ y < (d.crs.length : Int)) ∧ seen3.length = d.crs.length ∧ i < l3.length ∧ ga l3 i = (x : Int)) rfl ?_ ?_
      ·intro ax_ hax_
       refine ⟨_, ⟨0, _, _, _, _, rfl, hax_.su rfl, S7.pick [0, 1, 2] [_, _, _] (by decide) ⟨rfl, rfl, rfl, trivial⟩, ?hq4f0, ?hq4f1, ?hq4f2, ?hq4f3, ?hq4f4, ?hq4f5, ?hq4f6⟩⟩
       case hq4f0 => omega
       case hq4f1 => rfl
       case hq4f2 => exact hfr
       case hq4f3 => exact hin
       case hq4f4 => exact hs2
       case hq4f5 => omega
       case hq4f6 => exact hx
      ·rintro m3 a3 w6 ⟨k, seen3, l3, vrs3, vrl3, rfl, he3, S8, hk, hbs, hfr3, hin3, hs3, hi3, hx3⟩
       clear S7
       refine zziN he3 ?_
       clear he3 a3
       refine zzsR (zzmv 1 rfl (zzeE (zztS ?_)))
       refine zzcD rfl (fun hb42 => ?_) (fun hb42 => ?_)
       ·refine zzsK (zznS [0, 3, 4, 22, 23, 6, 7, 41] rfl (zzbK (zzsR (zzmv 2 rfl (zzeR [0, 3, 4, 22, 23, 6, 7, 41, 8] rfl (zzmv 3 rfl (zzwr rfl (Uc (i := 0) i rfl sl36 S8 rfl) (zzwr rfl (zzld1 rfl uT3 (S8.rowc (i := 0) (e := i) (j := 0) rfl (by first | omega | (simp only [ls]; omega)) rfl rfl)) ?_))))))))
        refine wl_eq 48 (.int .i64 (x : Int)) rfl (int_eq hx3) ?_
        have hnb := nbC_lt hab (k := k) hxn (by omega)
        refine zzmv 1 rfl (zzwr rfl (run_build (l := [_, _]) rfl rfl st196 rfl rfl) (zzwU rfl (U26 rfl rfl rfl rfl rfl rfl rfl cf156 S8 (Other_q d x k (hsb.mono S8.Uj) (hsc.mono S8.Uj) (hsi.mono S8.Uj) (hso.mono S8.Uj) (by first | assumption | omega) hab (by omega) (by omega) S8.lend) ?_)))
        rintro _ w7 S9 rfl; clear S8
        refine zzwr rfl (U29 rfl rfl uT196 rfl uT3 rfl rfl) (zzmv 1 rfl (zzeS [0, 3, 4, 22, 23, 6, 7, 41, 9] rfl (ws_eq 9 (.int .i64 ((nbC d x k : Nat) : Int)) rfl (int_eq rfl) (zzrG (zzmv 2 rfl (zzwr rfl (Uc (i := 2) (nbC d x k) rfl sl118 S9 rfl) (zzwr rfl (zzld1 rfl uT4 (S9.rowc (i := 2) (e := nbC d x k) (j := 0) rfl (by first | omega | (simp only [ls]; omega)) rfl rfl)) ?_)))))))
        refine zzmv 1 rfl (zzeT [0, 3, 4, 22, 23, 6, 7, 41, 9, 57] rfl ?_)
        refine zzcN rfl (fun hb57 => ?_) (fun hb57 => ?_)
        ·simp only [Bool.and_eq_true, Bool.or_eq_true, Bool.and_eq_false_iff, Bool.or_eq_false_iff, decide_eq_true_eq, decide_eq_false_iff_not, Bool.not_eq_true', Bool.not_eq_false'] at hb57
         have hga : ga seen3 (nbC d x k) = false := by simpa using hb57
         have hfs := U1u (seen := seen3) (x := nbC d x k) (by omega) hga
         refine zzsR (zzmv 2 rfl (zzwr rfl (Uc (i := 2) (nbC d x k) rfl sl118 S9 rfl) (zzwU rfl (Ub (C := U1g) (i := 2) (e := nbC d x k) (j := 0) (us := [_]) (H' := [_, _, _]) true rfl rfl S9 rfl (by first | omega | (simp only [ls]; omega)) rfl rfl rfl sz4 rfl rfl rfl rfl ?_))))
         intro w8 S10; clear S9
         refine zzeT [0, 3, 4, 22, 23, 6, 7, 41, 9] rfl (zzrG (zzmv 2 rfl (zzwU rfl (Uh (C := U2) (l := [_]) rfl rfl rfl rfl sl36 rfl rfl rfl rfl S10 ?_))))
         intro gb2 w9 S11; clear S10
         refine zzwU rfl (Uy (C := U2) (i := 1) (q := 0) ((nbC d x k : Nat) : Int) rfl rfl rfl rfl rfl rfl rfl rfl sl36 S11 rfl rfl rfl (by show (_ + 1) * 8 ≤ _; first | omega | (simp only [ls]; omega)) ?_)
         intro vrl1 w10 S12; clear S11
         have S13 := S12.pick [1, 2, 3] [_, _, _] (by decide) ⟨rfl, rfl, rfl, trivial⟩; clear S12
         refine zzmv 1 rfl (zzeE (U8 (zznT [0, 3, 4, 22, 23, 6, 7, 41] rfl (zzrG (zzwr rfl (U1 rfl) (zzmv 1 rfl (zzeE (Uf ?_))))))))
         intro ax_ hax_
         refine ⟨_, ?hq5m, ⟨k + 1, _, _, _, _, rfl, hax_.su rfl, S13.pick [0, 1, 2] [_, _, _] (by decide) ⟨rfl, rfl, rfl, trivial⟩, ?hq5f0, ?hq5f1, ?hq5f2, ?hq5f3, ?hq5f4, ?hq5f5, ?hq5f6⟩⟩
         case hq5f0 => omega
         case hq5f1 => (show addS _ _ = _; rw [hbs, addS]; first | rw [if_pos (by assumption)] | rw [if_neg (by rw [hga]; exact Bool.false_ne_true)])
         case hq5f2 => first | exact hfr3 | (rw [List.length_append]; show _ + 1 + _ ≤ _; omega)
         case hq5f3 => first | exact hin3 | (intro y hy; rcases List.mem_append.1 hy with hy | hy; exact hin3 y hy; rw [List.mem_singleton] at hy; subst hy; omega)
         case hq5f4 => first | exact hs3 | (rw [List.length_set]; exact hs3)
         case hq5f5 => first | exact hi3 | (rw [List.length_append]; omega)
         case hq5f6 => first | exact hx3 | (rw [Ur _ _ _ (by omega)]; exact hx3)
         case hq5m => omega
        ·simp only [Bool.and_eq_true, Bool.or_eq_true, Bool.and_eq_false_iff, Bool.or_eq_false_iff, decide_eq_true_eq, decide_eq_false_iff_not, Bool.not_eq_true', Bool.not_eq_false'] at hb57
         refine zzsK (U8 (zznT [0, 3, 4, 22, 23, 6, 7, 41] rfl (zzrG (zzwr rfl (U1 rfl) (zzmv 1 rfl (zzeE (Uf ?_)))))))
         intro ax_ hax_
         refine ⟨_, ?hq6m, ⟨k + 1, _, _, _, _, rfl, hax_.su rfl, S9.pick [0, 1, 2] [_, _, _] (by decide) ⟨rfl, rfl, rfl, trivial⟩, ?hq6f0, ?hq6f1, ?hq6f2, ?hq6f3, ?hq6f4, ?hq6f5, ?hq6f6⟩⟩
         case hq6f0 => omega
         case hq6f1 => (show addS _ _ = _; rw [hbs, addS]; first | rw [if_pos (by assumption)] | rw [if_neg (by rw [hga]; exact Bool.false_ne_true)])
         case hq6f2 => first | exact hfr3 | (rw [List.length_append]; show _ + 1 + _ ≤ _; omega)
         case hq6f3 => first | exact hin3 | (intro y hy; rcases List.mem_append.1 hy with hy | hy; exact hin3 y hy; rw [List.mem_singleton] at hy; subst hy; omega)
         case hq6f4 => first | exact hs3 | (rw [List.length_set]; exact hs3)
         case hq6f5 => first | exact hi3 | (rw [List.length_append]; omega)
         case hq6f6 => first | exact hx3 | (rw [Ur _ _ _ (by omega)]; exact hx3)
         case hq6m => omega
       ·refine zzxE rfl (U8 (zznT [0, 3, 4, 22, 23, 6, 7] rfl (zzrG (zzmv 1 rfl (zzwr rfl (U1 rfl) (zzmv 1 rfl (zzeE (Uf ?_))))))))
        intro ax_ hax_
        refine ⟨_, ?hq7m, ⟨i + 1, _, _, _, _, rfl, hax_.su rfl, S8.pick [0, 1, 2] [_, _, _] (by decide) ⟨rfl, rfl, rfl, trivial⟩, ?hq7f0, ?hq7f1, ?hq7f2, ?hq7f3, ?hq7f4⟩⟩
        case hq7f0 => (rw [hbf, show d.crs.length - i = (d.crs.length - (i + 1)) + 1 by omega]; exact bfsN_go (by show i < l.length; omega) hx (hbs ▸ (by rw [show k = 4 by omega])))
        case hq7f1 => omega
        case hq7f2 => omega
        case hq7f3 => exact hin3
        case hq7f4 => exact hs3
        case hq7m => omega
     ·have hsr := srt_len l
      refine zzxE rfl (zznR [0, 3, 4, 22, 23, 6] rfl (zzmv 1 rfl (zzwU rfl (wo_c1 rfl rfl rfl rfl rfl rfl rfl cf143 S7 (i := 0) rfl (sort_w (by omega) (S7.lend1 (i := 0) rfl)) ?_))))
      rintro vw11 w11 _ _ - S14 ⟨rfl, rfl, rfl⟩; clear S7
      change SH _ _ _ [_, _, _] at S14
      refine zzeT [0, 3, 4, 22, 23, 6] rfl (zzrG (zzmv 2 rfl ?_))
      obtain ⟨M2, hle4, S15, ⟨A1, c1, e1, hr1⟩⟩ := S14.pubrow (i := 0) (H' := [_, _, _]) rfl rfl (by show _ * 8 ≤ _; first | omega | (simp only [ls]; omega))
      clear S14; subst e1
      replace hsb := hsb.mono (Hp.U0 hle4 S15.mx)
      replace hsc := hsc.mono (Hp.U0 hle4 S15.mx)
      replace hsi := hsi.mono (Hp.U0 hle4 S15.mx)
      replace hso := hso.mono (Hp.U0 hle4 S15.mx)
      replace hdo := hdo.mono hle4
      refine zzwU rfl (Uh (C := (cdV 36)) (l := [_]) rfl rfl rfl rfl sl69 rfl rfl rfl rfl S15 ?_)
      intro gb3 w12 S16; clear S15
      refine zzwU rfl (Uy (C := (cdV 36)) (i := 2) (q := 0) (⟨A1, (srt l).length, c1⟩ : SlV) rfl rfl rfl rfl rfl rfl rfl rfl sl69 S16 rfl rfl rfl (by show (_ + 1) * 24 ≤ _; first | omega | (simp only [ls]; omega)) ?_)
      intro vro1 w13 S17; clear S16
      have S18 := S17.pick [1, 2, 3] [_, _, _] (by decide) ⟨rfl, rfl, rfl, trivial⟩; clear S17
      have hd1 := hdo.snoc (c := c1) hr1
      refine zzmv 1 rfl (zzeE (U8 (zznT [0, 3, 4, 22, 23] rfl (zzrG (zzwr rfl (U1 rfl) (zzmv 1 rfl (zzeE (Uf ?_))))))))
      intro ax_ hax_
      refine ⟨_, ?hq8m, ⟨c + 1, _, _, (pss ++ [srt l]), _, _, _, (hle1.trans hle4), rfl, hax_.su rfl, S18.pick [1, 2] [_, _] (by decide) ⟨rfl, rfl, trivial⟩, ?hq8f0, ?hq8f1, ?hq8f2⟩⟩
      case hq8f0 => omega
      case hq8f1 => first | exact pcsN_skip hpn hb29 | exact pcsN_add hpn (by simpa using hb29) (hbf.trans (bfsN_stop (by show l.length ≤ i; omega)))
      case hq8f2 => first | exact hd1 | (rw [e9]; exact hd1)
      case hq8m => omega
  ·refine zzxE rfl (zznR [4] rfl (zzmv 2 rfl (zzeT [2] rfl ?_)))
   obtain ⟨M3, hle5, S19, ⟨A2, c2, e2, hr2⟩⟩ := S3.pubrow (i := 0) (H' := [_, _]) rfl rfl (by show _ * 24 ≤ _; first | omega | (simp only [ls]; omega))
   clear S3; subst e2
   replace hsb := hsb.mono (Hp.U0 hle5 S19.mx)
   replace hsc := hsc.mono (Hp.U0 hle5 S19.mx)
   replace hsi := hsi.mono (Hp.U0 hle5 S19.mx)
   replace hso := hso.mono (Hp.U0 hle5 S19.mx)
   replace hdo := hdo.mono hle5
   refine zzrT hC rfl ?_
   refine ⟨_, rfl, _, hle1.trans hle5, (S19.pick [] [] (by decide) trivial), ?_⟩
   obtain rfl : c = d.crs.length := by omega
   have e2 : pcsL d = pss := by unfold pcsL; rw [hpn]
   rw [e2]
   exact ⟨_, _, _, rfl, hr2, hdo⟩
end Go.Proofs.Ytkcighnochjlgaa
namespace Go.Proofs.Ytkcighnochjlgaa
open Go.ChangeShapes Go.WideShapes Go.ChangeAt Go.RowKit
theorem gs_same {xs : List Bool} {i : Nat} {y : Bool} (h : i < xs.length) : ga (xs.set i y) i = y := by rw [U3 _ _ _ _ h, if_pos rfl]
theorem gs_ne {xs : List Bool} {i j : Nat} {y : Bool} (h : i ≠ j) : ga (xs.set i y) j = ga xs j := by unfold ga; simp [List.getElem?_set, h]
inductive Rc (d : Dg) : Nat → Nat → Prop
 | refl (x : Nat) : Rc d x x
 | step {x y k : Nat} : Rc d x y → k < 4 → Rc d x (nbC d y k)
structure BI (d : Dg) (n : Nat) (s0 : List Bool) (c : Nat) (s : List Bool × List Int) : Prop where
 len : s.1.length = n
 see : ∀ x, x < n → (ga s.1 x = true ↔ (ga s0 x = true ∨ (x : Int) ∈ s.2))
 nod : s.2.Nodup
 el : ∀ y ∈ s.2, ∃ z : Nat, y = (z : Int) ∧ z < n ∧ ga s0 z = false ∧ Rc d c z
 room : s.2.length + free s.1 ≤ n
theorem addS_bi {d : Dg} {n : Nat} {s0 : List Bool} {c : Nat} {s : List Bool × List Int} (h : BI d n s0 c s) {y : Nat} (hy : y < n) (hr : Rc d c y) :
  BI d n s0 c (addS s y) ∧ (∃ t, (addS s y).2 = s.2 ++ t) ∧ ga (addS s y).1 y = true ∧ ∀ x, ga s.1 x = true → ga (addS s y).1 x = true := by
 unfold addS
 by_cases hg : ga s.1 y = true
 ·rw [if_pos hg]
  exact ⟨h, ⟨[], by simp⟩, hg, fun x hx => hx⟩
 ·rw [if_neg hg]
  have hlen := h.len
  have hf : ga s.1 y = false := by simpa using hg
  have hnot : ¬ (ga s0 y = true ∨ (y : Int) ∈ s.2) := fun hh => hg ((h.see y hy).2 hh)
  have hfr := U1u (seen := s.1) (x := y) (by omega) hf
  have hro := h.room
  refine ⟨⟨by simp [hlen], fun x hx => ?_, ?_, fun z hz => ?_, ?_⟩, ⟨[(y : Int)], rfl⟩, ?_, fun x hx => ?_⟩
  ·by_cases e : x = y
   ·subst e
    exact ⟨fun _ => .inr (by simp), fun _ => gs_same (by omega)⟩
   ·show ga (s.1.set y true) x = true ↔ _
    rw [gs_ne (show y ≠ x from fun e' => e e'.symm)]
    rw [h.see x hx, List.mem_append, List.mem_singleton]
    constructor
    ·rintro (h1 | h1)
     ·exact .inl h1
     ·exact .inr (.inl h1)
    ·rintro (h1 | h1 | h1)
     ·exact .inl h1
     ·exact .inr h1
     ·exact absurd (Int.ofNat.inj h1) e
  ·rw [List.nodup_append]
   refine ⟨h.nod, by simp, fun a ha b hb e => ?_⟩
   rw [List.mem_singleton] at hb
   subst hb; subst e
   exact hnot (.inr ha)
  ·rcases List.mem_append.1 hz with hz | hz
   ·exact h.el z hz
   ·rw [List.mem_singleton] at hz
    exact ⟨y, hz, hy, by have := fun e => hnot (.inl e); simpa using this, hr⟩
  ·show (s.2 ++ [(y : Int)]).length + free (s.1.set y true) ≤ n
   rw [List.length_append]
   show s.2.length + 1 + _ ≤ n
   omega
  ·exact gs_same (by omega)
  ·by_cases e : x = y
   ·subst e; exact gs_same (by omega)
   ·show ga (s.1.set y true) x = true
    rw [gs_ne (show y ≠ x from fun e' => e e'.symm)]; exact hx
theorem bfsS_bi {d : Dg} {s0 : List Bool} {c x : Nat} {s : List Bool × List Int} (hab : Ue d = true) (h : BI d d.crs.length s0 c s) (hx : x < d.crs.length) (hr : Rc d c x) (k : Nat) (hk : k ≤ 4) :
  BI d d.crs.length s0 c (bfsS d x s k) ∧ (∃ t, (bfsS d x s k).2 = s.2 ++ t) ∧ (∀ j, j < k → ga (bfsS d x s k).1 (nbC d x j) = true) ∧ ∀ z, ga s.1 z = true → ga (bfsS d x s k).1 z = true := by
 induction k with
 | zero => exact ⟨h, ⟨[], by simp [bfsS]⟩, fun j hj => by omega, fun z hz => hz⟩
 | succ k ih =>
  obtain ⟨h1, ⟨t1, h2⟩, h3, h4⟩ := ih (by omega)
  obtain ⟨g1, ⟨t2, g2⟩, g3, g4⟩ := addS_bi h1 (nbC_lt hab hx (show k < 4 by omega)) (hr.step (show k < 4 by omega))
  refine ⟨g1, ⟨t1 ++ t2, ?_⟩, fun j hj => ?_, fun z hz => g4 z (h4 z hz)⟩
  ·show (addS _ _).2 = _
   rw [g2, h2, List.append_assoc]
  ·by_cases e : j = k
   ·subst e; exact g3
   ·exact g4 _ (h3 j (by omega))
theorem bfsN_bi {d : Dg} {s0 : List Bool} {c : Nat} (hab : Ue d = true) : ∀ (f i : Nat) (s : List Bool × List Int), BI d d.crs.length s0 c s → d.crs.length ≤ i + f → i ≤ s.2.length → (∀ j, j < i → ∀ k, k < 4 → ga s.1 (nbC d (ga s.2 j).toNat k) = true) →
  BI d d.crs.length s0 c (bfsN d f i s) ∧ (∃ t, (bfsN d f i s).2 = s.2 ++ t) ∧ ∀ j, j < (bfsN d f i s).2.length → ∀ k, k < 4 → ga (bfsN d f i s).1 (nbC d (ga (bfsN d f i s).2 j).toNat k) = true := by
 intro f
 induction f with
 | zero =>
  intro i s h hf hi hp
  have := h.room
  exact ⟨h, ⟨[], by simp [bfsN]⟩, fun j hj => hp j (by have hj' : j < s.2.length := hj; omega)⟩
 | succ f ih =>
  intro i s h hf hi hp
  by_cases hlt : i < s.2.length
  ·rw [bfsN, if_pos hlt]
   obtain ⟨z, hz, hzn, _, hrz⟩ := h.el _ (ga_mem hlt)
   rw [hz, Int.toNat_natCast]
   obtain ⟨h1, ⟨t, h2⟩, h3, h4⟩ := bfsS_bi hab h hzn hrz 4 (Nat.le_refl _)
   obtain ⟨g1, ⟨t', g2⟩, g3⟩ := ih (i + 1) (bfsS d z s 4) h1 (by omega) (by rw [h2, List.length_append]; omega) (fun j hj k hk => by
    rw [h2, Ur _ _ _ (by omega)]
    by_cases e : j = i
    ·subst e; rw [hz, Int.toNat_natCast]; exact h3 k hk
    ·exact h4 _ (hp j (by omega) k hk))
   exact ⟨g1, ⟨t ++ t', by rw [g2, h2, List.append_assoc]⟩, g3⟩
  ·rw [bfsN_stop (by omega)]
   exact ⟨h, ⟨[], by simp⟩, fun j hj => hp j (by omega)⟩
structure PcI (d : Dg) (c : Nat) (s : List Bool × List (List Int)) : Prop where
 see : ∀ x, x < d.crs.length → (ga s.1 x = true ↔ ∃ i, i < s.2.length ∧ (x : Int) ∈ ga s.2 i)
 cov : ∀ x, x < c → ga s.1 x = true
 el : ∀ i, i < s.2.length → (ga s.2 i).Nodup ∧ ∃ c0 : Nat, c0 < d.crs.length ∧ (c0 : Int) ∈ ga s.2 i ∧ ∀ y ∈ ga s.2 i, ∃ z : Nat, y = (z : Int) ∧ z < d.crs.length ∧ Rc d c0 z
 clo : ∀ i, i < s.2.length → ∀ z : Nat, (z : Int) ∈ ga s.2 i → ∀ k, k < 4 → ((nbC d z k : Nat) : Int) ∈ ga s.2 i
 dis : ∀ i j, i < s.2.length → j < s.2.length → ∀ y, y ∈ ga s.2 i → y ∈ ga s.2 j → i = j
theorem pcsN_pi {d : Dg} (hab : Ue d = true) (hsym : ∀ x k, x < d.crs.length → k < 4 → ∃ k', k' < 4 ∧ nbC d (nbC d x k) k' = x) (c : Nat) (hc : c ≤ d.crs.length) : PcI d c (pcsN d c) := by
 induction c with
 | zero =>
  refine ⟨fun x hx => ?_, fun x hx => by omega, fun i hi => ?_, fun i hi => ?_, fun i j hi => ?_⟩
  ·simp only [pcsN]
   rw [U24 _ _ _ hx]
   constructor
   ·intro h; cases h
   ·rintro ⟨i, hi, _⟩; exact absurd hi (Nat.not_lt_zero _)
  all_goals exact absurd hi (Nat.not_lt_zero _)
 | succ c ih =>
  have I := ih (by omega)
  have hlen := pcsN_len d c
  generalize hs : pcsN d c = s at I hlen
  obtain ⟨seen, pss⟩ := s
  by_cases hg : ga seen c = true
  ·rw [pcsN_skip hs hg]
   exact ⟨I.see, fun x hx => by by_cases e : x = c; (subst e; exact hg); exact I.cov x (by omega), I.el, I.clo, I.dis⟩
  ·have hgf : ga seen c = false := by simpa using hg
   rw [pcsN_add hs hgf rfl]
   have hlen' : seen.length = d.crs.length := hlen
   have B0 : BI d d.crs.length seen c (seen.set c true, [(c : Int)]) := by
    have hfr := U1u (seen := seen) (x := c) (by omega) hgf
    have hfl : free seen ≤ seen.length := List.countP_le_length
    refine ⟨by simp [hlen'], fun x hx => ?_, by simp, fun y hy => ?_, by show 1 + free (seen.set c true) ≤ _; omega⟩
    ·by_cases e : x = c
     ·subst e; exact ⟨fun _ => .inr (by simp), fun _ => gs_same (by omega)⟩
     ·show ga (seen.set c true) x = true ↔ _
      rw [gs_ne (show c ≠ x from fun e' => e e'.symm)]
      constructor
      ·exact .inl
      ·rintro (h1 | h1)
       ·exact h1
       ·rw [List.mem_singleton] at h1; exact absurd (Int.ofNat.inj h1) e
    ·rw [List.mem_singleton] at hy; exact ⟨c, hy, by omega, hgf, .refl c⟩
   obtain ⟨B1, ⟨t, B2⟩, B3⟩ := bfsN_bi hab d.crs.length 0 _ B0 (by omega) (Nat.zero_le _) (fun j hj => by omega)
   generalize hr : bfsN d d.crs.length 0 (seen.set c true, [(c : Int)]) = r at B1 B2 B3 ⊢
   have hcm : (c : Int) ∈ r.2 := by rw [B2]; simp
   have hnew : ga (pss ++ [srt r.2]) pss.length = srt r.2 := by rw [U11 _ _ _ (Nat.le_refl _), Nat.sub_self]; rfl
   have hold : ∀ i, i < pss.length → ga (pss ++ [srt r.2]) i = ga pss i := fun i hi => Ur _ _ _ hi
   have hL : (pss ++ [srt r.2]).length = pss.length + 1 := by simp
   have hcl : ∀ z : Nat, (z : Int) ∈ r.2 → ∀ k, k < 4 → ((nbC d z k : Nat) : Int) ∈ r.2 := fun z hz k hk => by
    obtain ⟨j, hj, ej⟩ := List.mem_iff_getElem.1 hz
    have h1 := B3 j hj k hk
    rw [U14 hj, ej, Int.toNat_natCast] at h1
    obtain ⟨z', e', hzn, hz0, _⟩ := B1.el _ hz
    obtain rfl : z = z' := by omega
    have hnl := nbC_lt hab hzn hk
    rcases (B1.see _ hnl).1 h1 with h2 | h2
    ·exfalso
     obtain ⟨i, hi, hm⟩ := (I.see _ hnl).1 h2
     obtain ⟨k', hk', e2⟩ := hsym z k hzn hk
     have h3 := I.clo i hi _ hm k' hk'
     rw [e2] at h3
     have h4 := (I.see z hzn).2 ⟨i, hi, h3⟩
     have h5 : ga seen z = true := h4
     rw [hz0] at h5; cases h5
    ·exact h2
   refine ⟨fun x hx => ?_, fun x hx => ?_, fun i hi => ?_, fun i hi => ?_, fun i j hi hj y hy hy' => ?_⟩
   ·show ga r.1 x = true ↔ ∃ i, i < (pss ++ [srt r.2]).length ∧ (x : Int) ∈ ga (pss ++ [srt r.2]) i
    rw [B1.see x hx]
    have hI : ga seen x = true ↔ ∃ i, i < pss.length ∧ (x : Int) ∈ ga pss i := I.see x hx
    rw [hI]
    constructor
    ·rintro (⟨i, hi, hm⟩ | hm)
     ·exact ⟨i, by omega, by rw [hold i hi]; exact hm⟩
     ·exact ⟨pss.length, by omega, by rw [hnew]; exact srt_mem.2 hm⟩
    ·rintro ⟨i, hi, hm⟩
     by_cases e : i < pss.length
     ·rw [hold i e] at hm; exact .inl ⟨i, e, hm⟩
     ·obtain rfl : i = pss.length := by omega
      rw [hnew] at hm; exact .inr (srt_mem.1 hm)
   ·show ga r.1 x = true
    rw [B1.see x (by omega)]
    by_cases e : x = c
    ·subst e; exact .inr hcm
    ·exact .inl (I.cov x (by omega))
   ·show (ga (pss ++ [srt r.2]) i).Nodup ∧ ∃ c0 : Nat, c0 < d.crs.length ∧ (c0 : Int) ∈ ga (pss ++ [srt r.2]) i ∧ ∀ y ∈ ga (pss ++ [srt r.2]) i, _
    have hi' : i < (pss ++ [srt r.2]).length := hi
    by_cases e : i < pss.length
    ·rw [hold i e]; exact I.el i e
    ·obtain rfl : i = pss.length := by omega
     rw [hnew]
     refine ⟨(srt_perm r.2).nodup_iff.2 B1.nod, c, by omega, srt_mem.2 hcm, fun y hy => ?_⟩
     obtain ⟨z, h1, h2, _, h3⟩ := B1.el y (srt_mem.1 hy)
     exact ⟨z, h1, h2, h3⟩
   ·show ∀ z : Nat, (z : Int) ∈ ga (pss ++ [srt r.2]) i → ∀ k, k < 4 → ((nbC d z k : Nat) : Int) ∈ ga (pss ++ [srt r.2]) i
    have hi' : i < (pss ++ [srt r.2]).length := hi
    by_cases e : i < pss.length
    ·rw [hold i e]; exact I.clo i e
    ·obtain rfl : i = pss.length := by omega
     rw [hnew]
     intro z hz k hk
     exact srt_mem.2 (hcl z (srt_mem.1 hz) k hk)
   ·have hi' : i < (pss ++ [srt r.2]).length := hi
    have hj' : j < (pss ++ [srt r.2]).length := hj
    have hy1 : y ∈ ga (pss ++ [srt r.2]) i := hy
    have hy2 : y ∈ ga (pss ++ [srt r.2]) j := hy'
    have key : ∀ i, i < pss.length → y ∈ ga pss i → y ∈ r.2 → False := fun i hi h1 h2 => by
     obtain ⟨z, rfl, hzn, hz0, _⟩ := B1.el y h2
     have h5 : ga seen z = true := (I.see z hzn).2 ⟨i, hi, h1⟩
     rw [hz0] at h5; cases h5
    by_cases e : i < pss.length
    ·rw [hold i e] at hy1
     by_cases e' : j < pss.length
     ·rw [hold j e'] at hy2; exact I.dis i j e e' y hy1 hy2
     ·obtain rfl : j = pss.length := by omega
      rw [hnew] at hy2
      exact (key i e hy1 (srt_mem.1 hy2)).elim
    ·obtain rfl : i = pss.length := by omega
     rw [hnew] at hy1
     by_cases e' : j < pss.length
     ·rw [hold j e'] at hy2
      exact (key j e' hy2 (srt_mem.1 hy1)).elim
     ·omega
end Go.Proofs.Ytkcighnochjlgaa
namespace Go.Proofs.Ytkcighnochjlgaa
open Go.ChangeShapes Go.WideShapes Go.ChangeAt Go.RowKit
theorem endOf_back {d : Dg} (h : Ue d = true) {c k : Nat} {b : Bool} (hc : c < d.crs.length) (hk : k < 4) (hin : Ui d c k = !b) : Un d (Uu d c k) b = (c, k) := by
 have hr := Uq h hc hk
 have hcn : cntP d ((Uu d c k).toNat : Nat) b (4 * d.crs.length) = 1 := by
  have := arcsB_out h (Uu d c k).toNat (by omega) (by omega)
  cases b
  ·exact this.1
  ·exact this.2
 rw [show (((Uu d c k).toNat : Nat) : Int) = Uu d c k by omega] at hcn
 obtain ⟨j, j1, j2, j3, j4⟩ := cntP_one hcn
 have hme : endP d (Uu d c k) b (4 * c + k) = true := by rw [endP_at hk]; cases b <;> simp [hin]
 obtain rfl := j3 (4 * c + k) (by omega) hme
 have e := lastP_end hcn
 rw [j4] at e
 rw [← e]
 exact Prod.ext (by dsimp only; omega) (by dsimp only; omega)
theorem endOf_there {d : Dg} (h : Ue d = true) {a : Int} (ha : 1 ≤ a ∧ a ≤ 2 * (d.crs.length : Int)) (b : Bool) : Uu d (Un d a b).1 (Un d a b).2 = a ∧ Ui d (Un d a b).1 (Un d a b).2 = !b := by
 obtain ⟨_, _, _, h4, h5⟩ := endOf_lt h (a := a.toNat) (by omega) (by omega) b
 rw [show ((a.toNat : Nat) : Int) = a by omega] at h4 h5
 exact ⟨h4, h5⟩
theorem nb_sym {d : Dg} (h : Ue d = true) (x k : Nat) (hx : x < d.crs.length) (hk : k < 4) : ∃ k', k' < 4 ∧ nbC d (nbC d x k) k' = x := by
 have ha := Uq h hx hk
 obtain ⟨h1, h2, _⟩ := endD h ha (Ui d x k)
 obtain ⟨h3, h4⟩ := endOf_there h ha (Ui d x k)
 refine ⟨(Un d (Uu d x k) (Ui d x k)).2, h2, ?_⟩
 show (Un d (Uu d (Un d (Uu d x k) (Ui d x k)).1 (Un d (Uu d x k) (Ui d x k)).2) (Ui d (Un d (Uu d x k) (Ui d x k)).1 (Un d (Uu d x k) (Ui d x k)).2)).1 = x
 rw [h3, h4, endOf_back h hx hk (by cases Ui d x k <;> rfl)]
theorem pcs {d : Dg} (h : Ue d = true) : PcI d d.crs.length (pcsN d d.crs.length) := pcsN_pi h (nb_sym h) _ (Nat.le_refl _)
def putP (i : Nat) (p : List Int) (es : List (Int × Int)) : Nat → List (Int × Int)
 | 0 => es
 | k + 1 => mp (ga p k) (i : Int) (putP i p es k)
def pmapN (pss : List (List Int)) : Nat → List (Int × Int)
 | 0 => []
 | i + 1 => putP i (ga pss i) (pmapN pss i) (ga pss i).length
theorem putP_mg (i : Nat) (p : List Int) (es : List (Int × Int)) (k : Nat) (hk : k ≤ p.length) (y : Int) : (y ∈ p.take k → mg y (putP i p es k) = some (i : Int)) ∧ (y ∉ p.take k → mg y (putP i p es k) = mg y es) := by
 induction k with
 | zero => exact ⟨fun h => by simp at h, fun _ => rfl⟩
 | succ k ih =>
  have ih := ih (by omega)
  rw [take_ga _ _ (by omega), putP, mg_mp]
  constructor
  ·intro h
   by_cases e : y = ga p k
   ·rw [if_pos e]
   ·rw [if_neg e]
    rcases List.mem_append.1 h with h | h
    ·exact ih.1 h
    ·exact absurd (List.mem_singleton.1 h) e
  ·intro h
   rw [List.mem_append, List.mem_singleton] at h
   rw [if_neg (fun e => h (.inr e))]
   exact ih.2 (fun e => h (.inl e))
theorem pmapN_mg {pss : List (List Int)} (hd : ∀ i j, i < pss.length → j < pss.length → ∀ y, y ∈ ga pss i → y ∈ ga pss j → i = j) (m : Nat) (hm : m ≤ pss.length) {i : Nat} (hi : i < m) {y : Int} (hy : y ∈ ga pss i) : mg y (pmapN pss m) = some (i : Int) := by
 induction m with
 | zero => omega
 | succ m ih =>
  have h := putP_mg m (ga pss m) (pmapN pss m) (ga pss m).length (Nat.le_refl _) y
  rw [List.take_length] at h
  rw [pmapN]
  by_cases e : y ∈ ga pss m
  ·rw [h.1 e, hd i m (by omega) (by omega) y hy e]
  ·rw [h.2 e]
   exact ih (by omega) (by
    rcases Nat.lt_or_ge i m with h1 | h1
    ·exact h1
    ·obtain rfl : i = m := by omega
     exact absurd hy e)
def pmap (d : Dg) : List (Int × Int) := pmapN (pcsL d) (pcsL d).length
def pcI (d : Dg) (x : Nat) : Nat := ((mg (x : Int) (pmap d)).getD 0).toNat
theorem pcI_at {d : Dg} (h : Ue d = true) {i x : Nat} (hi : i < (pcsL d).length) (hx : (x : Int) ∈ ga (pcsL d) i) : mg (x : Int) (pmap d) = some (i : Int) ∧ pcI d x = i := by
 have e := pmapN_mg (pcs h).dis _ (Nat.le_refl _) hi hx
 refine ⟨e, ?_⟩
 unfold pcI
 unfold pmap
 rw [show mg (x : Int) (pmapN (pcsL d) (pcsL d).length) = some (i : Int) from e]
 rfl
theorem pcI_lt {d : Dg} (h : Ue d = true) {x : Nat} (hx : x < d.crs.length) : pcI d x < (pcsL d).length ∧ (x : Int) ∈ ga (pcsL d) (pcI d x) ∧ (mg (x : Int) (pmap d)).getD 0 = (pcI d x : Int) := by
 obtain ⟨i, hi, hm⟩ := ((pcs h).see x hx).1 ((pcs h).cov x hx)
 have hi' : i < (pcsL d).length := hi
 have hm' : (x : Int) ∈ ga (pcsL d) i := hm
 obtain ⟨h1, h2⟩ := pcI_at h hi' hm'
 rw [h2]
 exact ⟨hi', hm', by rw [h1]; rfl⟩
def fcN (d : Dg) : Nat → List Int
 | 0 => List.replicate (pcsL d).length 0
 | k + 1 => (fcN d k).set (pcI d (fcC d k)) (ga (fcN d k) (pcI d (fcC d k)) + 1)
theorem fcN_len (d : Dg) (k : Nat) : (fcN d k).length = (pcsL d).length := by
 induction k with
 | zero => exact List.length_replicate
 | succ k ih => rw [fcN, List.length_set, ih]
theorem fcN_bd (d : Dg) (k j : Nat) : 0 ≤ ga (fcN d k) j ∧ ga (fcN d k) j ≤ k := by
 induction k generalizing j with
 | zero =>
  by_cases h : j < (pcsL d).length
  ·rw [fcN, U24 _ _ _ h]; simp
  ·rw [fcN, show ga (List.replicate (pcsL d).length (0 : Int)) j = 0 from by unfold ga; simp [h]]; exact ⟨Int.le_refl _, Int.le_refl _⟩
 | succ k ih =>
  rw [fcN]
  have h1 := ih j
  have h2 := ih (pcI d (fcC d k))
  by_cases e : pcI d (fcC d k) = j
  ·by_cases hl : j < (fcN d k).length
   ·subst e; rw [U3 _ _ _ _ hl, if_pos rfl]; omega
   ·rw [List.set_eq_of_length_le (by omega)]; omega
  ·rw [ga_set_ne _ _ _ _ e]; omega
theorem nodup_le {α : Type} [DecidableEq α] {xs ys : List α} (h : xs.Nodup) (hs : ∀ y ∈ xs, y ∈ ys) : xs.length ≤ ys.length := by
 induction xs generalizing ys with
 | nil => exact Nat.zero_le _
 | cons x xs ih =>
  rw [List.nodup_cons] at h
  have hx := hs x (by simp)
  have h1 := ih h.2 (ys := ys.erase x) (fun y hy => (List.mem_erase_of_ne (fun (e : y = x) => h.1 (by rw [← e]; exact hy))).2 (hs y (by simp [hy])))
  rw [List.length_erase_of_mem hx] at h1
  have := List.length_pos_of_mem hx
  rw [List.length_cons]
  omega
def planP (d : Dg) : Bool := (List.range (pcsL d).length).all fun i => decide (ga (fcN d (Ug d).length) i = ((ga (pcsL d) i).length : Int) + 2)
theorem planP_t {d : Dg} (h : ∀ i, i < (pcsL d).length → ga (fcN d (Ug d).length) i = ((ga (pcsL d) i).length : Int) + 2) : planP d = true := by
 unfold planP
 rw [List.all_eq_true]
 intro p hp
 exact decide_eq_true (h p (List.mem_range.1 hp))
theorem planP_f {d : Dg} {i : Nat} (hi : i < (pcsL d).length) (h : ¬ ga (fcN d (Ug d).length) i = ((ga (pcsL d) i).length : Int) + 2) : planP d = false := by
 unfold planP
 rw [List.all_eq_false]
 exact ⟨i, List.mem_range.2 hi, by simpa using h⟩
theorem pcsL_bd {d : Dg} (h : Ue d = true) {i : Nat} (hi : i < (pcsL d).length) : (ga (pcsL d) i).length ≤ d.crs.length ∧ ∀ y ∈ ga (pcsL d) i, 0 ≤ y ∧ y < (d.crs.length : Int) := by
 obtain ⟨h1, c0, _, _, h2⟩ := (pcs h).el i hi
 have hb : ∀ y ∈ ga (pcsL d) i, 0 ≤ y ∧ y < (d.crs.length : Int) := fun y hy => by obtain ⟨z, rfl, hz, _⟩ := h2 y hy; omega
 refine ⟨?_, hb⟩
 have h3 := nodup_le (ys := (List.range d.crs.length).map fun x : Nat => (x : Int)) h1 (fun y hy => by
  obtain ⟨z, rfl, hz, _⟩ := h2 y hy
  exact List.mem_map.2 ⟨z, List.mem_range.2 hz, rfl⟩)
 rw [List.length_map, List.length_range] at h3
 exact h3
noncomputable def Z2v := Try.f115.body.getD .skip
set_option maxHeartbeats 1000000 in
set_option maxRecDepth 10000 in
theorem Planar_t {w : World} {M : Hp} {X : Fr} (d : Dg) {gsh : Nat} {cA iA oA : Option Addr} {cc ic oc : Nat} (hsb : BxM (M.un X.h) gsh 114 [.slice cA d.crs.length cc, .int .i64 d.loops, .slice iA (tabL d false (4 * d.crs.length)).length ic, .slice oA (tabL d true (4 * d.crs.length)).length oc]) (hsc : RdA cdCr (M.un X.h) cA cc d.crs) (hsi : RdA cdPl (M.un X.h) iA ic (tabL d false (4 * d.crs.length))) (hso : RdA cdPl (M.un X.h) oA oc (tabL d true (4 * d.crs.length))) (hn : d.crs.length ≤ 16) (hab : Ue d = true) (S : SH w M X []) : Ct Try.prog 115 [.pointer (some ⟨gsh, 0, none⟩)] w M X (fun u _ => u = .bool (planP d)) := by
 unfold Ct
 refine U7 (b := Z2v) Try.func115 rfl Try.ntmps115 rfl (fun C hC => (zzwsk [0] rfl (zzsR (zzmv 1 rfl (zzeR [0] rfl (zzwU rfl (wo_makeMap Int Int (Value.int .i64) (Value.int .i64) rfl rfl rfl S ?_)))))))
 intro gm1 w1 S1; clear S
 refine zzmv 1 rfl (zzeR [0, 3] rfl (zzmv 1 rfl (zzwU rfl (wo_ct rfl rfl rfl rfl rfl rfl rfl cf135 S1 (Pieces_t d (hsb.mono S1.Uj) (hsc.mono S1.Uj) (hsi.mono S1.Uj) (hso.mono S1.Uj) hn hab S1.lend) ?_))))
 intro vw2 w2 M1 hle1 S2 hRw2; clear S1
 replace hsb := hsb.mono (Hp.U0 hle1 S2.mx)
 replace hsc := hsc.mono (Hp.U0 hle1 S2.mx)
 replace hsi := hsi.mono (Hp.U0 hle1 S2.mx)
 replace hso := hso.mono (Hp.U0 hle1 S2.mx)
 obtain ⟨A1, c1, vs1, rfl, hr1, hd1⟩ := hRw2
 have hlenpcsL := hd1.1
 refine zzmv 1 rfl (zzeS [0, 3, 4] rfl (zzsR (zzmv 1 rfl (zzwr rfl (zzln rfl uT69) (zzmv 1 rfl (zzeE (U6 (zzbK ?_))))))))
 refine U4 (fun mx_ ax_ wx_ => ∃ (i : Nat) (es : List (Int × Int)), mx_ = (pcsL d).length - i ∧ Env 75 [(0, .pointer (some ⟨gsh, 0, none⟩)), (3, .map (some gm1)), (4, .slice A1 vs1.length c1), (17, .slice A1 vs1.length c1), (18, .int .i64 (vs1.length : Int)), (19, .int .i64 (i : Int))] ax_ ∧ SH wx_ M1 X [Rs.mp (Value.int .i64) (Value.int .i64) gm1 es] ∧ i ≤ (pcsL d).length ∧ es = pmapN (pcsL d) i) rfl ?_ ?_
 ·intro ax_ hax_
  refine ⟨_, ⟨0, [], rfl, hax_.su rfl, S2.pick [0] [_] (by decide) ⟨rfl, trivial⟩, ?hq1f0, ?hq1f1⟩⟩
  case hq1f0 => omega
  case hq1f1 => rfl
 ·rintro m2 a1 w3 ⟨i, es, rfl, he1, S3, hi, hes⟩
  clear S2
  refine zziN he1 ?_
  clear he1 a1
  have hpl := pcsN_many d d.crs.length
  replace hpl : (pcsL d).length ≤ d.crs.length := hpl
  refine zzsR (zzmv 1 rfl (zzeE (zztS ?_)))
  refine zzcD rfl (fun hb20 => ?_) (fun hb20 => ?_)
  ·refine zzsK (zznS [0, 3, 4, 17, 18, 19] rfl (zzbK (zzsR (zzmv 1 rfl (zzwr rfl (Ux i rfl sl69 hr1) ?_)))))
   obtain ⟨hn1, hr2⟩ := hd1.2 i (by first | omega | (simp only [ls]; omega))
   have rmhr2 : (ga (pcsL d) i).length * 8 ≤ 140737488355328 := hr2.room
   refine zzwr rfl (zzld1 rfl uT36 (hr1.cell S3.m (i := i) (by first | omega | (simp only [ls]; omega)) 0 rfl (congrArg (fun n => some (Value.slice _ n _)) hn1))) ?_
   refine zzmv 2 rfl (zzeR [0, 3, 4, 17, 18, 19, 5, 6] rfl (zzmv 1 rfl (zzwr rfl (zzln rfl uT36) (zzmv 1 rfl (zzeT [0, 3, 4, 17, 18, 19, 5, 24, 25, 26] rfl (zzbK ?_))))))
   refine U4 (fun mx_ ax_ wx_ => ∃ (k : Nat) (es2 : List (Int × Int)), mx_ = (ga (pcsL d) i).length - k ∧ Env 75 [(0, .pointer (some ⟨gsh, 0, none⟩)), (3, .map (some gm1)), (4, .slice A1 vs1.length c1), (17, .slice A1 vs1.length c1), (18, .int .i64 (vs1.length : Int)), (19, .int .i64 (i : Int)), (5, .int .i64 (i : Int)), (24, .slice ((ga vs1 i).A) (ga (pcsL d) i).length ((ga vs1 i).c)), (25, .int .i64 ((ga (pcsL d) i).length : Int)), (26, .int .i64 (k : Int))] ax_ ∧ SH wx_ M1 X [Rs.mp (Value.int .i64) (Value.int .i64) gm1 es2] ∧ k ≤ (ga (pcsL d) i).length ∧ es2 = putP i (ga (pcsL d) i) es k) rfl ?_ ?_
   ·intro ax_ hax_
    refine ⟨_, ⟨0, es, rfl, hax_.su rfl, S3.pick [0] [_] (by decide) ⟨rfl, trivial⟩, ?hq2f0, ?hq2f1⟩⟩
    case hq2f0 => omega
    case hq2f1 => rfl
   ·rintro m3 a2 w4 ⟨k, es2, rfl, he2, S4, hk, hes2⟩
    clear S3
    refine zziN he2 ?_
    clear he2 a2
    have hpb := pcsL_bd hab (i := i) (by omega)
    refine zzsR (zzmv 1 rfl (zzeE (zztS ?_)))
    refine zzcD rfl (fun hb27 => ?_) (fun hb27 => ?_)
    ·refine zzsK (zznS [0, 3, 4, 17, 18, 19, 5, 24, 25, 26] rfl (zzbK (zzsR (zzwr rfl (Ux k rfl sl36 hr2) (zzwr rfl (zzld1 rfl uT3 (hr2.cell S4.m (i := k) (by first | omega | (simp only [ls]; omega)) 0 rfl rfl)) ?_)))))
     refine zzmv 1 rfl (zzeT [0, 3, 4, 17, 18, 19, 5, 24, 25, 26, 8] rfl (zzrG (zzmv 3 rfl (zzwU rfl (wo_mapUpdate (kc := Value.int .i64) (vc := Value.int .i64) (es := es2) (k := (ga (ga (pcsL d) i) k)) (e := (i : Int)) (i := 0) (H' := [_]) (.inl rfl) rfl S4 rfl rfl rfl rfl uT86 mk3 rfl ?_)))))
     intro w5 S5; clear S4
     refine zzeE (U8 (zznT [0, 3, 4, 17, 18, 19, 5, 24, 25, 26] rfl (zzrG (zzwr rfl (U1 rfl) (zzmv 1 rfl (zzeE (Uf ?_)))))))
     intro ax_ hax_
     refine ⟨_, ?hq3m, ⟨k + 1, _, rfl, hax_.su rfl, S5.pick [0] [_] (by decide) ⟨rfl, trivial⟩, ?hq3f0, ?hq3f1⟩⟩
     case hq3f0 => omega
     case hq3f1 => (rw [hes2]; rfl)
     case hq3m => omega
    ·refine zzxE rfl (U8 (zznT [0, 3, 4, 17, 18, 19] rfl (zzrG (zzwr rfl (U1 rfl) (zzmv 1 rfl (zzeE (Uf ?_)))))))
     intro ax_ hax_
     refine ⟨_, ?hq4m, ⟨i + 1, _, rfl, hax_.su rfl, S4.pick [0] [_] (by decide) ⟨rfl, trivial⟩, ?hq4f0, ?hq4f1⟩⟩
     case hq4f0 => omega
     case hq4f1 => (obtain rfl : k = (ga (pcsL d) i).length := (by omega); rw [hes2, hes]; rfl)
     case hq4m => omega
  ·have hesd : es = pmap d := by rw [hes, show i = (pcsL d).length by omega]; rfl
   have hpl0 := pcsN_many d d.crs.length
   replace hpl0 : (pcsL d).length ≤ d.crs.length := hpl0
   refine zzxE rfl (zznR [0, 3, 4] rfl (zzmv 1 rfl (zzwr rfl (zzln rfl uT69) (zzwU rfl (U1y (C := U2) vs1.length rfl rfl rfl rfl rfl sl36 (by first | rfl | omega) (by show _ * 8 ≤ _; first | omega | (simp only [ls]; omega)) S3 ?_)))))
   intro vr1 w6 S6; clear S3
   refine zzmv 1 rfl (zzeS [0, 3, 4, 9] rfl (zzsR (zzmv 1 rfl (zzwU rfl (wo_ct rfl rfl rfl rfl rfl rfl rfl cf136 S6 (InF.Faces_t d (hsb.mono S6.Uj) (hsc.mono S6.Uj) (hsi.mono S6.Uj) (hso.mono S6.Uj) hn hab S6.lend) ?_)))))
   intro vw7 w7 M2 hle4 S7 hRw7; clear S6
   replace hsb := hsb.mono (Hp.U0 hle4 S7.mx)
   replace hsc := hsc.mono (Hp.U0 hle4 S7.mx)
   replace hsi := hsi.mono (Hp.U0 hle4 S7.mx)
   replace hso := hso.mono (Hp.U0 hle4 S7.mx)
   replace hr1 := hr1.mono hle4
   replace hd1 := hd1.mono hle4
   obtain ⟨A2, c2, vs2, rfl, hr3, hd2⟩ := hRw7
   have hlenfacesL := hd2.1
   refine zzwr rfl (zzln rfl uT142) (zzmv 1 rfl (zzeT [0, 3, 4, 9, 39, 40, 41] rfl (zzbK ?_)))
   refine U4 (fun mx_ ax_ wx_ => ∃ (k : Nat) (fs : List Int) (vrf : Value), mx_ = (Ug d).length - k ∧ Env 75 [(0, .pointer (some ⟨gsh, 0, none⟩)), (3, .map (some gm1)), (4, .slice A1 vs1.length c1), (9, vrf), (39, .slice A2 vs2.length c2), (40, .int .i64 (vs2.length : Int)), (41, .int .i64 (k : Int))] ax_ ∧ SH wx_ M2 X [Rs.row U2 vrf fs, Rs.mp (Value.int .i64) (Value.int .i64) gm1 es] ∧ k ≤ (Ug d).length ∧ fs = fcN d k) rfl ?_ ?_
   ·intro ax_ hax_
    refine ⟨_, ⟨0, _, _, rfl, hax_.su rfl, S7.pick [0, 1] [_, _] (by decide) ⟨rfl, rfl, trivial⟩, ?hq5f0, ?hq5f1⟩⟩
    case hq5f0 => omega
    case hq5f1 => (rw [hlenpcsL]; rfl)
   ·rintro m4 a3 w8 ⟨k, fs, vrf, rfl, he3, S8, hk, hfs⟩
    clear S7
    refine zziN he3 ?_
    clear he3 a3
    have hfm := facesL_many d
    have hfl2 : fs.length = (pcsL d).length := by rw [hfs, fcN_len]
    refine zzsR (zzmv 1 rfl (zzeE (zztS ?_)))
    refine zzcD rfl (fun hb42 => ?_) (fun hb42 => ?_)
    ·obtain ⟨hh0, hok⟩ := hd0_ok (d := d) (k := k) (by omega)
     have hfc := fcC_lt hab (k := k) (by omega)
     have hpi := pcI_lt hab hfc
     obtain ⟨hpi1, hpi2, hpi3⟩ := hpi
     rw [← hesd] at hpi3
     have hfb := fcN_bd d k (pcI d (fcC d k))
     rw [← hfs] at hfb
     refine zzsK (zznS [0, 3, 4, 9, 39, 40, 41] rfl (zzbK (zzsR (zzwr rfl (Ux k rfl sl142 hr3) ?_))))
     obtain ⟨hn2, hr4⟩ := hd2.2 k (by first | omega | (simp only [ls]; omega))
     have rmhr4 : (ga (Ug d) k).length * 16 ≤ 140737488355328 := hr4.room
     refine zzwr rfl (zzld1 rfl uT168 (hr3.cell S8.m (i := k) (by first | omega | (simp only [ls]; omega)) 0 rfl (congrArg (fun n => some (Value.slice _ n _)) hn2))) ?_
     refine zzmv 1 rfl (zzeT [0, 3, 4, 9, 39, 40, 41, 11] rfl (zzrG (zzmv 4 rfl (zzwr rfl (Ux 0 rfl sl168 hr4) (zzwr rfl (Ut [_, _] rfl uT167 sz167 (hr4.U1p S8.m (e := 0) (by first | omega | (simp only [ls]; omega)) (j := 0) ⟨rfl, rfl, trivial⟩)) ?_)))))
     refine zzwU rfl (U26 rfl rfl rfl rfl rfl rfl rfl cf149 S8 (Head_q d (ga (ga (Ug d) k) 0) (hsb.mono S8.Uj) (hsc.mono S8.Uj) (hsi.mono S8.Uj) (hso.mono S8.Uj) (by first | assumption | omega) hab (by first | assumption | omega) S8.lend) ?_)
     rintro _ w9 S9 rfl; clear S8
     refine zzwr rfl (U29 rfl rfl uT196 rfl uT3 rfl rfl) (zzwr rfl (run_lookup (kc := Value.int .i64) (vc := Value.int .i64) (es := es) (k := ((Un d (ga (ga (Ug d) k) 0).a (ga (ga (Ug d) k) 0).b).1 : Int)) (zv := 0) (i := 1) rfl rfl rfl uT86 mk3 zr3 S9 rfl) (wl_eq 53 (.int .i64 (pcI d (fcC d k) : Int)) rfl (int_eq hpi3) (zzwr rfl (Uc (i := 0) (pcI d (fcC d k)) rfl sl36 S9 rfl) (zzwr rfl (zzld1 rfl uT3 (S9.rowc (i := 0) (e := pcI d (fcC d k)) (j := 0) rfl (by first | omega | (simp only [ls]; omega)) rfl rfl)) ?_))))
     refine zzwr rfl (U1 rfl) (zzwr rfl (Uc (i := 0) (pcI d (fcC d k)) rfl sl36 S9 rfl) (zzwU rfl (Ub (C := U2) (i := 0) (e := pcI d (fcC d k)) (j := 0) (us := [_]) (H' := [_, _]) ((ga fs (pcI d (fcC d k))) + 1) rfl rfl S9 rfl (by first | omega | (simp only [ls]; omega)) rfl rfl rfl sz3 rfl rfl rfl rfl ?_)))
     intro w10 S10; clear S9
     refine zzeE (U8 (zznT [0, 3, 4, 9, 39, 40, 41] rfl (zzrG (zzwr rfl (U1 rfl) (zzmv 1 rfl (zzeE (Uf ?_)))))))
     intro ax_ hax_
     refine ⟨_, ?hq6m, ⟨k + 1, _, _, rfl, hax_.su rfl, S10.pick [0, 1] [_, _] (by decide) ⟨rfl, rfl, trivial⟩, ?hq6f0, ?hq6f1⟩⟩
     case hq6f0 => omega
     case hq6f1 => (rw [hfs]; rfl)
     case hq6m => omega
    ·have hfs3 : fs = fcN d (Ug d).length := by rw [hfs, show k = (Ug d).length by omega]
     refine zzxE rfl (zznS [4, 9] rfl (zzsR (zzmv 1 rfl (zzwr rfl (zzln rfl uT69) (zzmv 1 rfl (zzeT [9, 59, 60, 61] rfl (zzbK ?_)))))))
     refine U4 (fun mx_ ax_ wx_ => ∃ (j : Nat), mx_ = (pcsL d).length - j ∧ Env 75 [(9, vrf), (59, .slice A1 vs1.length c1), (60, .int .i64 (vs1.length : Int)), (61, .int .i64 (j : Int))] ax_ ∧ SH wx_ M2 X [Rs.row U2 vrf fs] ∧ j ≤ (pcsL d).length ∧ (∀ q, q < j → ga fs q = ((ga (pcsL d) q).length : Int) + 2)) rfl ?_ ?_
     ·intro ax_ hax_
      refine ⟨_, ⟨0, rfl, hax_.su rfl, S8.pick [0] [_] (by decide) ⟨rfl, trivial⟩, ?hq7f0, ?hq7f1⟩⟩
      case hq7f0 => omega
      case hq7f1 => (intro q hq; omega)
     ·rintro m5 a4 w11 ⟨j, rfl, he4, S11, hj, hall⟩
      clear S8
      refine zziN he4 ?_
      clear he4 a4
      have hpl := pcsN_many d d.crs.length
      replace hpl : (pcsL d).length ≤ d.crs.length := hpl
      have hfl2 : fs.length = (pcsL d).length := by rw [hfs3, fcN_len]
      refine zzsR (zzmv 1 rfl (zzeE (zztS ?_)))
      refine zzcD rfl (fun hb62 => ?_) (fun hb62 => ?_)
      ·have hpb := pcsL_bd hab (i := j) (by omega)
       refine zzsK (zznS [9, 59, 60, 61] rfl (zzbK (zzsR (zzmv 1 rfl (zzwr rfl (Ux j rfl sl69 hr1) ?_)))))
       obtain ⟨hn3, hr5⟩ := hd1.2 j (by first | omega | (simp only [ls]; omega))
       have rmhr5 : (ga (pcsL d) j).length * 8 ≤ 140737488355328 := hr5.room
       refine zzwr rfl (zzld1 rfl uT36 (hr1.cell S11.m (i := j) (by first | omega | (simp only [ls]; omega)) 0 rfl (congrArg (fun n => some (Value.slice _ n _)) hn3))) ?_
       refine zzmv 2 rfl (zzeR [9, 59, 60, 61, 12, 13] rfl (zzmv 2 rfl (zzwr rfl (Uc (i := 0) j rfl sl36 S11 rfl) (zzwr rfl (zzld1 rfl uT3 (S11.rowc (i := 0) (e := j) (j := 0) rfl (by first | omega | (simp only [ls]; omega)) rfl rfl)) ?_))))
       refine zzmv 1 rfl (zzwr rfl (zzln rfl uT36) (zzwr rfl (U1 rfl) (zzmv 1 rfl (zzeT [9, 59, 60, 61, 73] rfl ?_))))
       refine zzcD rfl (fun hb73 => ?_) (fun hb73 => ?_)
       ·refine zzsR (zzmv 1 rfl (zzeT [2] rfl (zzrT hC rfl ?_)))
        refine ⟨_, rfl, _, hle1.trans hle4, (S11.pick [] [] (by decide) trivial), ?_⟩
        refine congrArg Value.bool (planP_f (i := j) (by omega) ?_).symm
        rw [← hfs3]; omega
       ·refine zzsK (U8 (zznT [9, 59, 60, 61] rfl (zzrG (zzwr rfl (U1 rfl) (zzmv 1 rfl (zzeE (Uf ?_)))))))
        intro ax_ hax_
        refine ⟨_, ?hq8m, ⟨j + 1, rfl, hax_.su rfl, S11.pick [0] [_] (by decide) ⟨rfl, trivial⟩, ?hq8f0, ?hq8f1⟩⟩
        case hq8f0 => omega
        case hq8f1 => (intro q hq; by_cases h : q = j; (subst h; omega); exact hall q (by omega))
        case hq8m => omega
      ·refine zzxE rfl (zznR [] rfl (zzmv 1 rfl (zzeE (U6 (zzrT hC rfl ?_)))))
       refine ⟨_, rfl, _, hle1.trans hle4, (S11.pick [] [] (by decide) trivial), ?_⟩
       exact congrArg Value.bool (planP_t (d := d) (fun q hq => by rw [← hfs3]; exact hall q (by omega))).symm
end Go.Proofs.Ytkcighnochjlgaa
namespace Go.Proofs.Ytkcighnochjlgaa
open Go.ChangeShapes Go.WideShapes Go.ChangeAt Go.RowKit
def roundG (e1 e2 : Nat → Nat) (ws : List Int) : Nat → List Int
 | 0 => ws
 | k + 1 => stepW (roundG e1 e2 ws k) (e1 k) (e2 k)
def cn (P : Nat → Bool) : Nat → Nat
 | 0 => 0
 | k + 1 => cn P k + (if P k = true then 1 else 0)
theorem cn_le (P : Nat → Bool) (k : Nat) : cn P k ≤ k := by
 induction k with
 | zero => exact Nat.le_refl _
 | succ k ih => rw [cn]; split <;> omega
theorem cn_mono {P Q : Nat → Bool} (k : Nat) (h : ∀ x, x < k → P x = true → Q x = true) : cn P k ≤ cn Q k := by
 induction k with
 | zero => exact Nat.le_refl _
 | succ k ih =>
  have := ih (fun x hx => h x (by omega))
  rw [cn, cn]
  by_cases hp : P k = true
  ·rw [if_pos hp, if_pos (h k (by omega) hp)]; omega
  ·rw [if_neg hp]; omega
theorem cn_lt {P Q : Nat → Bool} (k : Nat) (h : ∀ x, x < k → P x = true → Q x = true) {x : Nat} (hx : x < k) (hq : Q x = true) (hp : P x = false) : cn P k < cn Q k := by
 induction k with
 | zero => omega
 | succ k ih =>
  rw [cn, cn]
  by_cases e : x = k
  ·subst e
   have := cn_mono x (P := P) (Q := Q) (fun y hy => h y (by omega))
   rw [if_pos hq, if_neg (by rw [hp]; exact Bool.false_ne_true)]; omega
  ·have := ih (fun y hy => h y (by omega)) (by omega)
   by_cases hp' : P k = true
   ·rw [if_pos hp', if_pos (h k (by omega) hp')]; omega
   ·rw [if_neg hp']; omega
theorem cn_all {P : Nat → Bool} (k : Nat) (h : k ≤ cn P k) : ∀ x, x < k → P x = true := by
 induction k with
 | zero => intro x hx; omega
 | succ k ih =>
  rw [cn] at h
  have hl := cn_le P k
  by_cases hp : P k = true
  ·intro x hx
   by_cases e : x = k
   ·subst e; exact hp
   ·rw [if_pos hp] at h; exact ih (by omega) x (by omega)
  ·rw [if_neg hp] at h; omega
theorem least {P : Nat → Prop} (y : Nat) (h : P y) : ∃ z, P z ∧ ∀ u, P u → z ≤ u := by
 induction y using Nat.strongRecOn with
 | _ y ih =>
  by_cases hs : ∃ u, u < y ∧ P u
  ·obtain ⟨u, hu, hp⟩ := hs
   exact ih u hu hp
  ·exact ⟨y, h, fun u hu => by
    rcases Nat.lt_or_ge u y with h1 | h1
    ·exact absurd ⟨u, h1, hu⟩ hs
    ·exact h1⟩
def LabOk (N : Nat) (cl : Nat → Nat) (ws : List Int) : Prop := ws.length = N ∧ ∀ x, x < N → ∃ z : Nat, z < N ∧ ga ws x = (z : Int) ∧ cl z = cl x
theorem stepW_ok {N : Nat} {cl : Nat → Nat} {ws : List Int} (h : LabOk N cl ws) {x y : Nat} (hx : x < N) (hy : y < N) (hc : cl x = cl y) : LabOk N cl (stepW ws x y) := by
 refine ⟨by rw [stepW_len]; exact h.1, fun z hz => ?_⟩
 have hl := h.1
 unfold stepW
 split
 ·rw [U3 _ _ _ _ (by omega)]
  split
  ·rename_i e; subst e
   obtain ⟨u, h1, h2, h3⟩ := h.2 x hx
   exact ⟨u, h1, h2, h3.trans hc⟩
  ·exact h.2 z hz
 ·rw [U3 _ _ _ _ (by omega)]
  split
  ·rename_i e; subst e
   obtain ⟨u, h1, h2, h3⟩ := h.2 y hy
   exact ⟨u, h1, h2, h3.trans hc.symm⟩
  ·exact h.2 z hz
theorem stepW_good {N : Nat} {cl : Nat → Nat} {m : Nat → Nat} (hm : ∀ x, x < N → ∀ y, y < N → cl y = cl x → m x ≤ y) (hmc : ∀ x y, x < N → y < N → cl x = cl y → m x = m y) {ws : List Int} (h : LabOk N cl ws) {x y : Nat} (hx : x < N) (hy : y < N) (hc : cl x = cl y) :
  (∀ z, z < N → ga ws z = (m z : Int) → ga (stepW ws x y) z = (m z : Int)) ∧ (ga ws x = (m x : Int) ∨ ga ws y = (m y : Int) → ga (stepW ws x y) x = (m x : Int) ∧ ga (stepW ws x y) y = (m y : Int)) := by
 have hl := h.1
 have hmm := hmc x y hx hy hc
 obtain ⟨u, u1, u2, u3⟩ := h.2 x hx
 obtain ⟨v, v1, v2, v3⟩ := h.2 y hy
 have b1 := hm x hx u u1 u3
 have b2 := hm y hy v v1 v3
 unfold stepW
 by_cases hlt : ga ws x < ga ws y
 ·rw [if_pos hlt]
  simp only [U3 _ _ _ _ (show y < ws.length by omega)]
  refine ⟨fun z hz hg => ?_, fun hg => ?_⟩
  ·split
   ·rename_i e; subst e; omega
   ·exact hg
  ·simp only [if_true, ite_self]
   have e0 : ga ws x = (m x : Int) := by rcases hg with hg | hg <;> omega
   omega
 ·rw [if_neg hlt]
  simp only [U3 _ _ _ _ (show x < ws.length by omega)]
  refine ⟨fun z hz hg => ?_, fun hg => ?_⟩
  ·split
   ·rename_i e; subst e; omega
   ·exact hg
  ·simp only [if_true, ite_self]
   have e0 : ga ws y = (m y : Int) := by rcases hg with hg | hg <;> omega
   omega
theorem labels {N K : Nat} (e1 e2 : Nat → Nat) (he : ∀ k, k < K → e1 k < N ∧ e2 k < N) (cl : Nat → Nat) (hin : ∀ k, k < K → cl (e1 k) = cl (e2 k))
  (hcon : ∀ Z : Nat → Prop, (∀ k, k < K → (Z (e1 k) ↔ Z (e2 k))) → ∀ x y, x < N → y < N → cl x = cl y → Z x → Z y)
  (ws : Nat → List Int) (hlen : (ws 0).length = N) (h0 : ∀ x : Nat, x < N → ga (ws 0) x = (x : Int)) (hs : ∀ j, ws (j + 1) = roundG e1 e2 (ws j) K) :
  ∀ x, x < N → ∃ z : Nat, z < N ∧ ga (ws N) x = (z : Int) ∧ cl z = cl x ∧ ∀ y, y < N → cl y = cl x → z ≤ y := by
 have hex : ∀ x : Nat, ∃ z : Nat, x < N → (z < N ∧ cl z = cl x) ∧ ∀ u, u < N ∧ cl u = cl x → z ≤ u := fun x => by
  by_cases hx : x < N
  ·obtain ⟨z, h1, h2⟩ := least (P := fun z => z < N ∧ cl z = cl x) x ⟨hx, rfl⟩
   exact ⟨z, fun _ => ⟨h1, h2⟩⟩
  ·exact ⟨0, fun h => absurd h hx⟩
 obtain ⟨m, hm0⟩ := Classical.axiomOfChoice hex
 have hm : ∀ x, x < N → ∀ y, y < N → cl y = cl x → m x ≤ y := fun x hx y hy e => (hm0 x hx).2 y ⟨hy, e⟩
 have hmc : ∀ x y, x < N → y < N → cl x = cl y → m x = m y := fun x y hx hy e => by
  have h1 := hm0 x hx
  have h2 := hm0 y hy
  have := h1.2 (m y) ⟨h2.1.1, h2.1.2.trans e.symm⟩
  have := h2.2 (m x) ⟨h1.1.1, h1.1.2.trans e⟩
  omega
 have hround : ∀ w, LabOk N cl w → ∀ k, k ≤ K → LabOk N cl (roundG e1 e2 w k) ∧ (∀ z, z < N → ga w z = (m z : Int) → ga (roundG e1 e2 w k) z = (m z : Int)) ∧
   ∀ j, j < k → (ga w (e1 j) = (m (e1 j) : Int) ∨ ga w (e2 j) = (m (e2 j) : Int)) → ga (roundG e1 e2 w k) (e1 j) = (m (e1 j) : Int) ∧ ga (roundG e1 e2 w k) (e2 j) = (m (e2 j) : Int) := fun w hw k => by
  induction k with
  | zero => exact fun _ => ⟨hw, fun z _ h => h, fun j hj => by omega⟩
  | succ k ih =>
   intro hk
   obtain ⟨a1, a2, a3⟩ := ih (by omega)
   obtain ⟨p1, p2⟩ := he k (by omega)
   have hc := hin k (by omega)
   obtain ⟨g1, g2⟩ := stepW_good hm hmc a1 p1 p2 hc
   refine ⟨stepW_ok a1 p1 p2 hc, fun z hz h => g1 z hz (a2 z hz h), fun j hj hg => ?_⟩
   obtain ⟨q1, q2⟩ := he j (by omega)
   by_cases e : j = k
   ·subst e
    exact g2 (hg.elim (fun h => .inl (a2 _ q1 h)) (fun h => .inr (a2 _ q2 h)))
   ·obtain ⟨r1, r2⟩ := a3 j (by omega) hg
    exact ⟨g1 _ q1 r1, g1 _ q2 r2⟩
 have hok : ∀ j, LabOk N cl (ws j) := fun j => by
  induction j with
  | zero => exact ⟨hlen, fun x hx => ⟨x, hx, h0 x hx, rfl⟩⟩
  | succ j ih => rw [hs]; exact (hround _ ih K (Nat.le_refl _)).1
 have hpers : ∀ j z, z < N → ga (ws j) z = (m z : Int) → ga (ws (j + 1)) z = (m z : Int) := fun j z hz h => by rw [hs]; exact (hround _ (hok j) K (Nat.le_refl _)).2.1 z hz h
 have hroot : ∀ j x, x < N → ga (ws j) (m x) = (m (m x) : Int) := fun j x hx => by
  have h1 := (hm0 x hx).1
  have e : m (m x) = m x := hmc _ _ h1.1 hx h1.2
  induction j with
  | zero => rw [h0 _ h1.1, e]
  | succ j ih => exact hpers j _ h1.1 ih
 have hgrow : ∀ j, (∀ x, x < N → ga (ws j) x = (m x : Int)) ∨ j ≤ cn (fun x => decide (ga (ws j) x = (m x : Int))) N := fun j => by
  induction j with
  | zero => exact .inr (Nat.zero_le _)
  | succ j ih =>
   rcases ih with ih | ih
   ·exact .inl fun x hx => hpers j x hx (ih x hx)
   ·by_cases hnew : ∃ x, x < N ∧ ga (ws (j + 1)) x = (m x : Int) ∧ ga (ws j) x ≠ (m x : Int)
    ·obtain ⟨x, hx, h1, h2⟩ := hnew
     right
     have := cn_lt (P := fun x => decide (ga (ws j) x = (m x : Int))) (Q := fun x => decide (ga (ws (j + 1)) x = (m x : Int))) N (fun z hz h => decide_eq_true (hpers j z hz (of_decide_eq_true h))) hx (decide_eq_true h1) (decide_eq_false h2)
     omega
    ·left
     have hsame : ∀ x, x < N → ga (ws (j + 1)) x = (m x : Int) → ga (ws j) x = (m x : Int) := fun x hx h => Classical.byContradiction fun h' => hnew ⟨x, hx, h, h'⟩
     have hcl := hcon (fun x => ga (ws j) x = (m x : Int)) (fun k hk => by
      obtain ⟨q1, q2⟩ := he k hk
      have h3 := (hround _ (hok j) K (Nat.le_refl _)).2.2 k hk
      rw [← hs] at h3
      exact ⟨fun h => hsame _ q2 (h3 (.inl h)).2, fun h => hsame _ q1 (h3 (.inr h)).1⟩)
     intro x hx
     have h1 := (hm0 x hx).1
     exact hpers j x hx (hcl (m x) x h1.1 hx h1.2 (hroot j x hx))
 intro x hx
 have hall : ga (ws N) x = (m x : Int) := by
  rcases hgrow N with h | h
  ·exact h x hx
  ·exact of_decide_eq_true (cn_all N h x hx)
 have h1 := hm0 x hx
 exact ⟨m x, h1.1.1, hall, h1.1.2, fun y hy e => h1.2 y ⟨hy, e⟩⟩
end Go.Proofs.Ytkcighnochjlgaa
namespace Go.Proofs.Ytkcighnochjlgaa
open Go.ChangeShapes Go.WideShapes Go.ChangeAt Go.RowKit
theorem edge_nb {d : Dg} (h : Ue d = true) {x s : Nat} (hx : x < d.crs.length) (hs : s < 4) : ∃ k, k < 2 * d.crs.length ∧ ((endC d k false = x ∧ endC d k true = nbC d x s) ∨ (endC d k true = x ∧ endC d k false = nbC d x s)) := by
 have ha := Uq h hx hs
 have e : (((Uu d x s).toNat - 1 + 1 : Nat) : Int) = Uu d x s := by omega
 refine ⟨(Uu d x s).toNat - 1, by omega, ?_⟩
 unfold endC nbC
 rw [e]
 cases hb : Ui d x s
 ·right
  exact ⟨by rw [endOf_back h hx hs (b := true) hb], rfl⟩
 ·left
  exact ⟨by rw [endOf_back h hx hs (b := false) hb], rfl⟩
theorem nb_edge {d : Dg} (h : Ue d = true) {k : Nat} (hk : k < 2 * d.crs.length) : ∃ s, s < 4 ∧ nbC d (endC d k false) s = endC d k true := by
 have ha : 1 ≤ ((k + 1 : Nat) : Int) ∧ ((k + 1 : Nat) : Int) ≤ 2 * (d.crs.length : Int) := by omega
 obtain ⟨_, h2, _⟩ := endD h ha false
 obtain ⟨h3, h4⟩ := endOf_there h ha false
 refine ⟨(Un d ((k + 1 : Nat) : Int) false).2, h2, ?_⟩
 unfold nbC endC
 rw [h3, h4]
 rfl
theorem pcI_nb {d : Dg} (h : Ue d = true) {x s : Nat} (hx : x < d.crs.length) (hs : s < 4) : pcI d (nbC d x s) = pcI d x := by
 obtain ⟨h1, h2, _⟩ := pcI_lt h hx
 exact (pcI_at h h1 ((pcs h).clo _ h1 _ h2 s hs)).2
theorem iniW_ga (n k : Nat) (hk : k ≤ n) (x : Nat) (hx : x < k) : ga (iniW n k) x = (x : Int) := by
 induction k with
 | zero => omega
 | succ k ih =>
  rw [iniW, U3 _ _ _ _ (by rw [U23]; omega)]
  split
  ·rename_i e; subst e; rfl
  ·exact ih (by omega) (by omega)
theorem roundG_W (d : Dg) (ws : List Int) (k : Nat) : roundW d ws k = roundG (fun j => endC d j false) (fun j => endC d j true) ws k := by
 induction k with
 | zero => rfl
 | succ k ih => rw [roundW, roundG, ih]
theorem rc_lt {d : Dg} (h : Ue d = true) {x y : Nat} (hr : Rc d x y) (hx : x < d.crs.length) : y < d.crs.length := by
 induction hr with
 | refl => exact hx
 | step _ hk ih => exact nbC_lt h ih hk
theorem pieces_join {d : Dg} (h : Ue d = true) (Z : Nat → Prop) (hZ : ∀ x s, x < d.crs.length → s < 4 → (Z x ↔ Z (nbC d x s))) {x y : Nat} (hx : x < d.crs.length) (hy : y < d.crs.length) (e : pcI d x = pcI d y) : Z x → Z y := by
 have hrc : ∀ c z, c < d.crs.length → Rc d c z → (Z c ↔ Z z) := fun c z hc hr => by
  induction hr with
  | refl => exact Iff.rfl
  | step hr' hk ih => exact ih.trans (hZ _ _ (rc_lt h hr' hc) hk)
 obtain ⟨h1, h2, _⟩ := pcI_lt h hx
 obtain ⟨_, h2', _⟩ := pcI_lt h hy
 rw [← e] at h2'
 obtain ⟨_, c0, hc0, _, hel⟩ := (pcs h).el _ h1
 obtain ⟨u, eu, _, ru⟩ := hel _ h2
 obtain ⟨v, ev, _, rv⟩ := hel _ h2'
 obtain rfl : x = u := by omega
 obtain rfl : y = v := by omega
 exact fun hz => (hrc _ _ hc0 rv).1 ((hrc _ _ hc0 ru).2 hz)
theorem whoL_law {d : Dg} (h : Ue d = true) : ∀ x, x < d.crs.length → ∃ z : Nat, z < d.crs.length ∧ ga (whoL d) x = (z : Int) ∧ pcI d z = pcI d x ∧ ∀ y, y < d.crs.length → pcI d y = pcI d x → z ≤ y :=
 labels (N := d.crs.length) (K := 2 * d.crs.length) (fun j => endC d j false) (fun j => endC d j true) (fun k hk => ⟨endC_lt h hk false, endC_lt h hk true⟩) (pcI d)
  (fun k hk => by
   obtain ⟨s, hs, e⟩ := nb_edge h hk
   rw [← e, pcI_nb h (endC_lt h hk false) hs])
  (fun Z hZ x y hx hy e => pieces_join h Z (fun u s hu hs => by
   obtain ⟨k, hk, hh⟩ := edge_nb h hu hs
   have := hZ k hk
   rcases hh with ⟨h1, h2⟩ | ⟨h1, h2⟩
   ·rw [h1, h2] at this; exact this
   ·rw [h1, h2] at this; exact this.symm) hx hy e)
  (rndsW d) (rndsW_len d 0) (fun x hx => iniW_ga _ _ (Nat.le_refl _) x hx) (fun j => by rw [rndsW, roundG_W])
theorem who_root {d : Dg} (h : Ue d = true) {x z : Nat} (hx : x < d.crs.length) (hz : ga (whoL d) x = (z : Int)) : z < d.crs.length ∧ pcI d z = pcI d x ∧ ga (whoL d) z = (z : Int) := by
 obtain ⟨u, h1, h2, h3, h4⟩ := whoL_law h x hx
 obtain rfl : z = u := by omega
 obtain ⟨v, g1, g2, g3, g4⟩ := whoL_law h z h1
 have a1 := g4 z h1 rfl
 have a2 := h4 v g1 (g3.trans h3)
 obtain rfl : v = z := by omega
 exact ⟨h1, h3, g2⟩
theorem who_iff {d : Dg} (h : Ue d = true) {p : Nat} (hp : p < d.crs.length) (hr : ga (whoL d) p = (p : Int)) {x : Nat} (hx : x < d.crs.length) : ga (whoL d) x = (p : Int) ↔ pcI d x = pcI d p := by
 constructor
 ·intro e
  exact (who_root h hx e).2.1.symm
 ·intro e
  obtain ⟨u, h1, h2, h3, h4⟩ := whoL_law h x hx
  obtain ⟨v, g1, g2, g3, g4⟩ := whoL_law h p hp
  obtain rfl : v = p := by omega
  have a1 := h4 v hp e.symm
  have a2 := g4 u h1 (h3.trans e)
  rw [h2]
  omega
theorem cn_congr {P Q : Nat → Bool} (k : Nat) (h : ∀ x, x < k → P x = Q x) : cn P k = cn Q k := by
 induction k with
 | zero => rfl
 | succ k ih => rw [cn, cn, ih (fun x hx => h x (by omega)), h k (by omega)]
theorem cn_filter (P : Nat → Bool) (k : Nat) : cn P k = ((List.range k).filter P).length := by
 induction k with
 | zero => rfl
 | succ k ih =>
  rw [cn, ih, List.range_succ, List.filter_append, List.length_append]
  by_cases hp : P k = true <;> simp [hp]
theorem negW_cn (ws : List Int) (p : Int) (k : Nat) : negW ws p k = -(cn (fun x => decide (ga ws x = p)) k : Int) := by
 induction k with
 | zero => rfl
 | succ k ih =>
  rw [negW, cn, ih]
  by_cases e : ga ws k = p
  ·rw [if_pos e, if_pos (decide_eq_true e)]; omega
  ·rw [if_neg e, if_neg (by simpa using e)]; omega
theorem facW_cn (d : Dg) (ws : List Int) (p m : Int) (k : Nat) : facW d ws p m k = m + (cn (fun x => decide (ga ws (fcC d x) = p)) k : Int) := by
 induction k with
 | zero => rw [facW, cn]; omega
 | succ k ih =>
  rw [facW, cn, ih]
  by_cases e : ga ws (fcC d k) = p
  ·rw [if_pos e, if_pos (decide_eq_true e)]; omega
  ·rw [if_neg e, if_neg (by simpa using e)]; omega
theorem fcN_cn (d : Dg) (i : Nat) (hi : i < (pcsL d).length) (k : Nat) : ga (fcN d k) i = (cn (fun x => decide (pcI d (fcC d x) = i)) k : Int) := by
 induction k with
 | zero => rw [fcN, U24 _ _ _ hi]; rfl
 | succ k ih =>
  rw [fcN, cn]
  by_cases e : pcI d (fcC d k) = i
  ·rw [if_pos (decide_eq_true e), e, U3 _ _ _ _ (by rw [fcN_len]; exact hi), if_pos rfl, ih]; omega
  ·rw [if_neg (by simpa using e), ga_set_ne _ _ _ _ e, ih]; omega
theorem piece_cn {d : Dg} (h : Ue d = true) {i : Nat} (hi : i < (pcsL d).length) : (ga (pcsL d) i).length = cn (fun x => decide (pcI d x = i)) d.crs.length := by
 rw [cn_filter]
 obtain ⟨h1, c0, _, _, h2⟩ := (pcs h).el i hi
 have hn : ((List.range d.crs.length).filter (fun x => decide (pcI d x = i))).Nodup := List.Nodup.sublist (List.filter_sublist) List.nodup_range
 apply Nat.le_antisymm
 ·have h3 := nodup_le (ys := ((List.range d.crs.length).filter (fun x => decide (pcI d x = i))).map fun x : Nat => (x : Int)) h1 (fun y hy => by
   obtain ⟨z, rfl, hz, _⟩ := h2 y hy
   exact List.mem_map.2 ⟨z, List.mem_filter.2 ⟨List.mem_range.2 hz, decide_eq_true (pcI_at h hi hy).2⟩, rfl⟩)
  rw [List.length_map] at h3
  exact h3
 ·have hn' : (((List.range d.crs.length).filter (fun x => decide (pcI d x = i))).map fun x : Nat => (x : Int)).Nodup := by
   rw [List.nodup_iff_pairwise_ne, List.pairwise_map]
   exact List.Pairwise.imp (fun hab e => hab (by omega)) hn
  have h3 := nodup_le (ys := ga (pcsL d) i) hn' (fun y hy => by
   obtain ⟨z, hz, rfl⟩ := List.mem_map.1 hy
   obtain ⟨hz1, hz2⟩ := List.mem_filter.1 hz
   obtain ⟨_, g2, _⟩ := pcI_lt h (List.mem_range.1 hz1)
   rw [of_decide_eq_true hz2] at g2
   exact g2)
  rw [List.length_map] at h3
  exact h3
theorem root_count {d : Dg} (h : Ue d = true) {p : Nat} (hp : p < d.crs.length) (hr : ga (whoL d) p = (p : Int)) : pcI d p < (pcsL d).length ∧
  (facW d (whoL d) p (negW (whoL d) p d.crs.length) (Ug d).length = 2 ↔ ga (fcN d (Ug d).length) (pcI d p) = ((ga (pcsL d) (pcI d p)).length : Int) + 2) := by
 obtain ⟨h1, _, _⟩ := pcI_lt h hp
 refine ⟨h1, ?_⟩
 rw [facW_cn, negW_cn, fcN_cn d _ h1, piece_cn h h1]
 have e1 : cn (fun x => decide (ga (whoL d) x = (p : Int))) d.crs.length = cn (fun x => decide (pcI d x = pcI d p)) d.crs.length := cn_congr _ fun x hx => decide_eq_decide.2 (who_iff h hp hr hx)
 have e2 : cn (fun x => decide (ga (whoL d) (fcC d x) = (p : Int))) (Ug d).length = cn (fun x => decide (pcI d (fcC d x) = pcI d p)) (Ug d).length := cn_congr _ fun x hx => decide_eq_decide.2 (who_iff h hp hr (fcC_lt h hx))
 rw [e1, e2]
 omega
theorem planar_law {d : Dg} (h : Ue d = true) : planIs d = planP d := by
 rw [Bool.eq_iff_iff]
 constructor
 ·intro hp
  apply planP_t
  intro i hi
  obtain ⟨_, c0, hc0, hm, _⟩ := (pcs h).el i hi
  have e0 := (pcI_at h hi hm).2
  obtain ⟨z, _, hz, _⟩ := whoL_law h c0 hc0
  obtain ⟨r1, r2, r3⟩ := who_root h hc0 hz
  have hq := List.all_eq_true.1 hp z (List.mem_range.2 r1)
  unfold rootOk at hq
  rw [Bool.or_eq_true] at hq
  rcases hq with hq | hq
  ·exact absurd r3 (of_decide_eq_true hq)
  ·have := (root_count h r1 r3).2.1 (of_decide_eq_true hq)
   rw [r2, e0] at this
   exact this
 ·intro hp
  apply planIs_t
  intro p hpn
  unfold rootOk
  rw [Bool.or_eq_true]
  by_cases hr : ga (whoL d) p = (p : Int)
  ·right
   obtain ⟨h1, h2⟩ := root_count h hpn hr
   have hq := List.all_eq_true.1 hp _ (List.mem_range.2 h1)
   exact decide_eq_true (h2.2 (of_decide_eq_true hq))
  ·left
   exact decide_eq_true hr
end Go.Proofs.Ytkcighnochjlgaa
namespace Go.Proofs.Ytkcighnochjlgaa
open Go.ChangeShapes Go.WideShapes Go.ChangeAt Go.RowKit
theorem SH.pubBx {w : World} {M : Hp} {X : Fr} {H H' : List Rs} {i g : Nat} {T : TypeId} {l : List Value} (S : SH w M X H) (hi : nth H i = some (Rs.box g T l)) (hH : H.set i Rs.emp = H') : ∃ M', M.le M' ∧ SH w M' X H' ∧ BxM M' g T l := by
 obtain ⟨h1, h2, h3⟩ := S.pub hi hH
 have h4 : hp w g = some (.cells l.toArray T (0, 0)) := S.get hi
 exact ⟨_, h1, h2, (h3 g (by simp [Rs.box])).trans h4⟩
theorem mayO {d : Dg} (h : mayB d = true) : d.crs.length ≤ 16 ∧ Ue d = true ∧ 0 ≤ d.loops ∧ d.loops ≤ 16 := by
 rw [mayB_arcs, Bool.and_eq_true, decide_eq_true_iff] at h
 exact ⟨h.1.1, h.2, h.1.2.1, h.1.2.2.1⟩
def ShM (N : Hp) (d : Dg) (g : Nat) (cA iA oA : Option Addr) (cc ic oc : Nat) : Prop := BxM N g 114 [.slice cA d.crs.length cc, .int .i64 d.loops, .slice iA (tabL d false (4 * d.crs.length)).length ic, .slice oA (tabL d true (4 * d.crs.length)).length oc] ∧ RdA cdCr N cA cc d.crs ∧ RdA cdPl N iA ic (tabL d false (4 * d.crs.length)) ∧ RdA cdPl N oA oc (tabL d true (4 * d.crs.length))
def NewT (d : Dg) (v : Value) (N : Hp) : Prop :=
 (mayB d = false ∧ v = .tuple [.pointer none, .bool false].toArray) ∨
 (mayB d = true ∧ ∃ g cA iA oA cc ic oc, v = .tuple [.pointer (some ⟨g, 0, none⟩), .bool true].toArray ∧ ShM N d g cA iA oA cc ic oc)
theorem New_t {w : World} {M : Hp} {X : Fr} (d : Dg) {A : Option Addr} {c : Nat} (h : RdA cdCr (M.un X.h) A c d.crs) (S : SH w M X []) : Ct Try.prog 114 [.agg [.slice A d.crs.length c, .int .i64 d.loops].toArray] w M X (NewT d) := by
 refine (New_o d h S).mono ?_
 rintro e w' ⟨v, rfl, N, S1, ⟨hm, rfl, rfl⟩ | ⟨hm, g, vc, vi, vo, rfl, rfl, hv⟩⟩
 ·exact ⟨_, rfl, M, Hp.le_refl _, S1, .inl ⟨hm, rfl⟩⟩
 ·obtain ⟨hn, _⟩ := mayO hm
  have t1 := Uo d false (4 * d.crs.length)
  have t2 := Uo d true (4 * d.crs.length)
  clear hv
  obtain ⟨M1, l1, S2, ⟨cA, cc, rfl, r1⟩⟩ := S1.pubrow (i := 1) rfl rfl (by show _ * 40 ≤ _; omega)
  obtain ⟨M2, l2, S3, ⟨iA, ic, rfl, r2⟩⟩ := S2.pubrow (C := cdPl) (xs := tabL d false (4 * d.crs.length)) (i := 2) rfl rfl (by show _ * 16 ≤ _; omega)
  obtain ⟨M3, l3, S4, ⟨oA, oc, rfl, r3⟩⟩ := S3.pubrow (C := cdPl) (xs := tabL d true (4 * d.crs.length)) (i := 3) rfl rfl (by show _ * 16 ≤ _; omega)
  obtain ⟨M4, l4, S5, b⟩ := S4.pubBx (i := 0) rfl rfl
  exact ⟨_, rfl, M4, (l1.trans l2).trans (l3.trans l4), S5.pick [] [] (by decide) trivial, .inr ⟨hm, g, cA, iA, oA, cc, ic, oc, rfl, b, ((r1.mono l2).mono l3).mono l4, (r2.mono l3).mono l4, r3.mono l4⟩⟩
def DgR (d : Dg) (u : Value) (M : Hp) : Prop := ∃ A c, u = .agg [.slice A d.crs.length c, .int .i64 d.loops].toArray ∧ RdA cdCr M A c d.crs
noncomputable def Z2w := Try.f34.body.getD .skip
set_option maxRecDepth 10000 in
theorem DiagramOf_t {w : World} {M : Hp} {X : Fr} (d : Dg) {dcrsA : Option Addr} {dcrsc : Nat} (hdcrs : RdA cdCr (M.un X.h) dcrsA dcrsc d.crs) (S : SH w M X []) : Ct Try.prog 34 [.agg [.slice dcrsA d.crs.length dcrsc, .int .i64 d.loops].toArray] w M X (DgR d) := by
 unfold Ct
 have rmhdcrs : d.crs.length * 40 ≤ 140737488355328 := hdcrs.room
 have hroom : d.crs.length * 40 ≤ 140737488355328 := hdcrs.room
 refine U7 (b := Z2w) Try.func34 rfl Try.ntmps34 rfl (fun C hC => (zzwsk [0] rfl (zzsR (zzwU rfl (Uv (l := [_, _]) rfl rfl rfl rfl rfl S ?_)))))
 intro gb1 w1 S1; clear S
 refine zzwU rfl (Uk (l := [_, _]) rfl rfl rfl zr51 rfl S1 ?_)
 intro gb2 w2 S2; clear S1
 refine zzeR [1, 2] rfl (zzwr rfl (zzfa rfl uT51 rfl ce49 nf49) (zzwr rfl (zzld1 rfl uT49 (S2.bc 1 rfl rfl)) ?_))
 have S3 := S2.nilrow cdCr; clear S2
 refine zzwU rfl (wo_appendM (C := cdCr) (i := 0) rfl rfl rfl rfl rfl rfl rfl rfl sl49 S3 rfl hdcrs S3.um (by have h : _ * 40 ≤ _ := hdcrs.room; show (0 + _) * 40 ≤ _; first | omega | (simp only [ls]; omega)) ?_)
 intro vr2 w3 S4; clear S3
 change SH _ _ _ [Rs.row cdCr vr2 d.crs, _, _] at S4
 refine zzwr rfl (zzfa rfl uT51 rfl ce49 nf49) (zzwU rfl (U1a (i := 2) (us := [_]) (l' := [_, _]) (H' := [_, _, _]) rfl rfl S4 rfl rfl rfl (S4.cells1 (i := 0) rfl) sz49 rfl (ones_cons (S4.one (i := 0) rfl) rfl) rfl rfl ?_))
 intro w4 S5; clear S4
 refine zzeR [1, 2] rfl (zzwr rfl (Ut [_, _] rfl uT51 sz51 (S5.bs 2 rfl rfl)) (zzwU rfl (U1a (i := 1) (us := [_, _]) (l' := [_, _]) (H' := [_, _, _]) rfl rfl S5 rfl rfl rfl rfl sz51 rfl (ones_cons (S5.one (i := 0) rfl) (ones_cons rfl rfl)) rfl rfl ?_)))
 intro w5 S6; clear S5
 refine zzeT [2] rfl ?_
 obtain ⟨M1, hle1, S7, ⟨A1, c1, e1, hr1⟩⟩ := S6.pubrow (i := 0) (H' := [_, _, _]) rfl rfl (by show _ * 40 ≤ _; first | omega | (simp only [ls]; omega))
 clear S6; subst e1
 replace hdcrs := hdcrs.mono (Hp.U0 hle1 S7.mx)
 refine ws_ret hC [_] rfl rfl ⟨⟨_, rfl, U1k (us := [_, _]) uT51 rfl sz51 (S7.bs 1 rfl rfl)⟩, trivial⟩ ?_
 refine ⟨_, rfl, _, hle1, (S7.pick [] [] (by decide) trivial), ?_⟩
 exact ⟨_, _, rfl, hr1⟩
end Go.Proofs.Ytkcighnochjlgaa
namespace Go.Proofs.Ytkcighnochjlgaa
open Go.ChangeShapes Go.WideShapes Go.ChangeAt Go.RowKit
def errO (d : Dg) : Int := if mayB d = true then (if planP d = true then 0 else 5) else 7
theorem errO_ok {d : Dg} (h : errO d = 0) : mayB d = true ∧ planP d = true := by
 unfold errO at h
 split at h
 ·split at h
  ·exact ⟨by assumption, by assumption⟩
  ·cases h
 ·cases h
def OpenT (d : Dg) (v : Value) (N : Hp) : Prop :=
 (errO d ≠ 0 ∧ v = .tuple [.pointer none, .int .i64 (errO d)].toArray) ∨
 (errO d = 0 ∧ ∃ g cA iA oA cc ic oc, v = .tuple [.pointer (some ⟨g, 0, none⟩), .int .i64 0].toArray ∧ ShM N d g cA iA oA cc ic oc)
noncomputable def Z2x := Try.f82.body.getD .skip
set_option maxRecDepth 10000 in
theorem Open_t {w : World} {M : Hp} {X : Fr} (d : Dg) {dcrsA : Option Addr} {dcrsc : Nat} (hdcrs : RdA cdCr (M.un X.h) dcrsA dcrsc d.crs) (S : SH w M X []) : Ct Try.prog 82 [.agg [.slice dcrsA d.crs.length dcrsc, .int .i64 d.loops].toArray] w M X (OpenT d) := by
 unfold Ct
 have rmhdcrs : d.crs.length * 40 ≤ 140737488355328 := hdcrs.room
 refine U7 (b := Z2x) Try.func82 rfl Try.ntmps82 rfl (fun C hC => (zzwsk [0] rfl (zzsR (zzwU rfl (Uv (l := [_, _]) rfl rfl rfl rfl rfl S ?_)))))
 intro gb1 w1 S1; clear S
 refine zzmv 2 rfl (zzeR [1] rfl (zzwr rfl (Ut [_, _] rfl uT51 sz51 (S1.bs 0 rfl rfl)) (zzwU rfl (wo_ct rfl rfl rfl rfl rfl rfl rfl cf114 S1 (New_t d (hdcrs.mono S1.Uj) S1.lend) ?_))))
 intro vw2 w2 M1 hle1 S2 hRw2; clear S1
 replace hdcrs := hdcrs.mono (Hp.U0 hle1 S2.mx)
 rcases hRw2 with ⟨hmay8, rfl⟩ | ⟨hmay8, g1, cA8, iA8, oA8, cc8, ic8, oc8, rfl, hsb8, hsc8, hsi8, hso8⟩
 ·refine zzmv 5 rfl (zzeS [4, 5] rfl (zzbK (zzsR (zzmv 3 rfl (zzeT [4, 11] rfl (zzcT (zzsR (zzmv 2 rfl ?_))))))))
  refine zzeT [2, 3] rfl (zzrT hC rfl ?_)
  refine ⟨_, rfl, _, hle1, (S2.pick [] [] (by decide) trivial), ?_⟩
  have e0 : errO d = 7 := by unfold errO; rw [if_neg (by rw [hmay8]; exact Bool.false_ne_true)]
  exact .inl ⟨by rw [e0]; decide, by rw [e0]; rfl⟩
 ·obtain ⟨hn, hab, hlo0, hlo1⟩ := mayO hmay8
  refine zzmv 5 rfl (zzeS [4, 5] rfl (zzbK (zzsR (zzmv 3 rfl (zzeT [4, 11] rfl (zzcF (zzsR (zzmv 1 rfl ?_))))))))
  refine zzwU rfl (wo_ct rfl rfl rfl rfl rfl rfl rfl cf115 S2 (Planar_t d (hsb8.mono (Hp.le_un _ _)) (hsc8.mono (Hp.le_un _ _)) (hsi8.mono (Hp.le_un _ _)) (hso8.mono (Hp.le_un _ _)) hn hab S2.lend) ?_)
  intro vw3 w3 M2 hle2 S3 hRw3; clear S2
  replace hdcrs := hdcrs.mono (Hp.U0 hle2 S3.mx)
  replace hsb8 := hsb8.mono hle2
  replace hsc8 := hsc8.mono hle2
  replace hsi8 := hsi8.mono hle2
  replace hso8 := hso8.mono hle2
  obtain rfl := hRw3
  refine zzmv 2 rfl (zzeT [4, 14] rfl ?_)
  refine zzcN rfl (fun hb14 => ?_) (fun hb14 => ?_)
  ·simp only [Bool.and_eq_true, Bool.or_eq_true, Bool.and_eq_false_iff, Bool.or_eq_false_iff, decide_eq_true_eq, decide_eq_false_iff_not, Bool.not_eq_true', Bool.not_eq_false'] at hb14
   refine zzsR (zzmv 2 rfl (zzeT [2, 3] rfl (zzrT hC rfl ?_)))
   refine ⟨_, rfl, _, hle1.trans hle2, (S3.pick [] [] (by decide) trivial), ?_⟩
   have e0 : errO d = 5 := by unfold errO; rw [if_pos hmay8, if_neg (by simp [*])]
   exact .inl ⟨by rw [e0]; decide, by rw [e0]; rfl⟩
  ·simp only [Bool.and_eq_true, Bool.or_eq_true, Bool.and_eq_false_iff, Bool.or_eq_false_iff, decide_eq_true_eq, decide_eq_false_iff_not, Bool.not_eq_true', Bool.not_eq_false'] at hb14
   refine zzsK (U8 (zznR [4] rfl (zzmv 3 rfl (zzeT [2, 3] rfl (zzrT hC rfl ?_)))))
   refine ⟨_, rfl, _, hle1.trans hle2, (S3.pick [] [] (by decide) trivial), ?_⟩
   have e0 : errO d = 0 := by unfold errO; rw [if_pos hmay8, if_pos (by simpa using hb14)]
   exact .inr ⟨e0, _, _, _, _, _, _, _, rfl, hsb8, hsc8, hsi8, hso8⟩
noncomputable def Z2y := Try.f42.body.getD .skip
set_option maxRecDepth 10000 in
theorem PlanarMay_t {w : World} {M : Hp} {X : Fr} (d : Dg) {dcrsA : Option Addr} {dcrsc : Nat} (hdcrs : RdA cdCr (M.un X.h) dcrsA dcrsc d.crs) (S : SH w M X []) : Ct Try.prog 42 [.agg [.slice dcrsA d.crs.length dcrsc, .int .i64 d.loops].toArray] w M X (fun u _ => u = .int .i64 (errO d)) := by
 unfold Ct
 have rmhdcrs : d.crs.length * 40 ≤ 140737488355328 := hdcrs.room
 refine U7 (b := Z2y) Try.func42 rfl Try.ntmps42 rfl (fun C hC => (zzwsk [0] rfl (zzsR (zzwU rfl (Uv (l := [_, _]) rfl rfl rfl rfl rfl S ?_)))))
 intro gb1 w1 S1; clear S
 refine zzmv 1 rfl (zzeS [1] rfl (zzsR (zzwr rfl (Ut [_, _] rfl uT51 sz51 (S1.bs 0 rfl rfl)) (zzwU rfl (U26 rfl rfl rfl rfl rfl rfl rfl cf85 S1 (DiagramMay_q d (hdcrs.mono S1.Uj) S1.lend) ?_)))))
 rintro _ w2 S2 rfl; clear S1
 refine zzmv 1 rfl (zzeT [1, 5] rfl ?_)
 refine zzcN rfl (fun hb5 => ?_) (fun hb5 => ?_)
 ·simp only [Bool.and_eq_true, Bool.or_eq_true, Bool.and_eq_false_iff, Bool.or_eq_false_iff, decide_eq_true_eq, decide_eq_false_iff_not, Bool.not_eq_true', Bool.not_eq_false'] at hb5
  refine zzsR (zzmv 1 rfl (zzeT [2] rfl (zzrT hC rfl ?_)))
  refine ⟨_, rfl, _, Hp.le_refl _, (S2.pick [] [] (by decide) trivial), ?_⟩
  have e0 : errO d = 7 := by unfold errO; rw [if_neg (by simp_all)]
  rw [e0]
  rfl
 ·simp only [Bool.and_eq_true, Bool.or_eq_true, Bool.and_eq_false_iff, Bool.or_eq_false_iff, decide_eq_true_eq, decide_eq_false_iff_not, Bool.not_eq_true', Bool.not_eq_false'] at hb5
  have hm : mayB d = true := by simpa using hb5
  obtain ⟨hn, hab, _, _⟩ := mayO hm
  refine zzsK (zznS [1] rfl (zzsR (zzwr rfl (Ut [_, _] rfl uT51 sz51 (S2.bs 0 rfl rfl)) (zzwU rfl (wo_ct rfl rfl rfl rfl rfl rfl rfl cf86 S2 (PlanarIs_t d (hdcrs.mono S2.Uj) (hn) (hab) S2.lend) ?_)))))
  intro vw3 w3 M1 hle1 S3 hRw3; clear S2
  replace hdcrs := hdcrs.mono (Hp.U0 hle1 S3.mx)
  obtain rfl := hRw3
  refine zzmv 1 rfl (zzeT [8] rfl ?_)
  refine zzcN rfl (fun hb8 => ?_) (fun hb8 => ?_)
  ·simp only [Bool.and_eq_true, Bool.or_eq_true, Bool.and_eq_false_iff, Bool.or_eq_false_iff, decide_eq_true_eq, decide_eq_false_iff_not, Bool.not_eq_true', Bool.not_eq_false'] at hb8
   refine zzsR (zzmv 1 rfl (zzeT [2] rfl (zzrT hC rfl ?_)))
   refine ⟨_, rfl, _, hle1, (S3.pick [] [] (by decide) trivial), ?_⟩
   have e1 := planar_law hab
   have e0 : errO d = 5 := by unfold errO; rw [if_pos hm, if_neg (by rw [← e1]; simp [*])]
   rw [e0]
   rfl
  ·simp only [Bool.and_eq_true, Bool.or_eq_true, Bool.and_eq_false_iff, Bool.or_eq_false_iff, decide_eq_true_eq, decide_eq_false_iff_not, Bool.not_eq_true', Bool.not_eq_false'] at hb8
   refine zzsK (zznR [] rfl (zzmv 1 rfl (zzeE (U6 (zzrT hC rfl ?_)))))
   refine ⟨_, rfl, _, hle1, (S3.pick [] [] (by decide) trivial), ?_⟩
   have e1 := planar_law hab
   have e0 : errO d = 0 := by unfold errO; rw [if_pos hm, if_pos (by rw [← e1]; simpa using hb8)]
   rw [e0]
   rfl
end Go.Proofs.Ytkcighnochjlgaa
namespace Go.Proofs.Ytkcighnochjlgaa
open Go.ChangeShapes Go.WideShapes Go.ChangeAt Go.RowKit
section
variable {P : Program} {o : Oper} {L : List (Nat × Value)} {w : World} {a b : Int}
theorem run_min {ca : Call} {ops : List Operand} {ts : List TypeId} (hop : o.op = .call ca) (hca : ca.callee = .builtin .min) (hxs : ca.args = ops.toArray) (hts : ca.argTypes = ts.toArray) (hx : oevs L ops = some [.int .i64 a, .int .i64 b]) : Run P o L w (.int .i64 (min a b)) w := by
 intro n c he
 have e : (if b < a then b else a) = min a b := by
  by_cases h : b < a
  ·rw [if_pos h]; omega
  ·rw [if_neg h]; omega
 unfold execOp
 simp only [hop, resolve, hca, hxs, hts, List.map_toArray, he.evals hx, Sem.run_bind, Sem.run_pure, Result.andThen_ok, invoke, builtin, Builtin.min_, List.foldlM_cons, List.foldlM_nil, Builtin.min2, e]
end
def eB (d : Dg) (k : Nat) : Nat := (ga d.crs k).b.toNat
def eD (d : Dg) (k : Nat) : Nat := (ga d.crs k).d.toNat
def relN (cl : List Int) (f t : Int) : Nat → List Int
 | 0 => cl
 | a + 1 => if ga (relN cl f t a) a = f then (relN cl f t a).set a t else relN cl f t a
def frC (d : Dg) (cl : List Int) (k : Nat) : Int := max (ga cl (eB d k)) (ga cl (eD d k))
def toC (d : Dg) (cl : List Int) (k : Nat) : Int := min (ga cl (eB d k)) (ga cl (eD d k))
def clsN (d : Dg) : Nat → List Int
 | 0 => iniW (2 * d.crs.length + 1) (2 * d.crs.length + 1)
 | k + 1 => relN (clsN d k) (frC d (clsN d k) k) (toC d (clsN d k) k) (2 * d.crs.length + 1)
def clsL (d : Dg) : List Int := clsN d d.crs.length
theorem relN_len (cl : List Int) (f t : Int) (a : Nat) : (relN cl f t a).length = cl.length := by
 induction a with
 | zero => rfl
 | succ a ih => rw [relN]; split <;> (try rw [List.length_set]) <;> exact ih
theorem relN_ga (cl : List Int) (f t : Int) (a : Nat) (ha : a ≤ cl.length) : ∀ x, ga (relN cl f t a) x = if x < a ∧ ga cl x = f then t else ga cl x := by
 induction a with
 | zero => intro x; rw [if_neg (by omega)]; rfl
 | succ a ih =>
  have ih := ih (by omega)
  have ha0 : ga (relN cl f t a) a = ga cl a := by rw [ih, if_neg (by omega)]
  intro x
  rw [relN, ha0]
  split
  ·rename_i e
   rw [U3 _ _ _ _ (by rw [relN_len]; omega)]
   split
   ·rename_i e2; subst e2
    rw [if_pos ⟨by omega, e⟩]
   ·rw [ih]
    by_cases h9 : x < a ∧ ga cl x = f
    ·rw [if_pos h9, if_pos ⟨by omega, h9.2⟩]
    ·rw [if_neg h9, if_neg (fun h => h9 ⟨by omega, h.2⟩)]
  ·rename_i e
   rw [ih]
   by_cases h9 : x < a ∧ ga cl x = f
   ·rw [if_pos h9, if_pos ⟨by omega, h9.2⟩]
   ·rw [if_neg h9, if_neg (fun (h : x < a + 1 ∧ ga cl x = f) => by
     by_cases h8 : x = a
     ·subst h8; exact e h.2
     ·exact h9 ⟨by omega, h.2⟩)]
def ClsOk (N : Nat) (cl : List Int) : Prop := cl.length = N ∧ ∀ x, x < N → 0 ≤ ga cl x ∧ ga cl x ≤ x ∧ ga cl (ga cl x).toNat = ga cl x
theorem ok_step {N : Nat} {cl cl' : List Int} {f t : Int} (hok : ClsOk N cl) (hl : cl'.length = N) (hg : ∀ x, x < N → ga cl' x = if ga cl x = f then t else ga cl x) (hft : t ≤ f) (h0 : 0 ≤ t) (hti : ga cl t.toNat = t) : ClsOk N cl' := by
 refine ⟨hl, fun x hx => ?_⟩
 obtain ⟨x1, x2, x3⟩ := hok.2 x hx
 have e := hg x hx
 by_cases hf : ga cl x = f
 ·rw [if_pos hf] at e
  rw [e]
  refine ⟨h0, by omega, ?_⟩
  rw [hg _ (by omega)]
  split
  ·rfl
  ·exact hti
 ·rw [if_neg hf] at e
  rw [e]
  refine ⟨x1, x2, ?_⟩
  rw [hg _ (by omega), x3, if_neg hf]
theorem cls_bd {d : Dg} (h : Ue d = true) {k : Nat} (hk : k < d.crs.length) : (eB d k < 2 * d.crs.length + 1 ∧ ((eB d k : Nat) : Int) = (ga d.crs k).b) ∧ (eD d k < 2 * d.crs.length + 1 ∧ ((eD d k : Nat) : Int) = (ga d.crs k).d) := by
 have hb : 1 ≤ (ga d.crs k).b ∧ (ga d.crs k).b ≤ 2 * (d.crs.length : Int) := Uq h hk (k := 1) (by omega)
 have hd : 1 ≤ (ga d.crs k).d ∧ (ga d.crs k).d ≤ 2 * (d.crs.length : Int) := Uq h hk (k := 3) (by omega)
 unfold eB eD
 omega
theorem clsN_len (d : Dg) (k : Nat) : (clsN d k).length = 2 * d.crs.length + 1 := by
 induction k with
 | zero => exact U23 _ _
 | succ k ih => rw [clsN, relN_len, ih]
theorem clsN_ga (d : Dg) (k x : Nat) (hx : x < 2 * d.crs.length + 1) : ga (clsN d (k + 1)) x = if ga (clsN d k) x = frC d (clsN d k) k then toC d (clsN d k) k else ga (clsN d k) x := by
 rw [clsN, relN_ga _ _ _ _ (by rw [clsN_len]; exact Nat.le_refl _)]
 by_cases h9 : ga (clsN d k) x = frC d (clsN d k) k
 ·rw [if_pos ⟨hx, h9⟩, if_pos h9]
 ·rw [if_neg (fun h => h9 h.2), if_neg h9]
theorem cls_zero (d : Dg) (y : Nat) (hy : y < 2 * d.crs.length + 1) : ga (clsN d 0) y = (y : Int) := iniW_ga _ _ (Nat.le_refl _) y hy
theorem fr_or (d : Dg) (cl : List Int) (k : Nat) : frC d cl k = ga cl (eB d k) ∨ frC d cl k = ga cl (eD d k) := by unfold frC; omega
theorem to_or (d : Dg) (cl : List Int) (k : Nat) : toC d cl k = ga cl (eB d k) ∨ toC d cl k = ga cl (eD d k) := by unfold toC; omega
theorem clsN_ok {d : Dg} (h : Ue d = true) (k : Nat) (hk : k ≤ d.crs.length) : ClsOk (2 * d.crs.length + 1) (clsN d k) := by
 induction k with
 | zero => exact ⟨U23 _ _, fun x hx => by
   rw [cls_zero d x hx]
   refine ⟨by omega, by omega, ?_⟩
   rw [show ((x : Int)).toNat = x by omega, cls_zero d x hx]⟩
 | succ k ih =>
  have ih := ih (by omega)
  obtain ⟨⟨b1, _⟩, ⟨b2, _⟩⟩ := cls_bd h (k := k) (by omega)
  obtain ⟨p1, _, p3⟩ := ih.2 _ b1
  obtain ⟨q1, _, q3⟩ := ih.2 _ b2
  refine ok_step ih (clsN_len _ _) (fun x hx => clsN_ga d k x hx) (by unfold frC toC; omega) (by unfold toC; omega) ?_
  rcases to_or d (clsN d k) k with e | e <;> rw [e] <;> assumption
theorem cls_keep {d : Dg} {j x y : Nat} (hx : x < 2 * d.crs.length + 1) (hy : y < 2 * d.crs.length + 1) (e : ga (clsN d j) x = ga (clsN d j) y) : ga (clsN d (j + 1)) x = ga (clsN d (j + 1)) y := by
 rw [clsN_ga d j x hx, clsN_ga d j y hy, e]
theorem cls_same {d : Dg} (h : Ue d = true) {k : Nat} (hk : k < d.crs.length) (j : Nat) (hj : k < j) : ga (clsN d j) (eB d k) = ga (clsN d j) (eD d k) := by
 obtain ⟨⟨b1, _⟩, ⟨b2, _⟩⟩ := cls_bd h hk
 induction j with
 | zero => omega
 | succ j ih =>
  by_cases e : k = j
  ·subst e
   rw [clsN_ga d k _ b1, clsN_ga d k _ b2]
   unfold frC toC
   split <;> split <;> omega
  ·exact cls_keep b1 b2 (ih (by omega))
theorem cls_con {d : Dg} (h : Ue d = true) (Z : Nat → Prop) (hZ : ∀ k, k < d.crs.length → (Z (eB d k) ↔ Z (eD d k))) (j : Nat) (hj : j ≤ d.crs.length) : ∀ x y, x < 2 * d.crs.length + 1 → y < 2 * d.crs.length + 1 → ga (clsN d j) x = ga (clsN d j) y → (Z x ↔ Z y) := by
 induction j with
 | zero =>
  intro x y hx hy e
  rw [cls_zero d x hx, cls_zero d y hy] at e
  obtain rfl : x = y := by omega
  exact Iff.rfl
 | succ j ih =>
  have ih := ih (by omega)
  obtain ⟨⟨b1, _⟩, ⟨b2, _⟩⟩ := cls_bd h (k := j) (by omega)
  have hz := hZ j (by omega)
  have hf : ∀ x, x < 2 * d.crs.length + 1 → ga (clsN d j) x = frC d (clsN d j) j → (Z x ↔ Z (eB d j)) := fun x hx e => by
   rcases fr_or d (clsN d j) j with e2 | e2
   ·exact ih x _ hx b1 (e.trans e2)
   ·exact (ih x _ hx b2 (e.trans e2)).trans hz.symm
  have ht : ∀ x, x < 2 * d.crs.length + 1 → ga (clsN d j) x = toC d (clsN d j) j → (Z x ↔ Z (eB d j)) := fun x hx e => by
   rcases to_or d (clsN d j) j with e2 | e2
   ·exact ih x _ hx b1 (e.trans e2)
   ·exact (ih x _ hx b2 (e.trans e2)).trans hz.symm
  intro x y hx hy e
  rw [clsN_ga d j x hx, clsN_ga d j y hy] at e
  by_cases hfx : ga (clsN d j) x = frC d (clsN d j) j
  ·rw [if_pos hfx] at e
   by_cases hfy : ga (clsN d j) y = frC d (clsN d j) j
   ·exact (hf x hx hfx).trans (hf y hy hfy).symm
   ·rw [if_neg hfy] at e
    exact (hf x hx hfx).trans (ht y hy e.symm).symm
  ·rw [if_neg hfx] at e
   by_cases hfy : ga (clsN d j) y = frC d (clsN d j) j
   ·rw [if_pos hfy] at e
    exact (ht x hx e).trans (hf y hy hfy).symm
   ·rw [if_neg hfy] at e
    exact ih x y hx hy e
def ovRd (d : Dg) : Nat → List Int
 | 0 => iniW (2 * d.crs.length + 1) (2 * d.crs.length + 1)
 | j + 1 => roundG (eB d) (eD d) (ovRd d j) d.crs.length
theorem roundG_len (e1 e2 : Nat → Nat) (ws : List Int) (k : Nat) : (roundG e1 e2 ws k).length = ws.length := by
 induction k with
 | zero => rfl
 | succ k ih => rw [roundG, stepW_len, ih]
theorem ovRd_len (d : Dg) (j : Nat) : (ovRd d j).length = 2 * d.crs.length + 1 := by
 induction j with
 | zero => exact U23 _ _
 | succ j ih => rw [ovRd, roundG_len, ih]
theorem over_law {d : Dg} (h : Ue d = true) : ovRd d (2 * d.crs.length + 1) = clsL d := by
 have hok := clsN_ok h d.crs.length (Nat.le_refl _)
 have hl := labels (N := 2 * d.crs.length + 1) (K := d.crs.length) (eB d) (eD d) (fun k hk => ⟨(cls_bd h hk).1.1, (cls_bd h hk).2.1⟩) (fun x => (ga (clsL d) x).toNat)
  (fun k hk => congrArg Int.toNat (cls_same h hk _ hk))
  (fun Z hZ x y hx hy e hz => (cls_con h Z hZ _ (Nat.le_refl _) x y hx hy (by
   have hX := hok.2 x hx
   have hY := hok.2 y hy
   have e' : (ga (clsN d d.crs.length) x).toNat = (ga (clsN d d.crs.length) y).toNat := e
   omega)).1 hz)
  (ovRd d) (ovRd_len d 0) (fun x hx => iniW_ga _ _ (Nat.le_refl _) x hx) (fun j => rfl)
 refine ga_ext (by rw [ovRd_len]; exact (clsN_len _ _).symm) fun x hx => ?_
 rw [ovRd_len] at hx
 obtain ⟨z, z1, z2, z3, z4⟩ := hl x hx
 obtain ⟨x1, x2, x3⟩ := hok.2 x hx
 obtain ⟨w1, w2, w3⟩ := hok.2 z z1
 have a1 := z4 (ga (clsL d) x).toNat (by show (ga (clsN d d.crs.length) x).toNat < _; omega) (by show (ga (clsN d d.crs.length) (ga (clsN d d.crs.length) x).toNat).toNat = _; rw [x3]; rfl)
 replace a1 : z ≤ (ga (clsN d d.crs.length) x).toNat := a1
 replace z3 : (ga (clsN d d.crs.length) z).toNat = (ga (clsN d d.crs.length) x).toNat := z3
 rw [z2]
 show _ = ga (clsN d d.crs.length) x
 omega
def rtB (d : Dg) (x : Nat) : Bool := decide (1 ≤ x ∧ ga (clsL d) x = (x : Int))
def rk (d : Dg) (a : Nat) : Int := (cn (rtB d) a : Int)
def ovA (d : Dg) (a : Nat) : Int := rk d (ga (clsL d) a).toNat
def U2b (d : Dg) : List Int := (List.range (2 * d.crs.length + 1)).map (ovA d)
theorem rk_bd (d : Dg) (a : Nat) : 0 ≤ rk d a ∧ rk d a ≤ a := by
 have := cn_le (rtB d) a
 unfold rk
 omega
theorem rk_one (d : Dg) : rk d 1 = 0 := rfl
theorem rk_root {d : Dg} {a : Nat} (h : 1 ≤ a) (e : ga (clsL d) a = (a : Int)) : rk d (a + 1) = rk d a + 1 := by
 unfold rk
 rw [cn, if_pos (show rtB d a = true from decide_eq_true ⟨h, e⟩)]
 omega
theorem rk_skip {d : Dg} {a : Nat} (e : ¬ ga (clsL d) a = (a : Int)) : rk d (a + 1) = rk d a := by
 unfold rk
 rw [cn, if_neg (by unfold rtB; rw [decide_eq_true_iff]; exact fun h => e h.2)]
 omega
theorem U1w (d : Dg) : (U2b d).length = 2 * d.crs.length + 1 := by simp [U2b]
theorem oversL_ga (d : Dg) {a : Nat} (h : a < 2 * d.crs.length + 1) : ga (U2b d) a = ovA d a := by
 rw [U14 (by rw [U1w]; exact h)]; simp [U2b]
noncomputable def Z2z := Try.f91.body.getD .skip
set_option maxRecDepth 10000 in
theorem level_w {w : World} {M : Hp} {X : Fr} (vws : Value) (ws : List Int) (i : Int) (j : Int) (hi : 0 ≤ i ∧ i < (ws.length : Int)) (hj : 0 ≤ j ∧ j < (ws.length : Int)) (S : SH w M X [Rs.row U2 vws ws]) : C1 Try.prog 91 [vws, .int .i64 i, .int .i64 j] w M X (fun u M' r' => u = tup [] ∧ M' = M ∧ r' = Rs.row U2 vws (stepW ws i.toNat j.toNat)) := by
 unfold C1
 refine U7 (b := Z2z) Try.func91 rfl Try.ntmps91 rfl (fun C hC => (zzwsk [0, 1, 2] rfl (zzsS (zzdW S 9 ?_))))
 clear S
 refine zzmW 7 [0, 1] rfl (zzlW 2 rfl (fun hZz Sz => Uc (i := 0) i.toNat rfl sl36 Sz.suf rfl) (zzlW 3 rfl (fun hZz Sz => zzld1 rfl uT3 (Sz.suf.rowc (i := 0) (e := i.toNat) (j := 0) rfl (by first | omega | (simp only [ls]; omega)) rfl rfl)) ?_))
 refine zzmW 3 [4, 5] rfl (zzlW 6 rfl (fun hZz Sz => Uc (i := 0) j.toNat rfl sl36 Sz.suf rfl) (zzlW 7 rfl (fun hZz Sz => zzld1 rfl uT3 (Sz.suf.rowc (i := 0) (e := j.toNat) (j := 0) rfl (by first | omega | (simp only [ls]; omega)) rfl rfl)) ?_))
 refine zzmW 0 [8] rfl (zzeW (fun w10 S10 => (zznT [0, 1, 2, 14] rfl ?_)))
 refine zzcD rfl (fun hb14 => ?_) (fun hb14 => ?_)
 ·refine zzrG (zzmv 4 rfl (zzwr rfl (Uc (i := 0) i.toNat rfl sl36 S10 rfl) (zzwr rfl (zzld1 rfl uT3 (S10.rowc (i := 0) (e := i.toNat) (j := 0) rfl (by first | omega | (simp only [ls]; omega)) rfl rfl)) ?_)))
  refine zzwr rfl (Uc (i := 0) j.toNat rfl sl36 S10 rfl) (zzwU rfl (Ub (C := U2) (i := 0) (e := j.toNat) (j := 0) (us := [_]) (H' := [_]) (ga ws i.toNat) rfl rfl S10 rfl (by first | omega | (simp only [ls]; omega)) rfl rfl rfl sz3 rfl rfl rfl rfl ?_))
  intro w11 S11; clear S10
  refine zzeE (nm_end hC [] rfl trivial ?_)
  exact ⟨_, rfl, _, _, Hp.le_refl _, S11.pick [0] [_] (by decide) ⟨rfl, trivial⟩, ⟨rfl, rfl, by unfold stepW; first | rw [if_pos (by assumption)] | rw [if_neg (by assumption)]⟩⟩
 ·refine zzrG (zzmv 4 rfl (zzwr rfl (Uc (i := 0) j.toNat rfl sl36 S10 rfl) (zzwr rfl (zzld1 rfl uT3 (S10.rowc (i := 0) (e := j.toNat) (j := 0) rfl (by first | omega | (simp only [ls]; omega)) rfl rfl)) ?_)))
  refine zzwr rfl (Uc (i := 0) i.toNat rfl sl36 S10 rfl) (zzwU rfl (Ub (C := U2) (i := 0) (e := i.toNat) (j := 0) (us := [_]) (H' := [_]) (ga ws j.toNat) rfl rfl S10 rfl (by first | omega | (simp only [ls]; omega)) rfl rfl rfl sz3 rfl rfl rfl rfl ?_))
  intro w12 S12; clear S10
  refine zzeE (nm_end hC [] rfl trivial ?_)
  exact ⟨_, rfl, _, _, Hp.le_refl _, S12.pick [0] [_] (by decide) ⟨rfl, trivial⟩, ⟨rfl, rfl, by unfold stepW; first | rw [if_pos (by assumption)] | rw [if_neg (by assumption)]⟩⟩
noncomputable def Z30 := Try.f83.body.getD .skip
set_option maxHeartbeats 1000000 in
set_option maxRecDepth 10000 in
theorem Passes_t {w : World} {M : Hp} {X : Fr} (d : Dg) {gsh : Nat} {cA iA oA : Option Addr} {cc ic oc : Nat} (hsb : BxM (M.un X.h) gsh 114 [.slice cA d.crs.length cc, .int .i64 d.loops, .slice iA (tabL d false (4 * d.crs.length)).length ic, .slice oA (tabL d true (4 * d.crs.length)).length oc]) (hsc : RdA cdCr (M.un X.h) cA cc d.crs) (hsi : RdA cdPl (M.un X.h) iA ic (tabL d false (4 * d.crs.length))) (hso : RdA cdPl (M.un X.h) oA oc (tabL d true (4 * d.crs.length))) (hn : d.crs.length ≤ 16) (hab : Ue d = true) (S : SH w M X []) : Ct Try.prog 83 [.pointer (some ⟨gsh, 0, none⟩)] w M X (fun u N => ∃ A c, u = .tuple [.slice A (U2b d).length c, .int .i64 (rk d (2 * d.crs.length + 1))].toArray ∧ RdA U2 N A c (U2b d)) := by
 unfold Ct
 refine U7 (b := Z30) Try.func83 rfl Try.ntmps83 rfl (fun C hC => (zzwsk [0] rfl (zzsR (zzmv 2 rfl (zzeR [0] rfl (zzmv 1 rfl (zzwU rfl (U26 rfl rfl rfl rfl rfl rfl rfl cf116 S (Arcs_q d  (hsb.mono S.Uj) (hsc.mono S.Uj) (hsi.mono S.Uj) (hso.mono S.Uj) (by omega) S.lend) ?_))))))))
 rintro _ w1 S1 rfl; clear S
 refine zzwr rfl (U1 rfl) (zzwU rfl (U1y (C := U2) ((2 * (d.crs.length : Int)).toNat + 1) rfl rfl rfl rfl rfl sl36 (by first | rfl | omega) (by show _ * 8 ≤ _; first | omega | (simp only [ls]; omega)) S1 ?_))
 intro vr1 w2 S2; clear S1
 refine zzmv 1 rfl (zzeS [0, 4] rfl (zzsR (zzmv 1 rfl (zzwr rfl (zzlnR (i := 0) rfl sl36 S2 rfl) (wl_eq 19 (.int .i64 ((2 * d.crs.length + 1 : Nat) : Int)) rfl (int_eq (by rw [List.length_replicate]; omega)) ?_)))))
 refine zzmv 1 rfl (zzeT [0, 4, 19, 20] rfl (zzbK ?_))
 refine U4 (fun mx_ ax_ wx_ => ∃ (i : Nat) (ws : List Int) (vrw : Value), mx_ = 2 * d.crs.length + 1 - i ∧ Env 110 [(0, .pointer (some ⟨gsh, 0, none⟩)), (4, vrw), (19, .int .i64 ((2 * d.crs.length + 1 : Nat) : Int)), (20, .int .i64 (i : Int))] ax_ ∧ SH wx_ M X [Rs.row U2 vrw ws] ∧ i ≤ 2 * d.crs.length + 1 ∧ ws = iniW (2 * d.crs.length + 1) i) rfl ?_ ?_
 ·intro ax_ hax_
  refine ⟨_, ⟨0, _, _, rfl, hax_.su rfl, S2.pick [0] [_] (by decide) ⟨rfl, trivial⟩, ?hq1f0, ?hq1f1⟩⟩
  case hq1f0 => omega
  case hq1f1 => rfl
 ·rintro m1 a1 w3 ⟨i, ws, vrw, rfl, he1, S3, hi, hw⟩
  clear S2
  refine zziN he1 ?_
  clear he1 a1
  have hwl : ws.length = 2 * d.crs.length + 1 := by rw [hw, U23]
  refine zzsR (zzmv 1 rfl (zzeE (zztS ?_)))
  refine zzcD rfl (fun hb21 => ?_) (fun hb21 => ?_)
  ·refine zzsK (zznS [0, 4, 19, 20] rfl (zzbK (zzsR (zzmv 2 rfl (zzeT [0, 4, 19, 20, 5] rfl (zzrG (zzmv 3 rfl (zzwr rfl (Uc (i := 0) i rfl sl36 S3 rfl) ?_))))))))
   refine zzwU rfl (Ub (C := U2) (i := 0) (e := i) (j := 0) (us := [_]) (H' := [_]) (i : Int) rfl rfl S3 rfl (by first | omega | (simp only [ls]; omega)) rfl rfl rfl sz3 rfl rfl rfl rfl ?_)
   intro w4 S4; clear S3
   refine zzeE (U8 (zznT [0, 4, 19, 20] rfl (zzrG (zzwr rfl (U1 rfl) (zzmv 1 rfl (zzeE (Uf ?_)))))))
   intro ax_ hax_
   refine ⟨_, ?hq2m, ⟨i + 1, _, _, rfl, hax_.su rfl, S4.pick [0] [_] (by decide) ⟨rfl, trivial⟩, ?hq2f0, ?hq2f1⟩⟩
   case hq2f0 => omega
   case hq2f1 => (rw [hw]; rfl)
   case hq2m => omega
  ·refine zzxE rfl (zznS [0, 4] rfl (zzsR (zzmv 2 rfl (zzwr rfl (zzfa rfl uT114 rfl ce51 nf51) (zzwr rfl (zzfa rfl uT51 rfl ce49 nf49) (zzwr rfl (zzld1 rfl uT49 (hsb.cell S3.um rfl)) (zzwr rfl (zzln rfl uT49) (zzmv 1 rfl ?_))))))))
   refine zzeT [4, 32, 33, 34] rfl (zzbK ?_)
   refine U4 (fun mx_ ax_ wx_ => ∃ (k : Nat) (cl : List Int) (vrc : Value), mx_ = d.crs.length - k ∧ Env 110 [(4, vrc), (32, .slice cA d.crs.length cc), (33, .int .i64 (d.crs.length : Int)), (34, .int .i64 (k : Int))] ax_ ∧ SH wx_ M X [Rs.row U2 vrc cl] ∧ k ≤ d.crs.length ∧ cl = clsN d k) rfl ?_ ?_
   ·intro ax_ hax_
    refine ⟨_, ⟨0, _, _, rfl, hax_.su rfl, S3.pick [0] [_] (by decide) ⟨rfl, trivial⟩, ?hq3f0, ?hq3f1⟩⟩
    case hq3f0 => omega
    case hq3f1 => (obtain rfl : i = 2 * d.crs.length + 1 := (by omega); exact hw)
   ·rintro m2 a2 w5 ⟨k, cl, vrc, rfl, he2, S5, hk, hcl⟩
    clear S3
    refine zziN he2 ?_
    clear he2 a2
    have hll : cl.length = 2 * d.crs.length + 1 := by rw [hcl, clsN_len]
    have hebd := fun h => cls_bd hab (k := k) h
    refine zzsR (zzmv 1 rfl (zzeE (zztS ?_)))
    refine zzcD rfl (fun hb35 => ?_) (fun hb35 => ?_)
    ·obtain ⟨⟨b1, b2⟩, ⟨b3, b4⟩⟩ := hebd (by omega)
     unfold eB at b1 b2
     unfold eD at b3 b4
     refine zzsK (zznS [4, 32, 33, 34] rfl (zzbK (zzsR (zzwr rfl (Ux k rfl sl49 hsc) (zzwr rfl (Ut [_, _, _, _, _] rfl uT111 sz111 (hsc.U1p S5.um (e := k) (by first | omega | (simp only [ls]; omega)) (j := 0) ⟨rfl, rfl, rfl, rfl, rfl, trivial⟩)) ?_)))))
     refine zzwU rfl (Uk (l := [_, _, _, _, _]) rfl rfl rfl zr111 rfl S5 ?_)
     intro gb1 w6 S6; clear S5
     refine zzwU rfl (U1q 0 [_, _, _, _, _] [_, _, _, _, _] [_, _] rfl S6 rfl rfl sz111 rfl rfl ?_)
     intro w7 S7; clear S6
     refine zzeS [4, 32, 33, 34, 7] rfl (zzdW S7 24 ?_)
     clear S7
     refine zzmW 23 [0] rfl (zzpW 1 rfl (zzfa rfl uT111 rfl ce3 nf3) (zzlW 2 rfl (fun hZz Sz => zzld1 rfl uT3 (Sz.suf.bc 0 rfl rfl)) (zzlW 3 rfl (fun hZz Sz => Uc (i := 1) (((ga d.crs k).b).toNat) rfl sl36 Sz.suf rfl) (zzlW 4 rfl (fun hZz Sz => zzld1 rfl uT3 (Sz.suf.rowc (i := 1) (e := ((ga d.crs k).b).toNat) (j := 0) rfl (by first | omega | (simp only [ls]; omega)) rfl rfl)) ?_))))
     refine zzmW 18 [5] rfl (zzpW 6 rfl (zzfa rfl uT111 rfl ce3 nf3) (zzlW 7 rfl (fun hZz Sz => zzld1 rfl uT3 (Sz.suf.bc 0 rfl rfl)) (zzlW 8 rfl (fun hZz Sz => Uc (i := 1) (((ga d.crs k).d).toNat) rfl sl36 Sz.suf rfl) (zzlW 9 rfl (fun hZz Sz => zzld1 rfl uT3 (Sz.suf.rowc (i := 1) (e := ((ga d.crs k).d).toNat) (j := 0) rfl (by first | omega | (simp only [ls]; omega)) rfl rfl)) ?_))))
     refine zzlW 10 rfl (fun hZz Sz => run_max rfl rfl rfl rfl rfl) (zzmW 12 [11] rfl (zzpW 12 rfl (zzfa rfl uT111 rfl ce3 nf3) (zzlW 13 rfl (fun hZz Sz => zzld1 rfl uT3 (Sz.suf.bc 0 rfl rfl)) (zzlW 14 rfl (fun hZz Sz => Uc (i := 1) (((ga d.crs k).b).toNat) rfl sl36 Sz.suf rfl) (zzlW 15 rfl (fun hZz Sz => zzld1 rfl uT3 (Sz.suf.rowc (i := 1) (e := ((ga d.crs k).b).toNat) (j := 0) rfl (by first | omega | (simp only [ls]; omega)) rfl rfl)) ?_)))))
     refine zzmW 7 [16] rfl (zzpW 17 rfl (zzfa rfl uT111 rfl ce3 nf3) (zzlW 18 rfl (fun hZz Sz => zzld1 rfl uT3 (Sz.suf.bc 0 rfl rfl)) (zzlW 19 rfl (fun hZz Sz => Uc (i := 1) (((ga d.crs k).d).toNat) rfl sl36 Sz.suf rfl) (zzlW 20 rfl (fun hZz Sz => zzld1 rfl uT3 (Sz.suf.rowc (i := 1) (e := ((ga d.crs k).d).toNat) (j := 0) rfl (by first | omega | (simp only [ls]; omega)) rfl rfl)) ?_))))
     refine zzlW 21 rfl (fun hZz Sz => run_min rfl rfl rfl rfl rfl) (zzmW 0 [22, 23] rfl (zzeW (fun w32 S32 => (zznS [4, 32, 33, 34, 8, 9] rfl (ws_eq 8 (.int .i64 (frC d cl k)) rfl (int_eq rfl) (ws_eq 9 (.int .i64 (toC d cl k)) rfl (int_eq rfl) (zzrG (zzmv 1 rfl (zzwr rfl (zzlnR (i := 1) rfl sl36 S32 rfl) ?_)))))))))
     refine zzmv 1 rfl (zzeT [4, 32, 33, 34, 8, 9, 61, 62] rfl (zzbK ?_))
     refine U4 (fun mx_ ax_ wx_ => ∃ (a : Nat) (cl2 : List Int) (vrc2 : Value), mx_ = 2 * d.crs.length + 1 - a ∧ Env 110 [(4, vrc2), (32, .slice cA d.crs.length cc), (33, .int .i64 (d.crs.length : Int)), (34, .int .i64 (k : Int)), (8, .int .i64 (frC d cl k)), (9, .int .i64 (toC d cl k)), (61, .int .i64 (cl.length : Int)), (62, .int .i64 (a : Int))] ax_ ∧ SH wx_ M X [Rs.row U2 vrc2 cl2] ∧ a ≤ 2 * d.crs.length + 1 ∧ cl2 = relN cl (frC d cl k) (toC d cl k) a) rfl ?_ ?_
     ·intro ax_ hax_
      refine ⟨_, ⟨0, _, _, rfl, hax_.su rfl, S32.pick [1] [_] (by decide) ⟨rfl, trivial⟩, ?hq4f0, ?hq4f1⟩⟩
      case hq4f0 => omega
      case hq4f1 => rfl
     ·rintro m3 a3 w33 ⟨a, cl2, vrc2, rfl, he3, S33, ha, hc2⟩
      clear S32
      refine zziN he3 ?_
      clear he3 a3
      have hl2 : cl2.length = 2 * d.crs.length + 1 := by rw [hc2, relN_len, hll]
      refine zzsR (zzmv 1 rfl (zzeE (zztS ?_)))
      refine zzcD rfl (fun hb63 => ?_) (fun hb63 => ?_)
      ·refine zzsK (zznS [4, 32, 33, 34, 8, 9, 61, 62] rfl (zzbK (zzsR (zzmv 2 rfl (zzeR [4, 32, 33, 34, 8, 9, 61, 62, 10] rfl (zzmv 2 rfl (zzwr rfl (Uc (i := 0) a rfl sl36 S33 rfl) (zzwr rfl (zzld1 rfl uT3 (S33.rowc (i := 0) (e := a) (j := 0) rfl (by first | omega | (simp only [ls]; omega)) rfl rfl)) ?_))))))))
       refine zzmv 2 rfl (zzeT [4, 32, 33, 34, 8, 9, 61, 62, 10, 70] rfl ?_)
       refine zzcD rfl (fun hb70 => ?_) (fun hb70 => ?_)
       ·refine zzrG (zzmv 3 rfl (zzwr rfl (Uc (i := 0) a rfl sl36 S33 rfl) (zzwU rfl (Ub (C := U2) (i := 0) (e := a) (j := 0) (us := [_]) (H' := [_]) (toC d cl k) rfl rfl S33 rfl (by first | omega | (simp only [ls]; omega)) rfl rfl rfl sz3 rfl rfl rfl rfl ?_))))
        intro w34 S34; clear S33
        refine zzeE (U8 (zznT [4, 32, 33, 34, 8, 9, 61, 62] rfl (zzrG (zzwr rfl (U1 rfl) (zzmv 1 rfl (zzeE (Uf ?_)))))))
        intro ax_ hax_
        refine ⟨_, ?hq5m, ⟨a + 1, _, _, rfl, hax_.su rfl, S34.pick [0] [_] (by decide) ⟨rfl, trivial⟩, ?hq5f0, ?hq5f1⟩⟩
        case hq5f0 => omega
        case hq5f1 => (rw [relN, ← hc2]; first | rw [if_pos hb70] | rw [if_neg hb70])
        case hq5m => omega
       ·refine zzsK (U8 (zznT [4, 32, 33, 34, 8, 9, 61, 62] rfl (zzrG (zzwr rfl (U1 rfl) (zzmv 1 rfl (zzeE (Uf ?_)))))))
        intro ax_ hax_
        refine ⟨_, ?hq6m, ⟨a + 1, _, _, rfl, hax_.su rfl, S33.pick [0] [_] (by decide) ⟨rfl, trivial⟩, ?hq6f0, ?hq6f1⟩⟩
        case hq6f0 => omega
        case hq6f1 => (rw [relN, ← hc2]; first | rw [if_pos hb70] | rw [if_neg hb70])
        case hq6m => omega
      ·refine zzxE rfl (U8 (zznT [4, 32, 33, 34] rfl (zzrG (zzwr rfl (U1 rfl) (zzmv 1 rfl (zzeE (Uf ?_)))))))
       intro ax_ hax_
       refine ⟨_, ?hq7m, ⟨k + 1, _, _, rfl, hax_.su rfl, S33.pick [0] [_] (by decide) ⟨rfl, trivial⟩, ?hq7f0, ?hq7f1⟩⟩
       case hq7f0 => omega
       case hq7f1 => (obtain rfl : a = 2 * d.crs.length + 1 := (by omega); rw [hc2, hcl]; rfl)
       case hq7m => omega
    ·refine zzxE rfl (zznS [4] rfl ?_)
     obtain rfl : k = d.crs.length := by omega
     have hcL : cl = clsL d := hcl
     have hok : ∀ x, x < 2 * d.crs.length + 1 → 0 ≤ ga cl x ∧ ga cl x ≤ x ∧ ga cl (ga cl x).toNat = ga cl x := by rw [hcL]; exact (clsN_ok hab _ (Nat.le_refl _)).2
     have hok0 := hok 0 (by omega)
     refine zzrG (zzmv 1 rfl (zzwr rfl (zzlnR (i := 0) rfl sl36 S5 rfl) (zzwU rfl (U1y (C := U2) cl.length rfl rfl rfl rfl rfl sl36 (by first | rfl | omega) (by show _ * 8 ≤ _; first | omega | (simp only [ls]; omega)) S5 ?_))))
     intro vr2 w35 S35; clear S5
     refine zzmv 2 rfl (zzeS [4, 11, 12] rfl (zzsS (ws_eq 12 (.int .i64 (rk d 1)) rfl (int_eq (rk_one d).symm) (zzrG (zzmv 1 rfl (zzeT [4, 11, 12, 13] rfl (zzbK ?_)))))))
     refine U4 (fun mx_ ax_ wx_ => ∃ (a : Nat) (oc : List Int) (vro : Value), mx_ = 2 * d.crs.length + 1 - a ∧ Env 110 [(4, vrc), (11, vro), (12, .int .i64 (rk d a)), (13, .int .i64 (a : Int))] ax_ ∧ SH wx_ M X [Rs.row U2 vro oc, Rs.row U2 vrc cl] ∧ (1 ≤ a ∧ a ≤ 2 * d.crs.length + 1) ∧ oc.length = 2 * d.crs.length + 1 ∧ (∀ x, x < a → ga oc x = ovA d x)) rfl ?_ ?_
     ·intro ax_ hax_
      refine ⟨_, ⟨1, _, _, rfl, hax_.su rfl, S35.pick [0, 1] [_, _] (by decide) ⟨rfl, rfl, trivial⟩, ?hq8f0, ?hq8f1, ?hq8f2⟩⟩
      case hq8f0 => omega
      case hq8f1 => (rw [List.length_replicate, hll])
      case hq8f2 => (intro x hx; obtain rfl : x = 0 := (by omega); rw [U24 _ _ _ (by omega)]; unfold ovA; rw [show (ga (clsL d) 0).toNat = 0 by rw [← hcL]; omega]; rfl)
     ·rintro m4 a4 w36 ⟨a, oc, vro, rfl, he4, S36, ha, hol, hov⟩
      clear S35
      refine zziN he4 ?_
      clear he4 a4
      refine zzsS (zzsR (zzmv 2 rfl (zzwr rfl (zzlnR (i := 1) rfl sl36 S36 rfl) (zzmv 1 rfl (zzeT [4, 11, 12, 13, 83] rfl ?_)))))
      refine zzcD rfl (fun hb83 => ?_) (fun hb83 => ?_)
      ·obtain ⟨o1, o2, o3⟩ := hok a (by omega)
       have hrk := rk_bd d a
       refine zzsK (zznS [4, 11, 12, 13] rfl (zzbK (zzsR (zzmv 2 rfl (zzwr rfl (Uc (i := 1) a rfl sl36 S36 rfl) (zzwr rfl (zzld1 rfl uT3 (S36.rowc (i := 1) (e := a) (j := 0) rfl (by first | omega | (simp only [ls]; omega)) rfl rfl)) ?_))))))
       refine zzmv 2 rfl (zzeT [4, 11, 12, 13, 91] rfl ?_)
       refine zzcD rfl (fun hb91 => ?_) (fun hb91 => ?_)
       ·refine zzsR (zzmv 3 rfl (zzwr rfl (Uc (i := 0) a rfl sl36 S36 rfl) (zzwU rfl (Ub (C := U2) (i := 0) (e := a) (j := 0) (us := [_]) (H' := [_, _]) (rk d a) rfl rfl S36 rfl (by first | omega | (simp only [ls]; omega)) rfl rfl rfl sz3 rfl rfl rfl rfl ?_))))
        intro w37 S37; clear S36
        refine zzeT [4, 11, 12, 13] rfl (zzrG (zzmv 1 rfl (zzwr rfl (U1 rfl) (zzmv 1 rfl (zzeE (U8 (zznT [4, 11, 12, 13] rfl (ws_eq 12 (.int .i64 (rk d (a + 1))) rfl (int_eq (by rw [rk_root ha.1 (by rw [← hcL]; exact hb91)])) ?_))))))))
        refine zzrG (zzmv 1 rfl (zzwr rfl (U1 rfl) (zzmv 1 rfl (zzeE (Uf ?_)))))
        intro ax_ hax_
        refine ⟨_, ?hq9m, ⟨a + 1, _, _, rfl, hax_.su rfl, S37.pick [0, 1] [_, _] (by decide) ⟨rfl, rfl, trivial⟩, ?hq9f0, ?hq9f1, ?hq9f2⟩⟩
        case hq9f0 => omega
        case hq9f1 => simpa using hol
        case hq9f2 => (intro x hx; rw [U3 _ _ _ _ (by omega)]; split; (rename_i e9; subst e9; unfold ovA; rw [← hcL]; first | exact congrArg (rk d) (by omega) | (rw [hov _ (by omega)]; unfold ovA; rw [← hcL, o3])); exact hov x (by omega))
        case hq9m => omega
       ·refine zzrG (zzmv 5 rfl (zzwr rfl (Uc (i := 1) a rfl sl36 S36 rfl) (zzwr rfl (zzld1 rfl uT3 (S36.rowc (i := 1) (e := a) (j := 0) rfl (by first | omega | (simp only [ls]; omega)) rfl rfl)) ?_)))
        refine zzwr rfl (Uc (i := 0) ((ga cl a).toNat) rfl sl36 S36 rfl) (zzwr rfl (zzld1 rfl uT3 (S36.rowc (i := 0) (e := (ga cl a).toNat) (j := 0) rfl (by first | omega | (simp only [ls]; omega)) rfl rfl)) ?_)
        refine zzwr rfl (Uc (i := 0) a rfl sl36 S36 rfl) (zzwU rfl (Ub (C := U2) (i := 0) (e := a) (j := 0) (us := [_]) (H' := [_, _]) (ga oc ((ga cl a).toNat)) rfl rfl S36 rfl (by first | omega | (simp only [ls]; omega)) rfl rfl rfl sz3 rfl rfl rfl rfl ?_))
        intro w38 S38; clear S36
        refine zzeE (U8 (zznT [4, 11, 12, 13] rfl (ws_eq 12 (.int .i64 (rk d (a + 1))) rfl (int_eq (by rw [rk_skip (by rw [← hcL]; exact hb91)])) ?_)))
        refine zzrG (zzmv 1 rfl (zzwr rfl (U1 rfl) (zzmv 1 rfl (zzeE (Uf ?_)))))
        intro ax_ hax_
        refine ⟨_, ?hq10m, ⟨a + 1, _, _, rfl, hax_.su rfl, S38.pick [0, 1] [_, _] (by decide) ⟨rfl, rfl, trivial⟩, ?hq10f0, ?hq10f1, ?hq10f2⟩⟩
        case hq10f0 => omega
        case hq10f1 => simpa using hol
        case hq10f2 => (intro x hx; rw [U3 _ _ _ _ (by omega)]; split; (rename_i e9; subst e9; unfold ovA; rw [← hcL]; first | exact congrArg (rk d) (by omega) | (rw [hov _ (by omega)]; unfold ovA; rw [← hcL, o3])); exact hov x (by omega))
        case hq10m => omega
      ·refine zzxE rfl (zznR [11, 12] rfl (zzmv 4 rfl (zzeT [2, 3] rfl ?_)))
       obtain ⟨M25, hle29, S39, ⟨A1, c1, e1, hr1⟩⟩ := S36.pubrow (i := 0) (H' := [_, _]) rfl rfl (by show _ * 8 ≤ _; first | omega | (simp only [ls]; omega))
       clear S36; subst e1
       replace hsb := hsb.mono (Hp.U0 hle29 S39.mx)
       replace hsc := hsc.mono (Hp.U0 hle29 S39.mx)
       replace hsi := hsi.mono (Hp.U0 hle29 S39.mx)
       replace hso := hso.mono (Hp.U0 hle29 S39.mx)
       refine zzrT hC rfl ?_
       refine ⟨_, rfl, _, hle29, (S39.pick [] [] (by decide) trivial), ?_⟩
       obtain rfl : a = 2 * d.crs.length + 1 := by omega
       have e2 : U2b d = oc := ga_ext (by rw [U1w, hol]) fun x hx => by rw [U1w] at hx; rw [oversL_ga d hx, hov x hx]
       rw [e2]
       exact ⟨_, _, rfl, hr1⟩
end Go.Proofs.Ytkcighnochjlgaa
