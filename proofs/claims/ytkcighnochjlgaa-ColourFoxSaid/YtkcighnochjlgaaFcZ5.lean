/- Part 5 of the proof of the law ColourFox: the walks through its functions and the plain laws that they need. -/
import Derived.Test.YtkcighnochjlgaaFcZ4
import Derived.Test.YtkcighnochjlgaaProg
set_option linter.unusedSimpArgs false
set_option linter.unusedVariables false
noncomputable section
namespace Go.Proofs.Ytkcighnochjlgaa
open Go.ChangeShapes Go.WideShapes Go.ChangeAt Go.RowKit
theorem SH.pubB {w : World} {M : Hp} {X : Fr} {H H' : List Rs} {i g : Nat} {T : TypeId} {l : List Value} (S : SH w M X H) (hi : nth H i = some (Rs.box g T l)) (hH : H.set i Rs.emp = H') : ∃ M', M.le M' ∧ SH w M' X H' ∧ BxM M' g T l := by
 obtain ⟨h1, h2, h3⟩ := S.pub hi hH
 refine ⟨_, h1, h2, ?_⟩
 show (M.put w _) g = _
 rw [h3 g (by simp [Rs.box])]
 exact S.get hi
theorem mk167 : MapK Try.prog 167 (fun x => Value.agg (cdDa.f x).toArray) := mapK_st se167 (fun x y => ⟨x.a = y.a ∧ x.b = y.b, ⟨_, _, _, _, rfl, rfl, ⟨_, _, rfl, rfl, rfl⟩, rfl⟩, ⟨fun h => by cases x; cases y; simp at h; simp [h], fun h => by rw [h]; exact ⟨rfl, rfl⟩⟩⟩) (fun k => by simp [Instr.sameBits, cdDa, daF])
def dA (c : Nat) : Da := ⟨((c / 2 : Nat) : Int), decide (c % 2 = 1)⟩
def dartN (k : Nat) : Da := dA (k + 2)
def encD (k : Nat) : Value := .agg (daF (dartN k)).toArray
def DartsR (g : Nat) (u : Value) (M : Hp) : Prop := ∃ b, u = .func (.func 158) #[] [.pointer (some ⟨b, 0, none⟩)].toArray ∧ BxM M b 105 [.pointer (some ⟨g, 0, none⟩)]
theorem dart_eq (a i : Nat) (hi : i < 2) : (Value.agg [.int .i64 ((a : Int) + 1), .bool (ga [false, true] i)].toArray) = encD (2 * a + i) := by
 have e : i = 0 ∨ i = 1 := by omega
 unfold encD dartN dA
 rcases e with rfl | rfl
 ·rw [show (2 * a + 0 + 2) / 2 = a + 1 by omega, show (2 * a + 0 + 2) % 2 = 0 by omega]; rfl
 ·rw [show (2 * a + 1 + 2) / 2 = a + 1 by omega, show (2 * a + 1 + 2) % 2 = 1 by omega]; rfl
noncomputable def Ze := Try.f137.body.getD .skip
noncomputable def Zf := cL Ze
noncomputable def Zg := cR Ze
noncomputable def Zh := cL Zg
noncomputable def Zi := cR Zg
set_option maxRecDepth 10000 in
theorem Darts_t {w : World} {M : Hp} {X : Fr} (d : Dg) {gsh : Nat} {cA iA oA : Option Addr} {cc ic oc : Nat} (hsb : BxM (M.un X.h) gsh 114 [.slice cA d.crs.length cc, .int .i64 d.loops, .slice iA (tabL d false (4 * d.crs.length)).length ic, .slice oA (tabL d true (4 * d.crs.length)).length oc]) (hsc : RdA cdCr (M.un X.h) cA cc d.crs) (hsi : RdA cdPl (M.un X.h) iA ic (tabL d false (4 * d.crs.length))) (hso : RdA cdPl (M.un X.h) oA oc (tabL d true (4 * d.crs.length))) (S : SH w M X []) : Ct Try.prog 137 [.pointer (some ⟨gsh, 0, none⟩)] w M X (DartsR gsh) := by
 unfold Ct
 refine U7 (b := Ze) Try.func137 rfl Try.ntmps137 rfl (fun C hC => ?_)
 refine ws_sub [(0, _)] ⟨rfl, trivial⟩ ?_
 refine Ul Zf Zg rfl rfl rfl ?_
 refine U9 rfl ?_
 refine Ud (k := 0) (k' := 1) rfl rfl rfl (Uv (l := [_]) rfl rfl rfl rfl rfl S ?_)
 intro gb1 w1 S1; clear S
 refine Ud (k := 1) (k' := 2) rfl rfl rfl (Ua rfl rfl (run_assign rfl rfl) ?_)
 refine Us rfl ?_
 refine U10 [(1, _)] ⟨rfl, trivial⟩ ?_
 refine U6 ?_
 refine Ul Zh Zi rfl rfl rfl ?_
 refine U9 rfl ?_
 refine Ud (k := 0) (k' := 1) rfl rfl rfl (Ua rfl rfl (run_makeFunc (vs := [_]) rfl rfl rfl rfl) ?_)
 refine Ud (k := 1) (k' := 2) rfl rfl rfl (Ua rfl rfl (run_assign rfl rfl) ?_)
 refine Us rfl ?_
 refine U10 [(2, _)] ⟨rfl, trivial⟩ ?_
 refine U6 ?_
 obtain ⟨M1, hle1, S2, hbx1⟩ := S1.pubB (i := 0) (H' := [_]) rfl rfl
 clear S1
 replace hsb := hsb.mono (Hp.U0 hle1 S2.mx)
 replace hsc := hsc.mono (Hp.U0 hle1 S2.mx)
 replace hsi := hsi.mono (Hp.U0 hle1 S2.mx)
 replace hso := hso.mono (Hp.U0 hle1 S2.mx)
 refine ws_ret hC [_] rfl rfl ⟨rfl, trivial⟩ ?_
 refine ⟨_, rfl, _, hle1, (S2.pick [] [] (by decide) trivial), ?_⟩
 exact ⟨_, rfl, hbx1⟩
namespace InF
noncomputable def Zj := Try.f158.body.getD .skip
noncomputable def Zk := cL Zj
noncomputable def Zl := cR Zj
noncomputable def Zm := cL Zl
noncomputable def Zn := cL Zm
noncomputable def Zo := cL Zn
noncomputable def Zp := cR Zn
noncomputable def Zq := cL Zo
noncomputable def Zr := cR Zo
noncomputable def Zs := cL Zr
noncomputable def Zt := cR Zr
noncomputable def Zu := cL Zp
noncomputable def Zv := cR Zp
noncomputable def Zw := cL Zu
noncomputable def Zx := cL Zw
noncomputable def Zy := cR Zw
noncomputable def Zz := cL Zy
noncomputable def Z10 := cL Zz
noncomputable def Z11 := cL Z10
noncomputable def Z12 := cR Z10
noncomputable def Z13 := cL Z12
noncomputable def Z14 := cR Z12
noncomputable def Z15 := cL Z13
noncomputable def Z16 := cR Z13
noncomputable def Z17 := cL Z14
noncomputable def Z18 := cR Z14
noncomputable def Z19 := cL Z17
noncomputable def Z1a := cL Z19
noncomputable def Z1b := cR Z19
noncomputable def Z1c := cL Z1b
noncomputable def Z1d := cR Z1b
noncomputable def Z1e := cR Z1d
set_option maxRecDepth 10000 in
theorem Darts1_iter {M : Hp} {X : Fr} (d : Dg) {gsh : Nat} {cA iA oA : Option Addr} {cc ic oc : Nat} {b : Nat} (hsb : BxM (M.un X.h) gsh 114 [.slice cA d.crs.length cc, .int .i64 d.loops, .slice iA (tabL d false (4 * d.crs.length)).length ic, .slice oA (tabL d true (4 * d.crs.length)).length oc]) (hsc : RdA cdCr (M.un X.h) cA cc d.crs) (hsi : RdA cdPl (M.un X.h) iA ic (tabL d false (4 * d.crs.length))) (hso : RdA cdPl (M.un X.h) oA oc (tabL d true (4 * d.crs.length))) (hbx : BxM M b 105 [.pointer (some ⟨gsh, 0, none⟩)]) (hn : d.crs.length ≤ 16) : Iter Try.prog 158 [.pointer (some ⟨b, 0, none⟩)] encD (4 * d.crs.length) M X := by
 intro l J w M1 B hle0 hY S hJ0
 replace hsb := hsb.mono (Hp.U0 hle0 S.mx)
 replace hsc := hsc.mono (Hp.U0 hle0 S.mx)
 replace hsi := hsi.mono (Hp.U0 hle0 S.mx)
 replace hso := hso.mono (Hp.U0 hle0 S.mx)
 replace hbx := hbx.mono hle0
 refine U7 (b := Zj) Try.func158 rfl Try.ntmps158 rfl (fun C hCr hC => ?_)
 have hCF : C.F = Fence.wide := by unfold Ctx.F; rw [hCr]
 refine ws_sub [(0, _), (1, _)] ⟨rfl, rfl, trivial⟩ ?_
 refine Ul Zk Zl rfl rfl rfl ?_
 refine U9 rfl ?_
 refine Ud (k := 0) (k' := 1) rfl rfl rfl (Ua rfl rfl (run_assign rfl rfl) ?_)
 refine Us rfl ?_
 refine U6 ?_
 refine U19 Zm 0 rfl rfl rfl ?_
 refine U4 (fun mx_ ax_ wx_ => ∃ (a : Nat) (B1 : Rs) (M2 : Hp), M1.le M2 ∧ mx_ = 2 * d.crs.length - a ∧ Env 23 [(0, .func (.yield l) #[] #[]), (1, .pointer (some ⟨b, 0, none⟩)), (3, .int .i64 ((a : Int) + 1))] ax_ ∧ SH wx_ M2 X [B1] ∧ a ≤ 2 * d.crs.length ∧ J (2 * a) M2 B1) rfl ?_ ?_
 ·intro ax_ hax_
  refine ⟨_, ⟨0, _, _, Hp.le_refl _, rfl, hax_.sub ⟨rfl, rfl, rfl, trivial⟩, S.pick [0] [_] (by decide) ⟨rfl, trivial⟩, ?hq1f0, ?hq1f1⟩⟩
  case hq1f0 => omega
  case hq1f1 => exact hJ0
 ·rintro m1 a1 w1 ⟨a, B1, M2, hle1, rfl, he1, S1, ha, hJa⟩
  clear S
  refine ws_in he1 (c := Zn) rfl ?_
  clear he1 a1
  replace hsb := hsb.mono (Hp.U0 hle1 S1.mx)
  replace hsc := hsc.mono (Hp.U0 hle1 S1.mx)
  replace hsi := hsi.mono (Hp.U0 hle1 S1.mx)
  replace hso := hso.mono (Hp.U0 hle1 S1.mx)
  replace hbx := hbx.mono hle1
  refine Ul Zo Zp rfl rfl rfl ?_
  refine Ul Zq Zr rfl rfl rfl ?_
  refine U9 rfl ?_
  refine Ud (k := 0) (k' := 1) rfl rfl rfl (Ua rfl rfl (run_move rfl rfl) ?_)
  refine Ud (k := 1) (k' := 2) rfl rfl rfl (Ua rfl rfl (U1b rfl rfl uT105 rfl (hbx.cell S1.m rfl)) ?_)
  refine Ud (k := 2) (k' := 3) rfl rfl rfl (U26 rfl rfl rfl rfl rfl rfl rfl cf116 S1 (Arcs_q d  (hsb.mono S1.Uj) (hsc.mono S1.Uj) (hsi.mono S1.Uj) (hso.mono S1.Uj) (by omega) S1.lend) ?_)
  rintro _ w2 S2 rfl; clear S1
  refine Ud (k := 3) (k' := 4) rfl rfl rfl (Ua rfl rfl (run_leq rfl rfl rfl) ?_)
  refine Us rfl ?_
  refine U10 [(0, _), (1, _), (3, _), (9, _)] ⟨rfl, rfl, rfl, rfl, trivial⟩ ?_
  refine U6 ?_
  refine ws_condN Zs Zt rfl rfl rfl rfl (fun hb9 => ?_) (fun hb9 => ?_)
  ·replace hb9 := of_decide_eq_true hb9
   refine ws_skip rfl ?_
   refine U10 [(0, _), (1, _), (3, _)] ⟨rfl, rfl, rfl, trivial⟩ ?_
   refine U6 ?_
   refine Ul Zu Zv rfl rfl rfl ?_
   refine U19 Zw 1 rfl rfl rfl ?_
   refine Ul Zx Zy rfl rfl rfl ?_
   refine U9 rfl ?_
   refine Ud (k := 0) (k' := 1) rfl rfl rfl (Ua rfl rfl (run_buildA (l := [_, _]) (pl := [(0, 1), (1, 1)]) rfl rfl uT211 zr211 sz4 rfl rfl rfl) ?_)
   refine Ud (k := 1) (k' := 2) rfl rfl rfl (Ua rfl rfl (run_move rfl rfl) ?_)
   refine Us rfl ?_
   refine U6 ?_
   refine U19 Zz 2 rfl rfl rfl ?_
   refine U4 (fun mx_ ax_ wx_ => ∃ (i : Nat) (B2 : Rs) (M3 : Hp), M2.le M3 ∧ mx_ = 2 - i ∧ Env 23 [(0, .func (.yield l) #[] #[]), (1, .pointer (some ⟨b, 0, none⟩)), (3, .int .i64 ((a : Int) + 1)), (12, .agg [.bool false, .bool true].toArray), (13, .int .i64 (i : Int))] ax_ ∧ SH wx_ M3 X [B2] ∧ i ≤ 2 ∧ J (2 * a + i) M3 B2) rfl ?_ ?_
   ·intro ax_ hax_
    refine ⟨_, ⟨0, _, _, Hp.le_refl _, rfl, hax_.sub ⟨rfl, rfl, rfl, rfl, rfl, trivial⟩, S2.pick [0] [_] (by decide) ⟨rfl, trivial⟩, ?hq2f0, ?hq2f1⟩⟩
    case hq2f0 => omega
    case hq2f1 => exact hJa
   ·rintro m2 a2 w3 ⟨i, B2, M3, hle2, rfl, he2, S3, hi, hJi⟩
    clear S2
    refine ws_in he2 (c := Z10) rfl ?_
    clear he2 a2
    replace hsb := hsb.mono (Hp.U0 hle2 S3.mx)
    replace hsc := hsc.mono (Hp.U0 hle2 S3.mx)
    replace hsi := hsi.mono (Hp.U0 hle2 S3.mx)
    replace hso := hso.mono (Hp.U0 hle2 S3.mx)
    replace hbx := hbx.mono hle2
    refine Ul Z11 Z12 rfl rfl rfl ?_
    refine U9 rfl ?_
    refine Ud (k := 0) (k' := 1) rfl rfl rfl (Ua rfl rfl (run_lss rfl rfl rfl) ?_)
    refine Us rfl ?_
    refine U6 ?_
    refine Ul Z13 Z14 rfl rfl rfl ?_
    refine ws_condN Z15 Z16 rfl rfl rfl rfl (fun hb14 => ?_) (fun hb14 => ?_)
    ·replace hb14 := of_decide_eq_true hb14
     refine ws_skip rfl ?_
     refine U10 [(0, _), (1, _), (3, _), (12, _), (13, _)] ⟨rfl, rfl, rfl, rfl, rfl, trivial⟩ ?_
     refine U6 ?_
     refine Ul Z17 Z18 rfl rfl rfl ?_
     refine U19 Z19 3 rfl rfl rfl ?_
     refine Ul Z1a Z1b rfl rfl rfl ?_
     refine U9 rfl ?_
     refine Ud (k := 0) (k' := 1) rfl rfl rfl (Ua rfl rfl (run_index1 (e := i) rfl rfl rfl uT211 uT4 rfl sz4 (by first | rfl | omega) (by first | omega | (simp only [ls]; omega)) (nth_bv [false, true] i (by simp; first | omega | (simp only [ls]; omega)))) ?_)
     refine Ud (k := 1) (k' := 2) rfl rfl rfl (Ua rfl rfl (run_assign rfl rfl) ?_)
     refine Us rfl ?_
     refine U10 [(0, _), (1, _), (3, _), (12, _), (13, _), (5, _)] ⟨rfl, rfl, rfl, rfl, rfl, rfl, trivial⟩ ?_
     refine U6 ?_
     refine Ul Z1c Z1d rfl rfl rfl ?_
     refine U9 rfl ?_
     refine Ud (k := 0) (k' := 1) rfl rfl rfl (Ua rfl rfl (run_move rfl rfl) ?_)
     refine Ud (k := 1) (k' := 2) rfl rfl rfl (Ua rfl rfl (run_move rfl rfl) ?_)
     refine Ud (k := 2) (k' := 3) rfl rfl rfl (Ua rfl rfl (run_move rfl rfl) ?_)
     refine Ud (k := 3) (k' := 4) rfl rfl rfl (Ua rfl rfl (run_build (l := [_, _]) rfl rfl st167 rfl rfl) ?_)
     have hlt4 : 2 * a + i < 4 * d.crs.length := by omega
     refine wl_yield (k := 4) (k' := 5) rfl rfl rfl rfl rfl rfl rfl rfl rfl rfl (by rw [hCF]; have h9 := hY (2 * a + i) _ _ _ (by omega) (hle1.trans hle2) S3 hJi; rw [← dart_eq a i (by omega)] at h9; exact h9) ?_
     rintro _ w4 ⟨rfl, M4, B6, hle3, S4, hJ1⟩; clear S3
     replace hsb := hsb.mono (Hp.U0 hle3 S4.mx)
     replace hsc := hsc.mono (Hp.U0 hle3 S4.mx)
     replace hsi := hsi.mono (Hp.U0 hle3 S4.mx)
     replace hso := hso.mono (Hp.U0 hle3 S4.mx)
     replace hbx := hbx.mono hle3
     refine Ud (k := 5) (k' := 6) rfl rfl rfl (Ua rfl rfl (run_not rfl rfl) ?_)
     refine Us rfl ?_
     refine U10 [(0, _), (1, _), (3, _), (12, _), (13, _), (21, _)] ⟨rfl, rfl, rfl, rfl, rfl, rfl, trivial⟩ ?_
     refine U6 ?_
     refine ws_condFN Z1e rfl rfl rfl ?_
     refine ws_skip rfl ?_
     refine U8 ?_
     refine U10 [(0, _), (1, _), (3, _), (12, _), (13, _)] ⟨rfl, rfl, rfl, rfl, rfl, trivial⟩ ?_
     refine U6 ?_
     refine U9 rfl ?_
     refine Ud (k := 0) (k' := 1) rfl rfl rfl (Ua rfl rfl (run_add rfl rfl rfl (by first | omega | (simp only [ls]; omega))) ?_)
     refine Ud (k := 1) (k' := 2) rfl rfl rfl (Ua rfl rfl (run_move rfl rfl) ?_)
     refine Us rfl ?_
     refine Uf ?_
     intro ax_ hax_
     refine ⟨_, ?hq3m, ⟨i + 1, _, _, (hle2.trans hle3), rfl, hax_.sub ⟨rfl, rfl, rfl, rfl, rfl, trivial⟩, S4.pick [0] [_] (by decide) ⟨rfl, trivial⟩, ?hq3f0, ?hq3f1⟩⟩
     case hq3f0 => omega
     case hq3f1 => first | assumption | (rw [show 2 * a + (i + 1) = 2 * a + i + 1 by omega]; assumption)
     case hq3m => omega
    ·replace hb14 := of_decide_eq_false hb14
     refine ws_exit rfl rfl ?_
     refine U8 ?_
     refine U10 [(0, _), (1, _), (3, _)] ⟨rfl, rfl, rfl, trivial⟩ ?_
     refine U6 ?_
     refine U9 rfl ?_
     refine Ud (k := 0) (k' := 1) rfl rfl rfl (Ua rfl rfl (run_move rfl rfl) ?_)
     refine Ud (k := 1) (k' := 2) rfl rfl rfl (Ua rfl rfl (run_add rfl rfl rfl (by first | omega | (simp only [ls]; omega))) ?_)
     refine Ud (k := 2) (k' := 3) rfl rfl rfl (Ua rfl rfl (run_assign rfl rfl) ?_)
     refine Us rfl ?_
     refine Uf ?_
     intro ax_ hax_
     refine ⟨_, ?hq4m, ⟨a + 1, _, _, (hle1.trans hle2), rfl, hax_.sub ⟨rfl, rfl, rfl, trivial⟩, S3.pick [0] [_] (by decide) ⟨rfl, trivial⟩, ?hq4f0, ?hq4f1⟩⟩
     case hq4f0 => omega
     case hq4f1 => (rw [show 2 * (a + 1) = 2 * a + i by omega]; exact hJi)
     case hq4m => omega
  ·replace hb9 := of_decide_eq_false hb9
   refine ws_exit rfl rfl ?_
   refine nm_end hC [] rfl trivial ?_
   refine ⟨⟨_, rfl⟩, _, _, hle1, S2, ?_⟩
   rw [show 4 * d.crs.length = 2 * a by omega]
   exact hJa
end InF
end Go.Proofs.Ytkcighnochjlgaa
namespace Go.Proofs.Ytkcighnochjlgaa
open Go.RowKit
def free (seen : List Bool) : Nat := seen.countP (fun b => !b)
theorem U1u {seen : List Bool} {x : Nat} (h : x < seen.length) (hx : ga seen x = false) : free (seen.set x true) + 1 = free seen := by
  induction seen generalizing x with
  | nil => simp at h
  | cons b seen ih =>
    cases x with
    | zero =>
      have : b = false := by simpa [ga] using hx
      subst this
      simp [free]
    | succ x =>
      have h1 : ga (b :: seen) (x + 1) = ga seen x := by simp [ga]
      rw [h1] at hx
      have h2 := ih (by simpa using h) hx
      unfold free at *
      rw [List.set_cons_succ, List.countP_cons, List.countP_cons]
      omega
def ringF (nx : Nat → Nat) (seen : List Bool) (x : Nat) (acc : List Int) : List Bool × List Int :=
  if _h : x < seen.length ∧ ga seen x = false then ringF nx (seen.set x true) (nx x) (acc ++ [(x : Int)]) else (seen, acc)
termination_by free seen
decreasing_by have := U1u _h.1 _h.2; omega
theorem ringF_go {nx : Nat → Nat} {seen : List Bool} {x : Nat} {acc : List Int} (h : x < seen.length) (hx : ga seen x = false) : ringF nx seen x acc = ringF nx (seen.set x true) (nx x) (acc ++ [(x : Int)]) := by
  rw [ringF]; simp [h, hx]
theorem ringF_stop {nx : Nat → Nat} {seen : List Bool} {x : Nat} {acc : List Int} (hx : ga seen x = true) : ringF nx seen x acc = (seen, acc) := by
  rw [ringF]; simp [hx]
theorem ringF_len (nx : Nat → Nat) (seen : List Bool) (x : Nat) (acc : List Int) : (ringF nx seen x acc).1.length = seen.length := by
  induction hk : free seen using Nat.strongRecOn generalizing seen x acc with
  | _ k ih =>
    by_cases h : x < seen.length ∧ ga seen x = false
    · rw [ringF_go h.1 h.2]
      have := U1u h.1 h.2
      rw [ih (free (seen.set x true)) (by omega) _ _ _ rfl, List.length_set]
    · rw [ringF]; simp [h]
end Go.Proofs.Ytkcighnochjlgaa
namespace Go.Proofs.Ytkcighnochjlgaa
open Go.ChangeShapes Go.WideShapes Go.ChangeAt Go.RowKit
def dcN (x : Da) : Nat := (2 * x.a + (if x.b = true then 1 else 0)).toNat
theorem dA_dcN {x : Da} (h : 0 ≤ x.a) : dA (dcN x) = x := by
 obtain ⟨a, b⟩ := x
 simp only at h
 unfold dA dcN
 cases b
 ·simp only [Bool.false_eq_true, if_false, Int.add_zero]
  congr 1
  ·omega
  ·rw [decide_eq_false_iff_not]; omega
 ·simp only [if_true]
  congr 1
  ·omega
  ·rw [decide_eq_true_iff]; omega
theorem dcN_dA (c : Nat) : dcN (dA c) = c := by
 unfold dcN dA
 by_cases h : c % 2 = 1
 ·simp only [h, decide_true, if_true]; omega
 ·simp only [h, decide_false, Bool.false_eq_true, if_false]; omega
theorem dA_inj {c e : Nat} (h : dA c = dA e) : c = e := by rw [← dcN_dA c, h, dcN_dA]
theorem dA_ok {d : Dg} {c : Nat} (h : 2 ≤ c ∧ c < 4 * d.crs.length + 2) : okD d (dA c) := by
 show 1 ≤ ((c / 2 : Nat) : Int) ∧ ((c / 2 : Nat) : Int) ≤ 2 * (d.crs.length : Int)
 omega
def nxC (d : Dg) (c : Nat) : Nat := dcN (leftD d (dA c))
theorem dcN_rng {d : Dg} {x : Da} (h : okD d x) : 2 ≤ dcN x ∧ dcN x < 4 * d.crs.length + 2 := by
 unfold okD at h
 unfold dcN
 split <;> omega
theorem nxC_rng {d : Dg} (hab : Ue d = true) {c : Nat} (h : 2 ≤ c ∧ c < 4 * d.crs.length + 2) : 2 ≤ nxC d c ∧ nxC d c < 4 * d.crs.length + 2 := dcN_rng (leftD_ok hab (dA_ok h))
theorem dA_nxC {d : Dg} (hab : Ue d = true) {c : Nat} (h : 2 ≤ c ∧ c < 4 * d.crs.length + 2) : dA (nxC d c) = leftD d (dA c) := dA_dcN (by have := leftD_ok hab (dA_ok h); unfold okD at this; omega)
def U1e (d : Dg) : Nat → List Bool × List (List Int)
 | 0 => (List.replicate (4 * d.crs.length + 2) false, [])
 | k + 1 =>
  let s := U1e d k
  if ga s.1 (k + 2) = true then s else ((ringF (nxC d) s.1 (k + 2) []).1, s.2 ++ [(ringF (nxC d) s.1 (k + 2) []).2])
theorem U1h {d : Dg} {k : Nat} {s : List Bool × List (List Int)} (h : U1e d k = s) (hg : ga s.1 (k + 2) = true) : U1e d (k + 1) = s := by
 subst h
 show (if _ then _ else _) = _
 rw [if_pos hg]
theorem U1i {d : Dg} {k : Nat} {s : List Bool × List (List Int)} {r : List Bool × List Int} (h : U1e d k = s) (hg : ga s.1 (k + 2) = false) (hr : ringF (nxC d) s.1 (k + 2) [] = r) : U1e d (k + 1) = (r.1, s.2 ++ [r.2]) := by
 subst h; subst hr
 show (if _ then _ else _) = _
 rw [if_neg (by rw [hg]; exact Bool.false_ne_true)]
theorem facesN_len (d : Dg) (k : Nat) : (U1e d k).1.length = 4 * d.crs.length + 2 := by
 induction k with
 | zero => simp [U1e]
 | succ k ih =>
  cases hg : ga (U1e d k).1 (k + 2) with
  | true => rw [U1h rfl hg]; exact ih
  | false => rw [U1i rfl hg rfl, ringF_len]; exact ih
theorem facesN_many (d : Dg) (k : Nat) : (U1e d k).2.length ≤ k := by
 induction k with
 | zero => simp [U1e]
 | succ k ih =>
  cases hg : ga (U1e d k).1 (k + 2) with
  | true => rw [U1h rfl hg]; omega
  | false => rw [U1i rfl hg rfl]; simp; omega
def dasL (r : List Int) : List Da := r.map fun c => dA c.toNat
theorem dasL_snoc (r : List Int) (c : Nat) : dasL (r ++ [(c : Int)]) = dasL r ++ [dA c] := by unfold dasL; rw [List.map_append]; rfl
def facesD (d : Dg) (k : Nat) : List (List Da) := (U1e d k).2.map dasL
def Ug (d : Dg) : List (List Da) := facesD d (4 * d.crs.length)
def SeenM (d : Dg) (es : List (Da × Bool)) (seen : List Bool) : Prop := ∀ c, 2 ≤ c → c < 4 * d.crs.length + 2 → (mg (dA c) es).getD false = ga seen c
theorem SeenM.nil_ (d : Dg) : SeenM d [] (List.replicate (4 * d.crs.length + 2) false) := fun c _ hc => by rw [U24 _ _ _ hc]; rfl
theorem SeenM.put {d : Dg} {es : List (Da × Bool)} {seen : List Bool} (h : SeenM d es seen) {c : Nat} (hc : c < seen.length) : SeenM d (mp (dA c) true es) (seen.set c true) := fun e h1 h2 => by
 rw [mg_mp, U3 _ _ _ _ hc]
 by_cases he : c = e
 ·subst he; rw [if_pos rfl, if_pos rfl]; rfl
 ·rw [if_neg (fun e' => he (dA_inj e').symm), if_neg he]; exact h e h1 h2
def rfA : Code → Code
 | .rangeFunc _ _ a _ => a
 | c => c
def rfB : Code → Code
 | .rangeFunc _ _ _ b => b
 | c => c
def FacesI (d : Dg) (gsh g1 g3 g4 gm k : Nat) (M : Hp) (H : List Rs) : Prop := ∃ es vs outv seen outc,
 H = [Rs.mp (fun x => Value.agg (cdDa.f x).toArray) Value.bool gm es, Rs.box g4 142 [outv], Rs.row (cdV 168) outv vs, Rs.box g3 208 [.map (some gm)], Rs.box g1 105 [.pointer (some ⟨gsh, 0, none⟩)]] ∧ Rd2 cdDa M vs (outc.map dasL) ∧ U1e d k = (seen, outc) ∧ SeenM d es seen
def FacesI1 (d : Dg) (gsh g1 g3 g4 gm k : Nat) (a : Act) (M : Hp) (H : List Rs) : Prop := ∃ g5 H', Env 35 [(1, .pointer (some ⟨g1, 0, none⟩)), (3, .pointer (some ⟨g3, 0, none⟩)), (4, .pointer (some ⟨g4, 0, none⟩)), (5, .pointer (some ⟨g5, 0, none⟩))] a ∧ H = Rs.box g5 167 [.int .i64 (dartN k).a, .bool (dartN k).b] :: H' ∧ FacesI d gsh g1 g3 g4 gm k M H'
noncomputable def Faces_rf : Code := cL (cR (cL (cR (cR (cR (Try.f136.body.getD .skip))))))
namespace InF
set_option maxRecDepth 10000 in
theorem Faces_assign {w : World} {M : Hp} {X : Fr} {d : Dg} {gsh gq1 gq3 gq4 gm k : Nat} {C : Ctx} {R0 : Rs} {H : List Rs} {L : List (Nat × Value)} (hL : Sub L [(1, .pointer (some ⟨gq1, 0, none⟩)), (3, .pointer (some ⟨gq3, 0, none⟩)), (4, .pointer (some ⟨gq4, 0, none⟩)), (11, encD k)]) (S : SH w M X (R0 :: H)) (hI : FacesI d gsh gq1 gq3 gq4 gm k M H) :
  WS Try.prog 35 C (rfA Faces_rf) [.lp (fun a w2 => ∃ M2 H2, M.le M2 ∧ SH w2 M2 X (R0 :: H2) ∧ FacesI1 d gsh gq1 gq3 gq4 gm k a M2 H2)] L w := by
 obtain ⟨es, vs, vrout, seen, outc, rfl, hdo, hfn, hse⟩ := hI
 change SH w M X [R0, Rs.mp (fun x => Value.agg (cdDa.f x).toArray) Value.bool gm es, _, Rs.row (cdV 168) vrout vs, _, _] at S
 refine ws_sub _ hL ?_
 refine U9 rfl ?_
 refine Ud (k := 0) (k' := 1) rfl rfl rfl (Uk (l := [_, _]) rfl rfl rfl zr167 rfl S ?_)
 intro gb1 w1 S1; clear S
 refine Ud (k := 1) (k' := 2) rfl rfl rfl (U1a (i := 0) (us := [_, _]) (l' := [_, _]) (H' := [_, _, _, _, _, _, _]) rfl rfl S1 rfl rfl rfl rfl sz167 rfl rfl rfl rfl ?_)
 intro w2 S2; clear S1
 refine Us rfl ?_
 refine Uf ?_
 intro ax_ hax_
 exact ⟨M, _, Hp.le_refl _, S2.pick [1, 0, 2, 3, 4, 5, 6] [_, _, _, _, _, _, _] (by decide) ⟨rfl, rfl, rfl, rfl, rfl, rfl, rfl, trivial⟩, _, _, hax_.sub ⟨rfl, rfl, rfl, rfl, trivial⟩, rfl, es, vs, vrout, seen, outc, rfl, hdo, hfn, hse⟩
noncomputable def Z1f := rfB Faces_rf
noncomputable def Z1g := cL Z1f
noncomputable def Z1h := cL Z1g
noncomputable def Z1i := cR Z1g
noncomputable def Z1j := cL Z1h
noncomputable def Z1k := cR Z1h
noncomputable def Z1l := cL Z1k
noncomputable def Z1m := cR Z1k
noncomputable def Z1n := cL Z1i
noncomputable def Z1o := cR Z1i
noncomputable def Z1p := cL Z1o
noncomputable def Z1q := cR Z1o
noncomputable def Z1r := cL Z1p
noncomputable def Z1s := cR Z1p
noncomputable def Z1t := cL Z1s
noncomputable def Z1u := cL Z1t
noncomputable def Z1v := cL Z1u
noncomputable def Z1w := cR Z1u
noncomputable def Z1x := cL Z1v
noncomputable def Z1y := cR Z1v
noncomputable def Z1z := cL Z1y
noncomputable def Z20 := cR Z1y
noncomputable def Z21 := cL Z1w
noncomputable def Z22 := cR Z1w
noncomputable def Z23 := cL Z21
noncomputable def Z24 := cL Z23
noncomputable def Z25 := cR Z23
noncomputable def Z26 := cL Z22
noncomputable def Z27 := cR Z22
noncomputable def Z28 := cL Z26
noncomputable def Z29 := cR Z26
set_option maxHeartbeats 1000000 in
set_option maxRecDepth 10000 in
theorem Faces_body {w : World} {M : Hp} {X : Fr} (d : Dg) {gsh gq1 gq3 gq4 gm k : Nat} {cA iA oA : Option Addr} {cc ic oc : Nat} (hsb : BxM (M.un X.h) gsh 114 [.slice cA d.crs.length cc, .int .i64 d.loops, .slice iA (tabL d false (4 * d.crs.length)).length ic, .slice oA (tabL d true (4 * d.crs.length)).length oc]) (hsc : RdA cdCr (M.un X.h) cA cc d.crs) (hsi : RdA cdPl (M.un X.h) iA ic (tabL d false (4 * d.crs.length))) (hso : RdA cdPl (M.un X.h) oA oc (tabL d true (4 * d.crs.length))) (hn : d.crs.length ≤ 16) (hab : Ue d = true) (hk : k < 4 * d.crs.length) {C : Ctx} {R0 : Rs} {H : List Rs} {a : Act} (S : SH w M X (R0 :: H)) (hI1 : FacesI1 d gsh gq1 gq3 gq4 gm k a M H) :
  (rfB Faces_rf).wpIn C.F 0 Try.prog (post Try.prog C [.lp (fun _ w2 => ∃ M2 H2, M.le M2 ∧ SH w2 M2 X (R0 :: H2) ∧ FacesI d gsh gq1 gq3 gq4 gm (k + 1) M2 H2)]) a w := by
 obtain ⟨gq5, H1, ha, rfl, es, vs, vrout, seen, outc, rfl, hdo, hfn, hse⟩ := hI1
 change SH w M X [R0, Rs.box gq5 _ _, Rs.mp (fun x => Value.agg (cdDa.f x).toArray) Value.bool gm es, _, Rs.row (cdV 168) vrout vs, _, _] at S
 have hdn : okD d (dartN k) := dA_ok (by omega)
 have hvs := hdo.1
 have hmany := facesN_many d k
 rw [hfn] at hmany
 replace hmany : outc.length ≤ k := hmany
 rw [List.length_map] at hvs
 refine ws_in ha (c := rfB Faces_rf) rfl ?_
 refine U19 Z1g 1 rfl rfl rfl ?_
 refine Ul Z1h Z1i rfl rfl rfl ?_
 refine Ul Z1j Z1k rfl rfl rfl ?_
 refine U9 rfl ?_
 refine Ud (k := 0) (k' := 1) rfl rfl rfl (Ua rfl rfl (U1b rfl rfl uT208 rfl (S.boxc (i := 5) rfl rfl)) ?_)
 refine Ud (k := 1) (k' := 2) rfl rfl rfl (Ua rfl rfl (U1m (us := [_, _]) rfl rfl uT167 rfl sz167 (S.boxcs (i := 1) rfl ⟨rfl, rfl, trivial⟩)) ?_)
 refine Ud (k := 2) (k' := 3) rfl rfl rfl (Ua rfl rfl (run_lookup (kc := (fun x => Value.agg (cdDa.f x).toArray)) (vc := Value.bool) (es := es) (k := (dartN k)) (zv := false) (i := 2) rfl rfl rfl uT208 mk167 zr4 S rfl) ?_)
 refine Us rfl ?_
 refine U10 [(1, _), (3, _), (4, _), (5, _), (14, _)] ⟨rfl, rfl, rfl, rfl, rfl, trivial⟩ ?_
 refine U6 ?_
 refine ws_condN Z1l Z1m rfl rfl rfl rfl (fun hb14 => ?_) (fun hb14 => ?_)
 ·refine ws_exit rfl rfl ?_
  refine Uf ?_
  intro ax_ hax_
  exact ⟨_, _, Hp.le_refl _, S.pick [0, 2, 3, 4, 5, 6] [_, _, _, _, _, _] (by decide) ⟨rfl, rfl, rfl, rfl, rfl, rfl, trivial⟩, es, vs, vrout, seen, outc, rfl, hdo, U1h hfn (by rw [← hse (k + 2) (by omega) (by omega)]; exact hb14), hse⟩
 ·refine ws_skip rfl ?_
  refine U10 [(1, _), (3, _), (4, _), (5, _)] ⟨rfl, rfl, rfl, rfl, trivial⟩ ?_
  refine U6 ?_
  refine Ul Z1n Z1o rfl rfl rfl ?_
  refine U9 rfl ?_
  refine Ud (k := 0) (k' := 1) rfl rfl rfl (Ua rfl rfl (run_assign rfl rfl) ?_)
  refine Us rfl ?_
  refine U6 ?_
  refine Ul Z1p Z1q rfl rfl rfl ?_
  refine Ul Z1r Z1s rfl rfl rfl ?_
  refine U9 rfl ?_
  refine Ud (k := 0) (k' := 1) rfl rfl rfl (Ua rfl rfl (U1m (us := [_, _]) rfl rfl uT167 rfl sz167 (S.boxcs (i := 1) rfl ⟨rfl, rfl, trivial⟩)) ?_)
  refine Ud (k := 1) (k' := 2) rfl rfl rfl (Uk (l := [_, _]) rfl rfl rfl zr167 rfl S ?_)
  intro gb1 w1 S1; clear S
  refine Ud (k := 2) (k' := 3) rfl rfl rfl (U1a (i := 0) (us := [_, _]) (l' := [_, _]) (H' := [_, _, _, _, _, _, _, _]) rfl rfl S1 rfl rfl rfl rfl sz167 rfl rfl rfl rfl ?_)
  intro w2 S2; clear S1
  refine Us rfl ?_
  refine U10 [(1, _), (3, _), (4, _), (6, _), (7, _)] ⟨rfl, rfl, rfl, rfl, rfl, trivial⟩ ?_
  refine U6 ?_
  refine U19 Z1t 2 rfl rfl rfl ?_
  have S3 := S2.nilrow cdDa; clear S2
  refine U4 (fun mx_ ax_ wx_ => ∃ (es2 : List (Da × Bool)) (seen2 : List Bool) (x : Nat) (y : Da) (acc : List Int) (ringt : List Da) (vring : Value) (gbx : Nat), mx_ = free seen2 ∧ Env 35 [(1, .pointer (some ⟨gq1, 0, none⟩)), (3, .pointer (some ⟨gq3, 0, none⟩)), (4, .pointer (some ⟨gq4, 0, none⟩)), (6, vring), (7, .pointer (some ⟨gbx, 0, none⟩))] ax_ ∧ SH wx_ M X [Rs.row cdDa vring ringt, Rs.box gbx 167 [.int .i64 y.a, .bool y.b], R0, Rs.mp (fun x => Value.agg (cdDa.f x).toArray) Value.bool gm es2, Rs.box gq4 142 [vrout], Rs.row (cdV 168) vrout vs, Rs.box gq3 208 [.map (some gm)], Rs.box gq1 105 [.pointer (some ⟨gsh, 0, none⟩)]] ∧ ringF (nxC d) seen (k + 2) [] = ringF (nxC d) seen2 x acc ∧ ringt = dasL acc ∧ SeenM d es2 seen2 ∧ (2 ≤ x ∧ x < 4 * d.crs.length + 2) ∧ seen2.length = 4 * d.crs.length + 2 ∧ y = dA x ∧ acc.length + free seen2 ≤ 100) rfl ?_ ?_
  ·intro ax_ hax_
   refine ⟨_, ⟨es, seen, k + 2, dartN k, [], _, _, _, rfl, hax_.sub ⟨rfl, rfl, rfl, rfl, rfl, trivial⟩, S3.pick [0, 1, 2, 4, 5, 6, 7, 8] [_, _, _, _, _, _, _, _] (by decide) ⟨rfl, rfl, rfl, rfl, rfl, rfl, rfl, rfl, trivial⟩, ?hq1f0, ?hq1f1, ?hq1f2, ?hq1f3, ?hq1f4, ?hq1f5, ?hq1f6⟩⟩
   case hq1f0 => rfl
   case hq1f1 => rfl
   case hq1f2 => exact hse
   case hq1f3 => omega
   case hq1f4 => (have h9 := facesN_len d k; rw [hfn] at h9; exact h9)
   case hq1f5 => rfl
   case hq1f6 => (have h9 := facesN_len d k; rw [hfn] at h9; have h8 : free seen ≤ seen.length := List.countP_le_length; simp only [List.length_nil]; simp only at h9; omega)
  ·rintro m1 a1 w3 ⟨es2, seen2, x, y, acc, ringt, vring, gbx, rfl, he1, S4, hrg, hring, hse2, hx, hs2, hy, hroom⟩
   clear S3
   refine ws_in he1 (c := Z1u) rfl ?_
   clear he1 a1
   have hyk : okD d y := by rw [hy]; exact dA_ok hx
   have hrl : ringt.length = acc.length := by rw [hring]; simp [dasL]
   have hgs := hse2 x hx.1 hx.2
   refine Ul Z1v Z1w rfl rfl rfl ?_
   refine Ul Z1x Z1y rfl rfl rfl ?_
   refine U9 rfl ?_
   refine Ud (k := 0) (k' := 1) rfl rfl rfl (Ua rfl rfl (U1b rfl rfl uT208 rfl (S4.boxc (i := 6) rfl rfl)) ?_)
   refine Ud (k := 1) (k' := 2) rfl rfl rfl (Ua rfl rfl (U1m (us := [_, _]) rfl rfl uT167 rfl sz167 (S4.boxcs (i := 1) rfl ⟨rfl, rfl, trivial⟩)) ?_)
   refine Ud (k := 2) (k' := 3) rfl rfl rfl (Ua rfl rfl (run_lookup (kc := (fun x => Value.agg (cdDa.f x).toArray)) (vc := Value.bool) (es := es2) (k := y) (zv := false) (i := 3) rfl rfl rfl uT208 mk167 zr4 S4 rfl) ?_)
   refine Ud (k := 3) (k' := 4) rfl rfl rfl (Ua rfl rfl (run_not rfl rfl) ?_)
   refine Us rfl ?_
   refine U10 [(1, _), (3, _), (4, _), (6, _), (7, _), (19, _)] ⟨rfl, rfl, rfl, rfl, rfl, rfl, trivial⟩ ?_
   refine U6 ?_
   refine ws_condN Z1z Z20 rfl rfl rfl rfl (fun hb19 => ?_) (fun hb19 => ?_)
   ·simp only [Bool.and_eq_true, Bool.or_eq_true, Bool.and_eq_false_iff, Bool.or_eq_false_iff, decide_eq_true_eq, decide_eq_false_iff_not, Bool.not_eq_true', Bool.not_eq_false'] at hb19
    refine ws_skip rfl ?_
    refine U10 [(1, _), (3, _), (4, _), (6, _), (7, _)] ⟨rfl, rfl, rfl, rfl, rfl, trivial⟩ ?_
    refine U6 ?_
    refine Ul Z21 Z22 rfl rfl rfl ?_
    refine U19 Z23 3 rfl rfl rfl ?_
    refine Ul Z24 Z25 rfl rfl rfl ?_
    refine U9 rfl ?_
    refine Ud (k := 0) (k' := 1) rfl rfl rfl (Ua rfl rfl (U1b rfl rfl uT208 rfl (S4.boxc (i := 6) rfl rfl)) ?_)
    refine Ud (k := 1) (k' := 2) rfl rfl rfl (Ua rfl rfl (U1m (us := [_, _]) rfl rfl uT167 rfl sz167 (S4.boxcs (i := 1) rfl ⟨rfl, rfl, trivial⟩)) ?_)
    refine Ud (k := 2) (k' := 3) rfl rfl rfl (wo_mapUpdate (kc := (fun x => Value.agg (cdDa.f x).toArray)) (vc := Value.bool) (es := es2) (k := y) (e := true) (i := 3) (H' := [_, _, _, _, _, _, _, _]) (.inl rfl) rfl S4 rfl rfl rfl rfl uT208 mk167 rfl ?_)
    intro w4 S5; clear S4
    refine Us rfl ?_
    refine U10 [(1, _), (3, _), (4, _), (6, _), (7, _)] ⟨rfl, rfl, rfl, rfl, rfl, trivial⟩ ?_
    refine U6 ?_
    refine U9 rfl ?_
    refine Ud (k := 0) (k' := 1) rfl rfl rfl (Ua rfl rfl (run_move rfl rfl) ?_)
    refine Ud (k := 1) (k' := 2) rfl rfl rfl (Ua rfl rfl (U1m (us := [_, _]) rfl rfl uT167 rfl sz167 (S5.boxcs (i := 1) rfl ⟨rfl, rfl, trivial⟩)) ?_)
    refine Ud (k := 2) (k' := 3) rfl rfl rfl (Uh (C := cdDa) (l := [_, _]) rfl rfl rfl rfl sl168 rfl rfl rfl rfl S5 ?_)
    intro gb2 w5 S6; clear S5
    refine Ud (k := 3) (k' := 4) rfl rfl rfl (Uy (C := cdDa) (i := 1) (q := 0) (⟨y.a, y.b⟩ : Da) rfl rfl rfl rfl rfl rfl rfl rfl sl168 S6 rfl rfl rfl (by show (_ + 1) * 16 ≤ _; first | omega | (simp only [ls]; omega)) ?_)
    intro vring1 w6 S7; clear S6
    have S8 := S7.pick [1, 2, 3, 4, 5, 6, 7, 8] [_, _, _, _, _, _, _, _] (by decide) ⟨rfl, rfl, rfl, rfl, rfl, rfl, rfl, rfl, trivial⟩; clear S7
    refine Ud (k := 4) (k' := 5) rfl rfl rfl (Ua rfl rfl (run_assign rfl rfl) ?_)
    refine Us rfl ?_
    refine U8 ?_
    refine U10 [(1, _), (3, _), (4, _), (6, _), (7, _)] ⟨rfl, rfl, rfl, rfl, rfl, trivial⟩ ?_
    refine U6 ?_
    refine Ul Z26 Z27 rfl rfl rfl ?_
    refine Ul Z28 Z29 rfl rfl rfl ?_
    refine U9 rfl ?_
    refine Ud (k := 0) (k' := 1) rfl rfl rfl (Ua rfl rfl (U1m (us := [_, _]) rfl rfl uT167 rfl sz167 (S8.boxcs (i := 1) rfl ⟨rfl, rfl, trivial⟩)) ?_)
    refine Us rfl ?_
    refine U10 [(1, _), (3, _), (4, _), (6, _), (29, _)] ⟨rfl, rfl, rfl, rfl, rfl, trivial⟩ ?_
    refine U6 ?_
    refine U9 rfl ?_
    refine Ud (k := 0) (k' := 1) rfl rfl rfl (Uk (l := [_, _]) rfl rfl rfl zr167 rfl S8 ?_)
    intro gb3 w7 S9; clear S8
    refine Ud (k := 1) (k' := 2) rfl rfl rfl (U1a (i := 0) (us := [_, _]) (l' := [_, _]) (H' := [_, _, _, _, _, _, _, _, _]) rfl rfl S9 rfl rfl rfl rfl sz167 rfl rfl rfl rfl ?_)
    intro w8 S10; clear S9
    refine Us rfl ?_
    refine U10 [(1, _), (3, _), (4, _), (6, _), (7, _)] ⟨rfl, rfl, rfl, rfl, rfl, trivial⟩ ?_
    refine U6 ?_
    refine U9 rfl ?_
    refine Ud (k := 0) (k' := 1) rfl rfl rfl (Ua rfl rfl (U1b rfl rfl uT105 rfl (S10.boxc (i := 8) rfl rfl)) ?_)
    refine Ud (k := 1) (k' := 2) rfl rfl rfl (Ua rfl rfl (U1m (us := [_, _]) rfl rfl uT167 rfl sz167 (S10.boxcs (i := 0) rfl ⟨rfl, rfl, trivial⟩)) ?_)
    refine Ud (k := 2) (k' := 3) rfl rfl rfl (U26 rfl rfl rfl rfl rfl rfl rfl cf157 S10 (Left_q d y (hsb.mono S10.Uj) (hsc.mono S10.Uj) (hsi.mono S10.Uj) (hso.mono S10.Uj) (by first | assumption | omega) hab (by first | assumption | omega) S10.lend) ?_)
    rintro _ w9 S11 rfl; clear S10
    refine Ud (k := 3) (k' := 4) rfl rfl rfl (U1a (i := 0) (us := [_, _]) (l' := [_, _]) (H' := [_, _, _, _, _, _, _, _, _]) rfl rfl S11 rfl rfl rfl rfl sz167 rfl rfl rfl rfl ?_)
    intro w10 S12; clear S11
    refine Us rfl ?_
    refine Uf ?_
    have hga : ga seen2 x = false := by rw [← hgs, ← hy]; simpa using hb19
    have hfr := U1u (seen := seen2) (x := x) (by omega) hga
    intro ax_ hax_
    refine ⟨_, ?hq2m, ⟨_, seen2.set x true, nxC d x, leftD d y, acc ++ [(x : Int)], _, _, _, rfl, hax_.sub ⟨rfl, rfl, rfl, rfl, rfl, trivial⟩, S12.pick [1, 0, 3, 4, 5, 6, 7, 8] [_, _, _, _, _, _, _, _] (by decide) ⟨rfl, rfl, rfl, rfl, rfl, rfl, rfl, rfl, trivial⟩, ?hq2f0, ?hq2f1, ?hq2f2, ?hq2f3, ?hq2f4, ?hq2f5, ?hq2f6⟩⟩
    case hq2f0 => (rw [hrg]; exact ringF_go (by omega) hga)
    case hq2f1 => (rw [dasL_snoc, ← hring, hy])
    case hq2f2 => (rw [hy]; exact hse2.put (by omega))
    case hq2f3 => exact nxC_rng hab hx
    case hq2f4 => (rw [List.length_set]; exact hs2)
    case hq2f5 => (rw [hy, dA_nxC hab hx])
    case hq2f6 => (simp only [List.length_append, List.length_cons, List.length_nil]; omega)
    case hq2m => omega
   ·simp only [Bool.and_eq_true, Bool.or_eq_true, Bool.and_eq_false_iff, Bool.or_eq_false_iff, decide_eq_true_eq, decide_eq_false_iff_not, Bool.not_eq_true', Bool.not_eq_false'] at hb19
    refine ws_exit rfl rfl ?_
    refine U10 [(1, _), (3, _), (4, _), (6, _)] ⟨rfl, rfl, rfl, rfl, trivial⟩ ?_
    refine U6 ?_
    refine U9 rfl ?_
    refine Ud (k := 0) (k' := 1) rfl rfl rfl (Ua rfl rfl (U1b rfl rfl uT142 rfl (S4.boxc (i := 4) rfl rfl)) ?_)
    refine Ud (k := 1) (k' := 2) rfl rfl rfl (Ua rfl rfl (run_move rfl rfl) ?_)
    obtain ⟨M1, hle2, S13, ⟨A1, c1, e1, hr1⟩⟩ := S4.pubrow (i := 0) (H' := [_, _, _, _, _, _, _, _]) rfl rfl (by show _ * 16 ≤ _; first | omega | (simp only [ls]; omega))
    clear S4; subst e1
    replace hsb := hsb.mono (Hp.U0 hle2 S13.mx)
    replace hsc := hsc.mono (Hp.U0 hle2 S13.mx)
    replace hsi := hsi.mono (Hp.U0 hle2 S13.mx)
    replace hso := hso.mono (Hp.U0 hle2 S13.mx)
    replace hdo := hdo.mono hle2
    refine Ud (k := 2) (k' := 3) rfl rfl rfl (Uh (C := (cdV 168)) (l := [_]) rfl rfl rfl rfl sl142 rfl rfl rfl rfl S13 ?_)
    intro gb4 w11 S14; clear S13
    refine Ud (k := 3) (k' := 4) rfl rfl rfl (Uy (C := (cdV 168)) (i := 6) (q := 0) (⟨A1, ringt.length, c1⟩ : SlV) rfl rfl rfl rfl rfl rfl rfl rfl sl142 S14 rfl rfl rfl (by show (_ + 1) * 24 ≤ _; first | omega | (simp only [ls]; omega)) ?_)
    intro vrout1 w12 S15; clear S14
    have S16 := S15.pick [1, 2, 3, 4, 5, 6, 7, 8] [_, _, _, _, _, _, _, _] (by decide) ⟨rfl, rfl, rfl, rfl, rfl, rfl, rfl, rfl, trivial⟩; clear S15
    have hd1 := hdo.snoc (c := c1) hr1
    refine Ud (k := 4) (k' := 5) rfl rfl rfl (U1a (i := 4) (us := [_]) (l' := [_]) (H' := [_, _, _, _, _, _, _, _]) rfl rfl S16 rfl rfl rfl (S16.cells1 (i := 5) rfl) sz142 rfl (ones_cons (S16.one (i := 5) rfl) rfl) rfl rfl ?_)
    intro w13 S17; clear S16
    refine Us rfl ?_
    refine U8 ?_
    refine Uf ?_
    intro ax_ hax_
    exact ⟨_, _, hle2, S17.pick [2, 3, 4, 5, 6, 7] [_, _, _, _, _, _] (by decide) ⟨rfl, rfl, rfl, rfl, rfl, rfl, trivial⟩, _, _, _, seen2, outc ++ [acc], rfl, by rw [List.map_append, show List.map dasL [acc] = [ringt] from by rw [hring]; rfl]; exact hd1, U1i hfn (by rw [← hse (k + 2) (by omega) (by omega)]; exact hb14) (hrg.trans (ringF_stop (by rw [← hse2 x (by omega) (by omega), ← hy]; simpa using hb19))), hse2⟩
end InF
end Go.Proofs.Ytkcighnochjlgaa
namespace Go.Proofs.Ytkcighnochjlgaa
open Go.ChangeShapes Go.WideShapes Go.ChangeAt Go.RowKit
def FacesR (d : Dg) (u : Value) (M : Hp) : Prop := ∃ A c vs, u = .slice A vs.length c ∧ RdA (cdV 168) M A c vs ∧ Rd2 cdDa M vs (Ug d)
namespace InF
noncomputable def Z2a := Try.f136.body.getD .skip
noncomputable def Z2b := cL Z2a
noncomputable def Z2c := cR Z2a
noncomputable def Z2d := cL Z2c
noncomputable def Z2e := cR Z2c
noncomputable def Z2f := cL Z2e
noncomputable def Z2g := cR Z2e
noncomputable def Z2h := cL Z2g
noncomputable def Z2i := cR Z2g
noncomputable def Z2j := cL Z2h
noncomputable def Z2k := cR Z2h
noncomputable def Z2l := cL Z2k
set_option maxRecDepth 10000 in
theorem Faces_t {w : World} {M : Hp} {X : Fr} (d : Dg) {gsh : Nat} {cA iA oA : Option Addr} {cc ic oc : Nat} (hsb : BxM (M.un X.h) gsh 114 [.slice cA d.crs.length cc, .int .i64 d.loops, .slice iA (tabL d false (4 * d.crs.length)).length ic, .slice oA (tabL d true (4 * d.crs.length)).length oc]) (hsc : RdA cdCr (M.un X.h) cA cc d.crs) (hsi : RdA cdPl (M.un X.h) iA ic (tabL d false (4 * d.crs.length))) (hso : RdA cdPl (M.un X.h) oA oc (tabL d true (4 * d.crs.length))) (hn : d.crs.length ≤ 16) (hab : Ue d = true) (S : SH w M X []) : Ct Try.prog 136 [.pointer (some ⟨gsh, 0, none⟩)] w M X (FacesR d) := by
 unfold Ct
 refine calls_marks (b := Z2a) Try.func136 rfl Try.ntmps136 rfl (fun C hCr hC => ?_)
 refine ws_sub [(0, _)] ⟨rfl, trivial⟩ ?_
 refine Ul Z2b Z2c rfl rfl rfl ?_
 refine U9 rfl ?_
 refine Ud (k := 0) (k' := 1) rfl rfl rfl (Uv (l := [_]) rfl rfl rfl rfl rfl S ?_)
 intro gb1 w1 S1; clear S
 refine Ud (k := 1) (k' := 2) rfl rfl rfl (Ua rfl rfl (run_assign rfl rfl) ?_)
 refine Us rfl ?_
 refine U10 [(1, _)] ⟨rfl, trivial⟩ ?_
 refine U6 ?_
 refine Ul Z2d Z2e rfl rfl rfl ?_
 refine U9 rfl ?_
 refine Ud (k := 0) (k' := 1) rfl rfl rfl (wo_makeMap Da Bool (fun x => Value.agg (cdDa.f x).toArray) Value.bool rfl rfl rfl S1 ?_)
 intro gm1 w2 S2; clear S1
 refine Ud (k := 1) (k' := 2) rfl rfl rfl (Uk (l := [_]) rfl rfl rfl zr208 rfl S2 ?_)
 intro gb2 w3 S3; clear S2
 refine Ud (k := 2) (k' := 3) rfl rfl rfl (U1a (i := 0) (us := [_]) (l' := [_]) (H' := [_, _, _]) rfl rfl S3 rfl rfl rfl rfl sz208 rfl rfl rfl rfl ?_)
 intro w4 S4; clear S3
 refine Us rfl ?_
 refine U10 [(1, _), (3, _)] ⟨rfl, rfl, trivial⟩ ?_
 refine U6 ?_
 refine Ul Z2f Z2g rfl rfl rfl ?_
 refine U9 rfl ?_
 refine Ud (k := 0) (k' := 1) rfl rfl rfl (Uk (l := [_]) rfl rfl rfl zr142 rfl S4 ?_)
 intro gb3 w5 S5; clear S4
 refine Us rfl ?_
 refine U6 ?_
 refine Ul Z2h Z2i rfl rfl rfl ?_
 refine Ul Z2j Z2k rfl rfl rfl ?_
 refine U9 rfl ?_
 refine Ud (k := 0) (k' := 1) rfl rfl rfl (Ua rfl rfl (U1b rfl rfl uT105 rfl (S5.boxc (i := 3) rfl rfl)) ?_)
 refine Ud (k := 1) (k' := 2) rfl rfl rfl (wo_ct rfl rfl rfl rfl rfl rfl rfl cf137 S5 (Darts_t d (hsb.mono S5.Uj) (hsc.mono S5.Uj) (hsi.mono S5.Uj) (hso.mono S5.Uj) S5.lend) ?_)
 intro vw6 w6 M1 hle1 S6 hRw6; clear S5
 replace hsb := hsb.mono (Hp.U0 hle1 S6.mx)
 replace hsc := hsc.mono (Hp.U0 hle1 S6.mx)
 replace hsi := hsi.mono (Hp.U0 hle1 S6.mx)
 replace hso := hso.mono (Hp.U0 hle1 S6.mx)
 obtain ⟨bd1, rfl, hbx1⟩ := hRw6
 refine Us rfl ?_
 refine U10 [(1, _), (3, _), (4, _), (10, _)] ⟨rfl, rfl, rfl, rfl, trivial⟩ ?_
 refine U6 ?_
 refine U19 Z2l 0 rfl rfl rfl ?_
 have S9 := (S6.nilrow (cdV 168)).pick [3, 1, 0, 2, 4] [_, _, _, _, _] (by decide) ⟨rfl, rfl, rfl, rfl, rfl, trivial⟩
 refine ws_rangeFunc (p := 11) (f := 158) (lb := [_]) (asg := rfA Faces_rf) (bd := rfB Faces_rf) (enc := encD) (N := 4 * d.crs.length) hCr rfl rfl rfl cf158 S9 (FacesI d gsh gb1 gb2 gb3 gm1) (FacesI1 d gsh gb1 gb2 gb3 gm1) ?_ (Darts1_iter d hsb hsc hsi hso hbx1 hn) ?_ ?_ ?_
 ·exact ⟨[], [], .slice none 0 0, _, [], rfl, Rd2.nil_, rfl, SeenM.nil_ d⟩
 ·intro k M' H' w' C' R0 hk hle S' hI
  exact Faces_assign ⟨rfl, rfl, rfl, rfl, trivial⟩ S' hI
 ·intro k M' H' w' C' R0 a hk hle S' hI1
  exact Faces_body d (hsb.mono (Hp.U0 hle S'.mx)) (hsc.mono (Hp.U0 hle S'.mx)) (hsi.mono (Hp.U0 hle S'.mx)) (hso.mono (Hp.U0 hle S'.mx)) hn hab hk S' hI1
 ·intro a M' H' w' D l rc ha hle S' hI
  obtain ⟨es, vs, vout, seen, outc, rfl, hdo, hfn, hse⟩ := hI
  change SH w' M' X [Rs.lr l D rc, _, _, Rs.row (cdV 168) vout vs, _, _] at S'
  refine tail_la (c := Z2i) (i := 15) (d1 := 34) (d2 := 2) (v := vout) hC rfl rfl rfl rfl rfl rfl rfl ha rfl uT142 rfl rfl rfl rfl S' (S'.boxc (i := 2) rfl rfl) (fun w2 S2 => ?_)
  have hvl := hdo.1
  rw [List.length_map] at hvl
  have hmany := facesN_many d (4 * d.crs.length)
  rw [hfn] at hmany
  replace hmany : outc.length ≤ 4 * d.crs.length := hmany
  obtain ⟨M3, hle3, S3, ⟨A, c, e, hr⟩⟩ := S2.pubrow (i := 2) (H' := [_, _, _, _, _]) rfl rfl (by show _ * 24 ≤ _; omega)
  subst e
  refine ⟨_, rfl, M3, (hle1).trans (hle.trans hle3), S3.pick [] [] (by decide) trivial, A, c, vs, rfl, hr, ?_⟩
  have e2 : Ug d = outc.map dasL := by unfold Ug facesD; rw [hfn]
  rw [e2]
  exact hdo.mono hle3
end InF
end Go.Proofs.Ytkcighnochjlgaa
namespace Go.Proofs.Ytkcighnochjlgaa
open Go.ChangeShapes Go.WideShapes Go.ChangeAt Go.RowKit
noncomputable def Z2m := Try.f92.body.getD .skip
set_option maxRecDepth 10000 in
theorem ArcAt_q {w : World} {M : Hp} {X : Fr} (d : Dg) {dcrsA : Option Addr} {dcrsc : Nat} (c k : Nat) (hdcrs : RdA cdCr (M.un X.h) dcrsA dcrsc d.crs) (hc : c < d.crs.length) (hk : k < 4) (S : SH w M X []) : Cq Try.prog 92 [.agg [.slice dcrsA d.crs.length dcrsc, .int .i64 d.loops].toArray, .agg [.int .i64 (c : Int), .int .i64 (k : Int)].toArray] w M X (fun u => u = .int .i64 (Uu d c k)) := by
 unfold Cq
 have rmhdcrs : d.crs.length * 40 ≤ 140737488355328 := hdcrs.room
 refine U7 (b := Z2m) Try.func92 rfl Try.ntmps92 rfl (fun C hC => (zzwsk [0, 1] rfl (zzsR (zzwU rfl (Uv (l := [_, _]) rfl rfl rfl rfl rfl S ?_)))))
 intro gb1 w1 S1; clear S
 refine zzwU rfl (Uv (l := [_, _]) rfl rfl rfl rfl rfl S1 ?_)
 intro gb2 w2 S2; clear S1
 refine zzmv 1 rfl (zzeR [2, 3] rfl (zzwr rfl (zzfa rfl uT51 rfl ce49 nf49) (zzwr rfl (zzld1 rfl uT49 (S2.bc 1 rfl rfl)) (zzwr rfl (zzfa rfl uT126 rfl ce3 nf3) (zzwr rfl (zzld1 rfl uT3 (S2.bc 0 rfl rfl)) (zzwr rfl (Ux c rfl sl49 hdcrs) (zzwr rfl (Ut [_, _, _, _, _] rfl uT111 sz111 (hdcrs.U1p S2.um (e := c) (by first | omega | (simp only [ls]; omega)) (j := 0) ⟨rfl, rfl, rfl, rfl, rfl, trivial⟩)) ?_)))))))
 refine zzwU rfl (Uk (l := [_, _, _, _, _]) rfl rfl rfl zr111 rfl S2 ?_)
 intro gb3 w3 S3; clear S2
 refine zzwU rfl (U1q 0 [_, _, _, _, _] [_, _, _, _, _] [_, _, _] rfl S3 rfl rfl sz111 rfl rfl ?_)
 intro w4 S4; clear S3
 refine zzeS [3, 5] rfl (zzsR (zzwr rfl (zzfa rfl uT126 rfl ce3 nf3) (zzwr rfl (zzld1 rfl uT3 (S4.bc 1 rfl rfl)) (zzeT [5, 13] rfl (zzbK (zzsR (zzmv 2 rfl (zzeT [5, 13, 14] rfl ?_))))))))
 refine zzcD rfl (fun hb14 => ?_) (fun hb14 => ?_)
 ·refine zzsR (zzwr rfl (zzfa rfl uT111 rfl ce3 nf3) (zzwr rfl (zzld1 rfl uT3 (S4.bc 0 rfl rfl)) (zzmv 1 rfl (zzeT [4] rfl (zzrT hC rfl ?_)))))
  exact ⟨_, rfl, (S4.pick [] [] (by decide) trivial), (by first | (obtain rfl : k = 0 := (by omega); rfl) | (obtain rfl : k = 1 := (by omega); rfl) | (obtain rfl : k = 2 := (by omega); rfl) | (obtain rfl : k = 3 := (by omega); rfl))⟩
 ·refine zzsR (zzmv 2 rfl (zzeT [5, 13, 18] rfl ?_))
  refine zzcD rfl (fun hb18 => ?_) (fun hb18 => ?_)
  ·refine zzsR (zzwr rfl (zzfa rfl uT111 rfl ce3 nf3) (zzwr rfl (zzld1 rfl uT3 (S4.bc 0 rfl rfl)) (zzmv 1 rfl (zzeT [4] rfl (zzrT hC rfl ?_)))))
   exact ⟨_, rfl, (S4.pick [] [] (by decide) trivial), (by first | (obtain rfl : k = 0 := (by omega); rfl) | (obtain rfl : k = 1 := (by omega); rfl) | (obtain rfl : k = 2 := (by omega); rfl) | (obtain rfl : k = 3 := (by omega); rfl))⟩
  ·refine zzsR (zzmv 2 rfl (zzeT [5, 22] rfl ?_))
   refine zzcD rfl (fun hb22 => ?_) (fun hb22 => ?_)
   ·refine zzsR (zzwr rfl (zzfa rfl uT111 rfl ce3 nf3) (zzwr rfl (zzld1 rfl uT3 (S4.bc 0 rfl rfl)) (zzmv 1 rfl (zzeT [4] rfl (zzrT hC rfl ?_)))))
    exact ⟨_, rfl, (S4.pick [] [] (by decide) trivial), (by first | (obtain rfl : k = 0 := (by omega); rfl) | (obtain rfl : k = 1 := (by omega); rfl) | (obtain rfl : k = 2 := (by omega); rfl) | (obtain rfl : k = 3 := (by omega); rfl))⟩
   ·refine zzsK (U8 (zznR [5] rfl (zzwr rfl (zzfa rfl uT111 rfl ce3 nf3) (zzwr rfl (zzld1 rfl uT3 (S4.bc 0 rfl rfl)) (zzmv 1 rfl (zzeT [4] rfl (zzrT hC rfl ?_)))))))
    exact ⟨_, rfl, (S4.pick [] [] (by decide) trivial), (by first | (obtain rfl : k = 0 := (by omega); rfl) | (obtain rfl : k = 1 := (by omega); rfl) | (obtain rfl : k = 2 := (by omega); rfl) | (obtain rfl : k = 3 := (by omega); rfl))⟩
noncomputable def Z2n := Try.f120.body.getD .skip
set_option maxRecDepth 10000 in
theorem Entry_q {w : World} {M : Hp} {X : Fr} (d : Dg) {dcrsA : Option Addr} {dcrsc : Nat} (c k : Nat) (hdcrs : RdA cdCr (M.un X.h) dcrsA dcrsc d.crs) (hc : c < d.crs.length) (hk : k < 4) (S : SH w M X []) : Cq Try.prog 120 [.agg [.slice dcrsA d.crs.length dcrsc, .int .i64 d.loops].toArray, .agg [.int .i64 (c : Int), .int .i64 (k : Int)].toArray] w M X (fun u => u = .bool (Ui d c k)) := by
 unfold Cq
 have rmhdcrs : d.crs.length * 40 ≤ 140737488355328 := hdcrs.room
 refine U7 (b := Z2n) Try.func120 rfl Try.ntmps120 rfl (fun C hC => (zzwsk [0, 1] rfl (zzsR (zzwU rfl (Uv (l := [_, _]) rfl rfl rfl rfl rfl S ?_)))))
 intro gb1 w1 S1; clear S
 refine zzwU rfl (Uv (l := [_, _]) rfl rfl rfl rfl rfl S1 ?_)
 intro gb2 w2 S2; clear S1
 refine zzmv 1 rfl (zzeR [2, 3] rfl (zzwr rfl (zzfa rfl uT126 rfl ce3 nf3) (zzwr rfl (zzld1 rfl uT3 (S2.bc 0 rfl rfl)) (zzmv 2 rfl ?_))))
 refine Um (t := 8) rfl (fun hg8 => ?_) (fun hg8 => ?_)
 ·refine zzmv 6 rfl (zzmv 6 rfl (zzmv 6 rfl (zzmv 6 rfl (zzmv 5 rfl (zzeT [4] rfl (zzrT hC rfl ?_))))))
  exact ⟨_, rfl, (S2.pick [] [] (by decide) trivial), (by have e0 : k = 0 ∨ k = 1 ∨ k = 2 ∨ k = 3 := (by omega); rcases e0 with rfl | rfl | rfl | rfl <;> first | (exfalso; omega) | (show Value.bool _ = _; unfold Ui crIn; simp [*]))⟩
 ·refine zzwg rfl (zzfa rfl uT126 rfl ce3 nf3) (zzwg rfl (zzld1 rfl uT3 (S2.bc 0 rfl rfl)) (zzmv 2 rfl ?_))
  refine Um (t := 12) rfl (fun hg12 => ?_) (fun hg12 => ?_)
  ·refine zzwg rfl (zzfa rfl uT51 rfl ce49 nf49) (zzwg rfl (zzld1 rfl uT49 (S2.bc 1 rfl rfl)) (zzwg rfl (zzfa rfl uT126 rfl ce3 nf3) (zzwg rfl (zzld1 rfl uT3 (S2.bc 0 rfl rfl)) (zzwg rfl (Ux c rfl sl49 hdcrs) (zzwg rfl (zzfa rfl uT111 rfl ce4 nf4) (zzwg rfl (zzld1 rfl uT4 (hdcrs.cell S2.um (i := c) (by first | omega | (simp only [ls]; omega)) 4 rfl rfl)) ?_))))))
   refine zzmv 4 rfl ?_
   refine wl_split (t := 23) rfl (fun hg23 => ?_) (fun hg23 => ?_)
   ·simp only [Bool.and_eq_true, Bool.or_eq_true, Bool.and_eq_false_iff, Bool.or_eq_false_iff, decide_eq_true_eq, decide_eq_false_iff_not, Bool.not_eq_true', Bool.not_eq_false'] at hg23
    refine zzmv 6 rfl (zzmv 6 rfl (zzmv 2 rfl (zzeT [4] rfl (zzrT hC rfl ?_))))
    exact ⟨_, rfl, (S2.pick [] [] (by decide) trivial), (by have e0 : k = 0 ∨ k = 1 ∨ k = 2 ∨ k = 3 := (by omega); rcases e0 with rfl | rfl | rfl | rfl <;> first | (exfalso; omega) | (show Value.bool _ = _; unfold Ui crIn; simp [*]))⟩
   ·simp only [Bool.and_eq_true, Bool.or_eq_true, Bool.and_eq_false_iff, Bool.or_eq_false_iff, decide_eq_true_eq, decide_eq_false_iff_not, Bool.not_eq_true', Bool.not_eq_false'] at hg23
    refine zzwg rfl (zzfa rfl uT126 rfl ce3 nf3) (zzwg rfl (zzld1 rfl uT3 (S2.bc 0 rfl rfl)) (zzmv 2 rfl ?_))
    refine Um (t := 27) rfl (fun hg27 => ?_) (fun hg27 => ?_)
    ·refine zzwg rfl (zzfa rfl uT51 rfl ce49 nf49) (zzwg rfl (zzld1 rfl uT49 (S2.bc 1 rfl rfl)) (zzwg rfl (zzfa rfl uT126 rfl ce3 nf3) (zzwg rfl (zzld1 rfl uT3 (S2.bc 0 rfl rfl)) (zzwg rfl (Ux c rfl sl49 hdcrs) (zzwg rfl (zzfa rfl uT111 rfl ce4 nf4) (zzwg rfl (zzld1 rfl uT4 (hdcrs.cell S2.um (i := c) (by first | omega | (simp only [ls]; omega)) 4 rfl rfl)) ?_))))))
     refine zzmv 3 rfl (zzeT [4] rfl (zzrT hC rfl ?_))
     exact ⟨_, rfl, (S2.pick [] [] (by decide) trivial), (by have e0 : k = 0 ∨ k = 1 ∨ k = 2 ∨ k = 3 := (by omega); rcases e0 with rfl | rfl | rfl | rfl <;> first | (exfalso; omega) | (show Value.bool _ = _; unfold Ui crIn; simp [*]))⟩
    ·refine zzmv 6 rfl (zzmv 4 rfl (zzeT [4] rfl (zzrT hC rfl ?_)))
     exact ⟨_, rfl, (S2.pick [] [] (by decide) trivial), (by have e0 : k = 0 ∨ k = 1 ∨ k = 2 ∨ k = 3 := (by omega); rcases e0 with rfl | rfl | rfl | rfl <;> first | (exfalso; omega) | (show Value.bool _ = _; unfold Ui crIn; simp [*]))⟩
  ·refine zzmv 6 rfl (zzmv 5 rfl (zzwg rfl (zzfa rfl uT126 rfl ce3 nf3) (zzwg rfl (zzld1 rfl uT3 (S2.bc 0 rfl rfl)) (zzmv 2 rfl ?_))))
   refine Um (t := 27) rfl (fun hg27 => ?_) (fun hg27 => ?_)
   ·refine zzwg rfl (zzfa rfl uT51 rfl ce49 nf49) (zzwg rfl (zzld1 rfl uT49 (S2.bc 1 rfl rfl)) (zzwg rfl (zzfa rfl uT126 rfl ce3 nf3) (zzwg rfl (zzld1 rfl uT3 (S2.bc 0 rfl rfl)) (zzwg rfl (Ux c rfl sl49 hdcrs) (zzwg rfl (zzfa rfl uT111 rfl ce4 nf4) (zzwg rfl (zzld1 rfl uT4 (hdcrs.cell S2.um (i := c) (by first | omega | (simp only [ls]; omega)) 4 rfl rfl)) ?_))))))
    refine zzmv 3 rfl (zzeT [4] rfl (zzrT hC rfl ?_))
    exact ⟨_, rfl, (S2.pick [] [] (by decide) trivial), (by have e0 : k = 0 ∨ k = 1 ∨ k = 2 ∨ k = 3 := (by omega); rcases e0 with rfl | rfl | rfl | rfl <;> first | (exfalso; omega) | (show Value.bool _ = _; unfold Ui crIn; simp [*]))⟩
   ·refine zzmv 6 rfl (zzmv 4 rfl (zzeT [4] rfl (zzrT hC rfl ?_)))
    exact ⟨_, rfl, (S2.pick [] [] (by decide) trivial), (by have e0 : k = 0 ∨ k = 1 ∨ k = 2 ∨ k = 3 := (by omega); rcases e0 with rfl | rfl | rfl | rfl <;> first | (exfalso; omega) | (show Value.bool _ = _; unfold Ui crIn; simp [*]))⟩
noncomputable def Z2o := Try.f122.body.getD .skip
set_option maxHeartbeats 1000000 in
set_option maxRecDepth 10000 in
theorem EndOf_q {w : World} {M : Hp} {X : Fr} (d : Dg) {dcrsA : Option Addr} {dcrsc : Nat} (a : Int) (back : Bool) (hdcrs : RdA cdCr (M.un X.h) dcrsA dcrsc d.crs) (S : SH w M X []) : Cq Try.prog 122 [.agg [.slice dcrsA d.crs.length dcrsc, .int .i64 d.loops].toArray, .int .i64 a, .bool back] w M X (fun u => u = .agg (plF (Un d a back)).toArray) := by
 unfold Cq
 have rmhdcrs : d.crs.length * 40 ≤ 140737488355328 := hdcrs.room
 refine U7 (b := Z2o) Try.func122 rfl Try.ntmps122 rfl (fun C hC => (zzwsk [0, 1, 2] rfl (zzsR (zzwU rfl (Uv (l := [_, _]) rfl rfl rfl rfl rfl S ?_)))))
 intro gb1 w1 S1; clear S
 refine zzwU rfl (Uk (l := [_, _]) rfl rfl rfl zr126 rfl S1 ?_)
 intro gb2 w2 S2; clear S1
 refine zzeS [1, 2, 3, 6] rfl (zzsR (zzmv 1 rfl (zzeE (U6 (zzbK ?_)))))
 refine U4 (fun mx_ ax_ wx_ => ∃ (i : Nat), mx_ = d.crs.length - i ∧ Env 38 [(1, .int .i64 a), (2, .bool back), (3, .pointer (some ⟨gb1, 0, none⟩)), (6, .pointer (some ⟨gb2, 0, none⟩)), (7, .int .i64 (i : Int))] ax_ ∧ SH wx_ M X [Rs.box gb2 126 [.int .i64 0, .int .i64 0], Rs.box gb1 51 [.slice dcrsA d.crs.length dcrsc, .int .i64 d.loops]] ∧ i ≤ d.crs.length ∧ (∀ j, j < 4 * i → endP d a back j = false)) rfl ?_ ?_
 ·intro ax_ hax_
  refine ⟨_, ⟨0, rfl, hax_.su rfl, S2.pick [0, 1] [_, _] (by decide) ⟨rfl, rfl, trivial⟩, ?hq1f0, ?hq1f1⟩⟩
  case hq1f0 => omega
  case hq1f1 => (intro j hj; omega)
 ·rintro m1 a1 w3 ⟨i, rfl, he1, S3, hi, hno⟩
  clear S2
  refine zziN he1 ?_
  clear he1 a1
  refine zzsS (zzsR (zzmv 1 rfl (zzwr rfl (zzfa rfl uT51 rfl ce49 nf49) (zzwr rfl (zzld1 rfl uT49 (S3.bc 1 rfl rfl)) (zzwr rfl (zzln rfl uT49) (zzmv 1 rfl (zzeT [1, 2, 3, 6, 7, 14] rfl ?_)))))))
  refine zzcD rfl (fun hb14 => ?_) (fun hb14 => ?_)
  ·refine zzsK (zznS [1, 2, 3, 6, 7] rfl (zzbK (zzsR (zzmv 1 rfl (zzeE (U6 (zzbK ?_)))))))
   refine U4 (fun mx_ ax_ wx_ => ∃ (k : Nat), mx_ = 4 - k ∧ Env 38 [(1, .int .i64 a), (2, .bool back), (3, .pointer (some ⟨gb1, 0, none⟩)), (6, .pointer (some ⟨gb2, 0, none⟩)), (7, .int .i64 (i : Int)), (8, .int .i64 (k : Int))] ax_ ∧ SH wx_ M X [Rs.box gb2 126 [.int .i64 0, .int .i64 0], Rs.box gb1 51 [.slice dcrsA d.crs.length dcrsc, .int .i64 d.loops]] ∧ k ≤ 4 ∧ (∀ j, j < 4 * i + k → endP d a back j = false)) rfl ?_ ?_
   ·intro ax_ hax_
    refine ⟨_, ⟨0, rfl, hax_.su rfl, S3.pick [0, 1] [_, _] (by decide) ⟨rfl, rfl, trivial⟩, ?hq2f0, ?hq2f1⟩⟩
    case hq2f0 => omega
    case hq2f1 => (intro j hj; exact hno j (by omega))
   ·rintro m2 a2 w4 ⟨k, rfl, he2, S4, hk, hno2⟩
    clear S3
    refine zziN he2 ?_
    clear he2 a2
    refine zzsS (zzsR (zzmv 2 rfl (zzeT [1, 2, 3, 6, 7, 8, 18] rfl ?_)))
    refine zzcD rfl (fun hb18 => ?_) (fun hb18 => ?_)
    ·refine zzsK (zznS [1, 2, 3, 6, 7, 8] rfl (zzbK (zzsR (zzmv 2 rfl (zzwr rfl (run_build (l := [_, _]) rfl rfl st126 rfl rfl) (zzwU rfl (Uk (l := [_, _]) rfl rfl rfl zr126 rfl S4 ?_)))))))
     intro gb3 w5 S5; clear S4
     refine zzwU rfl (U1q 0 [_, _] [_, _] [_, _, _] rfl S5 rfl rfl sz126 rfl rfl ?_)
     intro w6 S6; clear S5
     refine zzeR [1, 2, 3, 6, 7, 8, 9] rfl (zzwr rfl (Ut [_, _] rfl uT51 sz51 (S6.bs 2 rfl rfl)) (zzwr rfl (Ut [_, _] rfl uT126 sz126 (S6.bs 0 rfl rfl)) (zzwU rfl (U26 rfl rfl rfl rfl rfl rfl rfl cf92 S6 (ArcAt_q d i k (hdcrs.mono S6.Uj) (by omega) (by omega) S6.lend) ?_))))
     rintro _ w7 S7 rfl; clear S6
     refine zzmv 3 rfl ?_
     refine Um (t := 29) rfl (fun hg29 => ?_) (fun hg29 => ?_)
     ·refine zzwg rfl (Ut [_, _] rfl uT51 sz51 (S7.bs 2 rfl rfl)) (zzwg rfl (Ut [_, _] rfl uT126 sz126 (S7.bs 0 rfl rfl)) (wlg 8 9 rfl rfl rfl rfl rfl rfl rfl rfl (U26 rfl rfl rfl rfl rfl rfl rfl cf120 S7 (Entry_q d i k (hdcrs.mono S7.Uj) (by omega) (by omega) S7.lend) ?_)))
      rintro _ w8 S8 rfl; clear S7
      refine zzmv 1 rfl (zzwg rfl (run_bne rfl rfl rfl uT4) (zzmv 1 rfl (zzeT [1, 2, 3, 6, 7, 8, 9, 35] rfl ?_)))
      refine zzcN rfl (fun hb35 => ?_) (fun hb35 => ?_)
      ·refine zzsR (zzwr rfl (Ut [_, _] rfl uT126 sz126 (S8.bs 0 rfl rfl)) (zzwU rfl (U1q 1 [_, _] [_, _] [_, _, _] rfl S8 rfl rfl sz126 rfl rfl ?_)))
       intro w9 S9; clear S8
       refine zzeT [6] rfl (ws_ret hC [_] rfl rfl ⟨⟨_, rfl, U1k (us := [_, _]) uT126 rfl sz126 (S9.bs 1 rfl rfl)⟩, trivial⟩ ?_)
       exact ⟨_, rfl, (S9.pick [] [] (by decide) trivial), (by first | (rw [endOf_miss (fun j hj => hno j (by omega))]; rfl) | (rw [endOf_hit (j := 4 * i + k) (by omega) (by rw [endP_at (by omega), decide_eq_true (by omega)]; simpa using hb35) hno2, show (4 * i + k) / 4 = i by omega, show (4 * i + k) % 4 = k by omega]; rfl))⟩
      ·refine zzsK (U8 (zznT [1, 2, 3, 6, 7, 8] rfl (zzrG (zzmv 1 rfl (zzwr rfl (U1 rfl) (zzmv 1 rfl (zzeE (Uf ?_))))))))
       intro ax_ hax_
       refine ⟨_, ?hq3m, ⟨k + 1, rfl, hax_.su rfl, S8.pick [1, 2] [_, _] (by decide) ⟨rfl, rfl, trivial⟩, ?hq3f0, ?hq3f1⟩⟩
       case hq3f0 => omega
       case hq3f1 => (intro j hj; by_cases h : j = 4 * i + k; (subst h; rw [endP_at (by omega)]; first | (rw [decide_eq_false (by omega)]; rfl) | (rw [Bool.and_eq_false_iff]; right; simpa using hb35)); exact hno2 j (by omega))
       case hq3m => omega
     ·refine zzmv 6 rfl (zzeT [1, 2, 3, 6, 7, 8, 9, 35] rfl (zzcF (zzsK (U8 (zznT [1, 2, 3, 6, 7, 8] rfl (zzrG (zzmv 1 rfl (zzwr rfl (U1 rfl) ?_))))))))
      refine zzmv 1 rfl (zzeE (Uf ?_))
      intro ax_ hax_
      refine ⟨_, ?hq4m, ⟨k + 1, rfl, hax_.su rfl, S7.pick [1, 2] [_, _] (by decide) ⟨rfl, rfl, trivial⟩, ?hq4f0, ?hq4f1⟩⟩
      case hq4f0 => omega
      case hq4f1 => (intro j hj; by_cases h : j = 4 * i + k; (subst h; rw [endP_at (by omega)]; first | (rw [decide_eq_false (by omega)]; rfl) | (rw [Bool.and_eq_false_iff]; right; simpa using hb35)); exact hno2 j (by omega))
      case hq4m => omega
    ·refine zzxE rfl (U8 (zznT [1, 2, 3, 6, 7] rfl (zzrG (zzmv 1 rfl (zzwr rfl (U1 rfl) (zzmv 1 rfl (zzeE (Uf ?_))))))))
     intro ax_ hax_
     refine ⟨_, ?hq5m, ⟨i + 1, rfl, hax_.su rfl, S4.pick [0, 1] [_, _] (by decide) ⟨rfl, rfl, trivial⟩, ?hq5f0, ?hq5f1⟩⟩
     case hq5f0 => omega
     case hq5f1 => (intro j hj; exact hno2 j (by omega))
     case hq5m => omega
  ·refine zzxE rfl (zznR [6] rfl (zzwr rfl (run_build (l := [_, _]) rfl rfl st126 rfl rfl) (zzwU rfl (U1q 0 [_, _] [_, _] [_, _] rfl S3 rfl rfl sz126 rfl rfl ?_))))
   intro w10 S10; clear S3
   refine zzeT [6] rfl (ws_ret hC [_] rfl rfl ⟨⟨_, rfl, U1k (us := [_, _]) uT126 rfl sz126 (S10.bs 0 rfl rfl)⟩, trivial⟩ ?_)
   exact ⟨_, rfl, (S10.pick [] [] (by decide) trivial), (by first | (rw [endOf_miss (fun j hj => hno j (by omega))]; rfl) | (rw [endOf_hit (j := 4 * i + k) (by omega) (by rw [endP_at (by omega), decide_eq_true (by omega)]; simpa using hb35) hno2, show (4 * i + k) / 4 = i by omega, show (4 * i + k) % 4 = k by omega]; rfl))⟩
noncomputable def Z2p := Try.f140.body.getD .skip
set_option maxRecDepth 10000 in
theorem NextDart_q {w : World} {M : Hp} {X : Fr} (d : Dg) {dcrsA : Option Addr} {dcrsc : Nat} (x : Da) (hdcrs : RdA cdCr (M.un X.h) dcrsA dcrsc d.crs) (hab : Ue d = true) (hx : okD d x) (S : SH w M X []) : Cq Try.prog 140 [.agg [.slice dcrsA d.crs.length dcrsc, .int .i64 d.loops].toArray, .agg [.int .i64 x.a, .bool x.b].toArray] w M X (fun u => u = .agg (daF (leftD d x)).toArray) := by
 unfold Cq
 have rmhdcrs : d.crs.length * 40 ≤ 140737488355328 := hdcrs.room
 obtain ⟨hE1, hE2, hE3, hE4, hE5⟩ := endD hab hx x.b
 have hlt4 : ((Un d x.a x.b).2 + 3) % 4 < 4 := Nat.mod_lt _ (by decide)
 refine U7 (b := Z2p) Try.func140 rfl Try.ntmps140 rfl (fun C hC => (zzwsk [0, 1] rfl (zzsR (zzwU rfl (Uv (l := [_, _]) rfl rfl rfl rfl rfl S ?_)))))
 intro gb1 w1 S1; clear S
 refine zzwU rfl (Uv (l := [_, _]) rfl rfl rfl rfl rfl S1 ?_)
 intro gb2 w2 S2; clear S1
 refine zzwU rfl (Uk (l := [_, _]) rfl rfl rfl zr167 rfl S2 ?_)
 intro gb3 w3 S3; clear S2
 refine zzeR [2, 3, 4] rfl (zzwr rfl (Ut [_, _] rfl uT51 sz51 (S3.bs 2 rfl rfl)) (zzwr rfl (zzfa rfl uT167 rfl ce3 nf3) (zzwr rfl (zzld1 rfl uT3 (S3.bc 1 rfl rfl)) (zzwr rfl (zzfa rfl uT167 rfl ce4 nf4) (zzwr rfl (zzld1 rfl uT4 (S3.bc 1 rfl rfl)) (zzwU rfl (U26 rfl rfl rfl rfl rfl rfl rfl cf122 S3 (EndOf_q d x.a x.b (hdcrs.mono S3.Uj) S3.lend) ?_)))))))
 rintro _ w4 S4 rfl; clear S3
 refine zzwU rfl (Uk (l := [_, _]) rfl rfl rfl zr126 rfl S4 ?_)
 intro gb4 w5 S5; clear S4
 refine zzwU rfl (U1q 0 [_, _] [_, _] [_, _, _, _] rfl S5 rfl rfl sz126 rfl rfl ?_)
 intro w6 S6; clear S5
 refine zzeR [2, 4, 5] rfl (zzwr rfl (zzfa rfl uT126 rfl ce3 nf3) (zzwr rfl (zzld1 rfl uT3 (S6.bc 0 rfl rfl)) (zzwr rfl (zzfa rfl uT126 rfl ce3 nf3) (zzwr rfl (zzld1 rfl uT3 (S6.bc 0 rfl rfl)) (zzwr rfl (U1 rfl) (zzwr rfl (run_rem rfl rfl rfl (by first | omega | (simp only [ls]; omega))) ?_))))))
 refine wl_eq 18 (.int .i64 ((((Un d x.a x.b).2 + 3) % 4 : Nat) : Int)) rfl (int_eq (by omega)) ?_
 refine zzwr rfl (run_build (l := [_, _]) rfl rfl st126 rfl rfl) (zzwU rfl (Uk (l := [_, _]) rfl rfl rfl zr126 rfl S6 ?_))
 intro gb5 w7 S7; clear S6
 refine zzwU rfl (U1q 0 [_, _] [_, _] [_, _, _, _, _] rfl S7 rfl rfl sz126 rfl rfl ?_)
 intro w8 S8; clear S7
 refine zzeS [2, 4, 6] rfl (zzdW S8 8 ?_)
 clear S8
 refine zzlW 0 rfl (fun hZz Sz => Ut [_, _] rfl uT51 sz51 (Sz.suf.bs 4 rfl rfl)) (zzlW 1 rfl (fun hZz Sz => Ut [_, _] rfl uT126 sz126 (Sz.suf.bs 0 rfl rfl)) (zzyW 2 rfl (fun hZz Sz => U1j rfl rfl rfl rfl rfl cf92 Sz (ArcAt_q d ((Un d x.a x.b).1) (((Un d x.a x.b).2 + 3) % 4) ((hdcrs.mono (Hp.U0 hZz Sz.mx)).mono Sz.Uj) (by omega) (by omega) Sz.lend)) ?_))
 refine zzlW 3 rfl (fun hZz Sz => Ut [_, _] rfl uT51 sz51 (Sz.suf.bs 4 rfl rfl)) (zzlW 4 rfl (fun hZz Sz => Ut [_, _] rfl uT126 sz126 (Sz.suf.bs 0 rfl rfl)) (zzyW 5 rfl (fun hZz Sz => U1j rfl rfl rfl rfl rfl cf120 Sz (Entry_q d ((Un d x.a x.b).1) (((Un d x.a x.b).2 + 3) % 4) ((hdcrs.mono (Hp.U0 hZz Sz.mx)).mono Sz.Uj) (by omega) (by omega) Sz.lend)) ?_))
 refine zzlW 6 rfl (fun hZz Sz => run_build (l := [_, _]) rfl rfl st167 rfl rfl) (zzuW 7 rfl (fun w17 S17 => ((U1q 2 [_, _] [_, _] [_, _, _, _, _] rfl S17 rfl rfl sz167 rfl rfl ?_))))
 intro w18 S18; clear S17
 refine zzturnW S18 ?_; clear S18
 change WA _ _ _ _ _ _ _ _ _ _ _ _ [_, _, _, _, _]
 refine zzeW (fun w19 S19 => (zznT [4] rfl (ws_ret hC [_] rfl rfl ⟨⟨_, rfl, U1k (us := [_, _]) uT167 rfl sz167 (S19.bs 2 rfl rfl)⟩, trivial⟩ ?_)))
 exact ⟨_, rfl, (S19.pick [] [] (by decide) trivial), rfl⟩
noncomputable def Z2q := Try.f139.body.getD .skip
set_option maxRecDepth 10000 in
theorem dartCode_q {w : World} {M : Hp} {X : Fr} (x : Da) (hx : 1 ≤ x.a ∧ x.a ≤ 1000) (S : SH w M X []) : Cq Try.prog 139 [.agg [.int .i64 x.a, .bool x.b].toArray] w M X (fun u => u = .int .i64 (dcN x : Int)) := by
 unfold Cq
 refine U7 (b := Z2q) Try.func139 rfl Try.ntmps139 rfl (fun C hC => (zzwsk [0] rfl (zzsR (zzwU rfl (Uv (l := [_, _]) rfl rfl rfl rfl rfl S ?_)))))
 intro gb1 w1 S1; clear S
 refine zzmv 1 rfl (zzeS [1] rfl (zzsR (zzwr rfl (zzfa rfl uT167 rfl ce4 nf4) (zzwr rfl (zzld1 rfl uT4 (S1.bc 0 rfl rfl)) (zzeT [1, 4] rfl ?_)))))
 refine zzcN rfl (fun hb4 => ?_) (fun hb4 => ?_)
 ·refine zzsR (zzwr rfl (zzfa rfl uT167 rfl ce3 nf3) (zzwr rfl (zzld1 rfl uT3 (S1.bc 0 rfl rfl)) (zzwr rfl (run_mul rfl rfl rfl (by first | omega | (simp only [ls]; omega))) ?_)))
  refine zzwr rfl (U1 rfl) (zzmv 1 rfl (zzeT [2] rfl (zzrT hC rfl ?_)))
  exact ⟨_, rfl, (S1.pick [] [] (by decide) trivial), (by show Value.int _ _ = _; refine congrArg (Value.int .i64) ?_; unfold dcN; rw [hb4]; first | (rw [if_pos rfl]; omega) | (rw [if_neg Bool.false_ne_true]; omega))⟩
 ·refine zzsK (zznR [1] rfl (zzwr rfl (zzfa rfl uT167 rfl ce3 nf3) (zzwr rfl (zzld1 rfl uT3 (S1.bc 0 rfl rfl)) (zzwr rfl (run_mul rfl rfl rfl (by first | omega | (simp only [ls]; omega))) ?_))))
  refine zzmv 1 rfl (zzeT [2] rfl (zzrT hC rfl ?_))
  exact ⟨_, rfl, (S1.pick [] [] (by decide) trivial), (by show Value.int _ _ = _; refine congrArg (Value.int .i64) ?_; unfold dcN; rw [hb4]; first | (rw [if_pos rfl]; omega) | (rw [if_neg Bool.false_ne_true]; omega))⟩
noncomputable def Z2r := Try.f101.body.getD .skip
set_option maxHeartbeats 1000000 in
set_option maxRecDepth 10000 in
theorem FacesOf_t {w : World} {M : Hp} {X : Fr} (d : Dg) {dcrsA : Option Addr} {dcrsc : Nat} (hdcrs : RdA cdCr (M.un X.h) dcrsA dcrsc d.crs) (hn : d.crs.length ≤ 16) (hab : Ue d = true) (S : SH w M X []) : Ct Try.prog 101 [.agg [.slice dcrsA d.crs.length dcrsc, .int .i64 d.loops].toArray] w M X (FacesR d) := by
 unfold Ct
 have rmhdcrs : d.crs.length * 40 ≤ 140737488355328 := hdcrs.room
 refine U7 (b := Z2r) Try.func101 rfl Try.ntmps101 rfl (fun C hC => (zzwsk [0] rfl (zzsR (zzwU rfl (Uv (l := [_, _]) rfl rfl rfl rfl rfl S ?_)))))
 intro gb1 w1 S1; clear S
 refine zzmv 1 rfl (zzeR [1] rfl (zzwr rfl (zzfa rfl uT51 rfl ce49 nf49) (zzwr rfl (zzld1 rfl uT49 (S1.bc 0 rfl rfl)) (zzwr rfl (zzln rfl uT49) (zzwr rfl (run_mul rfl rfl rfl (by first | omega | (simp only [ls]; omega))) ?_)))))
 refine zzwr rfl (U1 rfl) (zzmv 1 rfl (zzeR [1, 3] rfl (zzmv 1 rfl (zzwU rfl (U1y (C := U1g) ((4 * (d.crs.length : Int)).toNat + 2) rfl rfl rfl rfl rfl sl118 (by first | rfl | omega) (by show _ * 1 ≤ _; first | omega | (simp only [ls]; omega)) S1 ?_)))))
 intro vr1 w2 S2; clear S1
 refine zzmv 1 rfl (zzeR [1, 3, 4] rfl (zzmv 1 rfl (zzeE (zztS (zzsR (zzmv 1 rfl (zzeE (U6 ?_))))))))
 refine zzbK ?_
 have S3 := S2.nilrow (cdV 168); clear S2
 refine U4 (fun mx_ ax_ wx_ => ∃ (k : Nat) (seen : List Bool) (outc : List (List Int)) (vs : List SlV) (vrs : Value) (vro : Value) (M1 : Hp), M.le M1 ∧ mx_ = 4 * d.crs.length - k ∧ Env 53 [(1, .pointer (some ⟨gb1, 0, none⟩)), (3, .int .i64 ((4 * (d.crs.length : Int)) + 2)), (4, vrs), (5, vro), (6, .int .i64 ((k + 2 : Nat) : Int))] ax_ ∧ SH wx_ M1 X [Rs.row (cdV 168) vro vs, Rs.row U1g vrs seen, Rs.box gb1 51 [.slice dcrsA d.crs.length dcrsc, .int .i64 d.loops]] ∧ k ≤ 4 * d.crs.length ∧ U1e d k = (seen, outc) ∧ Rd2 cdDa M1 vs (outc.map dasL)) rfl ?_ ?_
 ·intro ax_ hax_
  refine ⟨_, ⟨0, _, [], _, _, _, _, Hp.le_refl _, rfl, hax_.su rfl, S3.pick [0, 1, 2] [_, _, _] (by decide) ⟨rfl, rfl, rfl, trivial⟩, ?hq1f0, ?hq1f1, ?hq1f2⟩⟩
  case hq1f0 => omega
  case hq1f1 => (unfold U1e; first | rfl | (congr 1))
  case hq1f2 => first | exact Rd2.nil_ | (rw [e9]; exact Rd2.nil_)
 ·rintro m1 a1 w3 ⟨k, seen, outc, vs, vrs, vro, M1, hle1, rfl, he1, S4, hk, hfn, hdo⟩
  clear S3
  refine zziN he1 ?_
  clear he1 a1
  replace hdcrs := hdcrs.mono (Hp.U0 hle1 S4.mx)
  have hvs := hdo.1
  rw [List.length_map] at hvs
  have hmany := facesN_many d k
  rw [hfn] at hmany
  replace hmany : outc.length ≤ k := hmany
  have hsl : seen.length = 4 * d.crs.length + 2 := by have h9 := facesN_len d k; rw [hfn] at h9; exact h9
  refine zzsS (zzsR (zzmv 3 rfl (zzeT [1, 3, 4, 5, 6, 18] rfl ?_)))
  refine zzcD rfl (fun hb18 => ?_) (fun hb18 => ?_)
  ·refine zzsK (zznS [1, 3, 4, 5, 6] rfl (zzbK (zzsS (zzsR (zzmv 2 rfl (zzwr rfl (Uc (i := 1) (k + 2) rfl sl118 S4 rfl) (zzwr rfl (zzld1 rfl uT4 (S4.rowc (i := 1) (e := k + 2) (j := 0) rfl (by first | omega | (simp only [ls]; omega)) rfl rfl)) ?_)))))))
   refine zzeT [1, 3, 4, 5, 6, 24] rfl ?_
   refine zzcN rfl (fun hb24 => ?_) (fun hb24 => ?_)
   ·refine zzxE rfl (zznT [1, 3, 4, 5, 6] rfl (zzrG (zzmv 1 rfl (zzwr rfl (U1 rfl) (zzmv 1 rfl (zzeE (Uf ?_)))))))
    intro ax_ hax_
    refine ⟨_, ?hq2m, ⟨k + 1, _, outc, _, _, _, _, (hle1), rfl, hax_.su rfl, S4.pick [0, 1, 2] [_, _, _] (by decide) ⟨rfl, rfl, rfl, trivial⟩, ?hq2f0, ?hq2f1, ?hq2f2⟩⟩
    case hq2f0 => omega
    case hq2f1 => first | exact U1h hfn hb24 | exact U1i hfn (by simpa using hb24) (hrg.trans (ringF_stop (by simpa using hb36)))
    case hq2f2 => first | exact hdo | (rw [e9]; exact hdo)
    case hq2m => omega
   ·refine zzsK (zznR [1, 3, 4, 5, 6] rfl (zzmv 1 rfl (zzeE (zztR (zzmv 1 rfl (zzwr rfl (run_quo rfl rfl rfl (by first | omega | (simp only [ls]; omega))) ?_))))))
    refine zzmv 1 rfl (zzwr rfl (run_rem rfl rfl rfl (by first | omega | (simp only [ls]; omega))) ?_)
    refine zzmv 1 rfl (wl_eq 26 (.int .i64 ((dA (k + 2)).a)) rfl (int_eq (by show _ = (((k + 2) / 2 : Nat) : Int); omega)) ?_)
    refine wl_eq 29 (.bool ((dA (k + 2)).b)) rfl (congrArg Value.bool (by show _ = decide _; exact decide_eq_decide.2 (by omega))) ?_
    refine zzwr rfl (run_build (l := [_, _]) rfl rfl st167 rfl rfl) (zzwU rfl (Uk (l := [_, _]) rfl rfl rfl zr167 rfl S4 ?_))
    intro gb2 w4 S5; clear S4
    refine zzwU rfl (U1q 0 [_, _] [_, _] [_, _, _, _] rfl S5 rfl rfl sz167 rfl rfl ?_)
    intro w5 S6; clear S5
    refine zzeS [1, 3, 4, 5, 6, 7, 8] rfl (zzbK ?_)
    have S7 := S6.nilrow cdDa; clear S6
    refine U4 (fun mx_ ax_ wx_ => ∃ (seen2 : List Bool) (x : Nat) (y : Da) (acc : List Int) (ringt : List Da) (vrs2 : Value) (vring : Value), mx_ = free seen2 ∧ Env 53 [(1, .pointer (some ⟨gb1, 0, none⟩)), (3, .int .i64 ((4 * (d.crs.length : Int)) + 2)), (4, vrs2), (5, vro), (6, .int .i64 ((k + 2 : Nat) : Int)), (7, vring), (8, .pointer (some ⟨gb2, 0, none⟩))] ax_ ∧ SH wx_ M1 X [Rs.row cdDa vring ringt, Rs.box gb2 167 [.int .i64 y.a, .bool y.b], Rs.row (cdV 168) vro vs, Rs.row U1g vrs2 seen2, Rs.box gb1 51 [.slice dcrsA d.crs.length dcrsc, .int .i64 d.loops]] ∧ ringF (nxC d) seen (k + 2) [] = ringF (nxC d) seen2 x acc ∧ ringt = dasL acc ∧ (2 ≤ x ∧ x < 4 * d.crs.length + 2) ∧ seen2.length = 4 * d.crs.length + 2 ∧ y = dA x ∧ acc.length + free seen2 ≤ 100) rfl ?_ ?_
    ·intro ax_ hax_
     refine ⟨_, ⟨seen, k + 2, (dA (k + 2)), [], _, _, _, rfl, hax_.su rfl, S7.pick [0, 1, 2, 3, 4] [_, _, _, _, _] (by decide) ⟨rfl, rfl, rfl, rfl, rfl, trivial⟩, ?hq3f0, ?hq3f1, ?hq3f2, ?hq3f3, ?hq3f4, ?hq3f5⟩⟩
     case hq3f0 => rfl
     case hq3f1 => rfl
     case hq3f2 => omega
     case hq3f3 => exact hsl
     case hq3f4 => rfl
     case hq3f5 => (have h8 : free seen ≤ seen.length := List.countP_le_length; simp only [List.length_nil]; omega)
    ·rintro m2 a2 w6 ⟨seen2, x, y, acc, ringt, vrs2, vring, rfl, he2, S8, hrg, hring, hx, hs2, hy, hroom⟩
     clear S7
     refine zziN he2 ?_
     clear he2 a2
     have hyk : okD d y := by rw [hy]; exact dA_ok hx
     have hyk1 := hyk.1
     have hyk2 := hyk.2
     have hrl : ringt.length = acc.length := by rw [hring]; simp [dasL]
     have hdc : dcN y = x := by rw [hy]; exact dcN_dA x
     refine zzsS (zzsR (zzmv 1 rfl (zzwr rfl (Ut [_, _] rfl uT167 sz167 (S8.bs 1 rfl rfl)) (zzwU rfl (U26 rfl rfl rfl rfl rfl rfl rfl cf139 S8 (dartCode_q y ((by omega)) S8.lend) ?_)))))
     rintro _ w7 S9 rfl; clear S8
     refine wl_eq 33 (.int .i64 (x : Int)) rfl (int_eq (by rw [hdc])) ?_
     refine zzwr rfl (Uc (i := 3) x rfl sl118 S9 rfl) (zzwr rfl (zzld1 rfl uT4 (S9.rowc (i := 3) (e := x) (j := 0) rfl (by first | omega | (simp only [ls]; omega)) rfl rfl)) ?_)
     refine zzmv 1 rfl (zzeT [1, 3, 4, 5, 6, 7, 8, 36] rfl ?_)
     refine zzcN rfl (fun hb36 => ?_) (fun hb36 => ?_)
     ·simp only [Bool.and_eq_true, Bool.or_eq_true, Bool.and_eq_false_iff, Bool.or_eq_false_iff, decide_eq_true_eq, decide_eq_false_iff_not, Bool.not_eq_true', Bool.not_eq_false'] at hb36
      refine zzsK (zznT [1, 3, 4, 5, 6, 7, 8] rfl (zzbK (zzsR (zzmv 1 rfl (zzwr rfl (Ut [_, _] rfl uT167 sz167 (S9.bs 1 rfl rfl)) (zzwU rfl (U26 rfl rfl rfl rfl rfl rfl rfl cf139 S9 (dartCode_q y ((by omega)) S9.lend) ?_)))))))
      rintro _ w8 S10 rfl; clear S9
      refine wl_eq 39 (.int .i64 (x : Int)) rfl (int_eq (by rw [hdc])) ?_
      refine zzwr rfl (Uc (i := 3) x rfl sl118 S10 rfl) (zzwU rfl (Ub (C := U1g) (i := 3) (e := x) (j := 0) (us := [_]) (H' := [_, _, _, _, _]) true rfl rfl S10 rfl (by first | omega | (simp only [ls]; omega)) rfl rfl rfl sz4 rfl rfl rfl rfl ?_))
      intro w9 S11; clear S10
      refine zzeR [1, 3, 4, 5, 6, 7, 8] rfl (zzmv 1 rfl (zzwr rfl (Ut [_, _] rfl uT167 sz167 (S11.bs 1 rfl rfl)) (zzwU rfl (Uh (C := cdDa) (l := [_, _]) rfl rfl rfl rfl sl168 rfl rfl rfl rfl S11 ?_))))
      intro gb3 w10 S12; clear S11
      refine zzwU rfl (Uy (C := cdDa) (i := 1) (q := 0) (⟨y.a, y.b⟩ : Da) rfl rfl rfl rfl rfl rfl rfl rfl sl168 S12 rfl rfl rfl (by show (_ + 1) * 16 ≤ _; first | omega | (simp only [ls]; omega)) ?_)
      intro vring1 w11 S13; clear S12
      have S14 := S13.pick [1, 2, 3, 4, 5] [_, _, _, _, _] (by decide) ⟨rfl, rfl, rfl, rfl, rfl, trivial⟩; clear S13
      refine zzmv 1 rfl (zzeT [1, 3, 4, 5, 6, 7, 8] rfl (zzrG (zzwr rfl (Ut [_, _] rfl uT51 sz51 (S14.bs 4 rfl rfl)) (zzwr rfl (Ut [_, _] rfl uT167 sz167 (S14.bs 1 rfl rfl)) (zzwU rfl (U26 rfl rfl rfl rfl rfl rfl rfl cf140 S14 (NextDart_q d y (hdcrs.mono S14.Uj) (hab) ((by first | assumption | omega)) S14.lend) ?_))))))
      rintro _ w12 S15 rfl; clear S14
      refine zzwU rfl (U1q 1 [_, _] [_, _] [_, _, _, _, _] rfl S15 rfl rfl sz167 rfl rfl ?_)
      intro w13 S16; clear S15
      refine zzeE (U8 (Uf ?_))
      have hga : ga seen2 x = false := by simpa using hb36
      have hfr := U1u (seen := seen2) (x := x) (by omega) hga
      intro ax_ hax_
      refine ⟨_, ?hq4m, ⟨seen2.set x true, nxC d x, leftD d y, acc ++ [(x : Int)], _, _, _, rfl, hax_.su rfl, S16.pick [0, 1, 2, 3, 4] [_, _, _, _, _] (by decide) ⟨rfl, rfl, rfl, rfl, rfl, trivial⟩, ?hq4f0, ?hq4f1, ?hq4f2, ?hq4f3, ?hq4f4, ?hq4f5⟩⟩
      case hq4f0 => (rw [hrg]; exact ringF_go (by omega) hga)
      case hq4f1 => (rw [dasL_snoc, ← hring, hy])
      case hq4f2 => exact nxC_rng hab hx
      case hq4f3 => (rw [List.length_set]; exact hs2)
      case hq4f4 => (rw [hy, dA_nxC hab hx])
      case hq4f5 => (simp only [List.length_append, List.length_cons, List.length_nil]; omega)
      case hq4m => omega
     ·simp only [Bool.and_eq_true, Bool.or_eq_true, Bool.and_eq_false_iff, Bool.or_eq_false_iff, decide_eq_true_eq, decide_eq_false_iff_not, Bool.not_eq_true', Bool.not_eq_false'] at hb36
      refine zzxE rfl (zznT [1, 3, 4, 5, 6, 7] rfl (zzrG (zzmv 2 rfl ?_)))
      obtain ⟨M2, hle3, S17, ⟨A1, c1, e1, hr1⟩⟩ := S9.pubrow (i := 0) (H' := [_, _, _, _, _]) rfl rfl (by show _ * 16 ≤ _; first | omega | (simp only [ls]; omega))
      clear S9; subst e1
      replace hdcrs := hdcrs.mono (Hp.U0 hle3 S17.mx)
      replace hdo := hdo.mono hle3
      refine zzwU rfl (Uh (C := (cdV 168)) (l := [_]) rfl rfl rfl rfl sl142 rfl rfl rfl rfl S17 ?_)
      intro gb4 w14 S18; clear S17
      refine zzwU rfl (Uy (C := (cdV 168)) (i := 3) (q := 0) (⟨A1, ringt.length, c1⟩ : SlV) rfl rfl rfl rfl rfl rfl rfl rfl sl142 S18 rfl rfl rfl (by show (_ + 1) * 24 ≤ _; first | omega | (simp only [ls]; omega)) ?_)
      intro vro1 w15 S19; clear S18
      have S20 := S19.pick [1, 2, 3, 4, 5] [_, _, _, _, _] (by decide) ⟨rfl, rfl, rfl, rfl, rfl, trivial⟩; clear S19
      have hd1 := hdo.snoc (c := c1) hr1
      refine zzmv 1 rfl (zzeE (U8 (zznT [1, 3, 4, 5, 6] rfl (zzrG (zzmv 1 rfl (zzwr rfl (U1 rfl) (zzmv 1 rfl (zzeE ?_))))))))
      refine Uf ?_
      have hdx : dcN y = x := by rw [hy]; exact dcN_dA x
      have e9 : List.map dasL (outc ++ [acc]) = List.map dasL outc ++ [ringt] := by rw [List.map_append, show List.map dasL [acc] = [ringt] from by rw [hring]; rfl]
      intro ax_ hax_
      refine ⟨_, ?hq5m, ⟨k + 1, _, (outc ++ [acc]), _, _, _, _, (hle1.trans hle3), rfl, hax_.su rfl, S20.pick [2, 3, 4] [_, _, _] (by decide) ⟨rfl, rfl, rfl, trivial⟩, ?hq5f0, ?hq5f1, ?hq5f2⟩⟩
      case hq5f0 => omega
      case hq5f1 => first | exact U1h hfn hb24 | exact U1i hfn (by simpa using hb24) (hrg.trans (ringF_stop (by simpa using hb36)))
      case hq5f2 => first | exact hd1 | (rw [e9]; exact hd1)
      case hq5m => omega
  ·refine zzxE rfl (zznR [5] rfl (zzmv 2 rfl (zzeT [2] rfl ?_)))
   obtain ⟨M3, hle4, S21, ⟨A2, c2, e2, hr2⟩⟩ := S4.pubrow (i := 0) (H' := [_, _, _]) rfl rfl (by show _ * 24 ≤ _; first | omega | (simp only [ls]; omega))
   clear S4; subst e2
   replace hdcrs := hdcrs.mono (Hp.U0 hle4 S21.mx)
   replace hdo := hdo.mono hle4
   refine zzrT hC rfl ?_
   refine ⟨_, rfl, _, hle1.trans hle4, (S21.pick [] [] (by decide) trivial), ?_⟩
   obtain rfl : k = 4 * d.crs.length := by omega
   have e2 : Ug d = outc.map dasL := by unfold Ug facesD; rw [hfn]
   unfold FacesR
   rw [e2]
   exact ⟨_, _, _, rfl, hr2, hdo⟩
end Go.Proofs.Ytkcighnochjlgaa
namespace Go.Proofs.Ytkcighnochjlgaa
open Go.ChangeShapes Go.WideShapes Go.ChangeAt Go.RowKit
def stepW (ws : List Int) (x y : Nat) : List Int := if ga ws x < ga ws y then ws.set y (ga ws x) else ws.set x (ga ws y)
def iniW (n : Nat) : Nat → List Int
 | 0 => List.replicate n 0
 | k + 1 => (iniW n k).set k (k : Int)
def endC (d : Dg) (k : Nat) (b : Bool) : Nat := (Un d ((k + 1 : Nat) : Int) b).1
def roundW (d : Dg) (ws : List Int) : Nat → List Int
 | 0 => ws
 | k + 1 => stepW (roundW d ws k) (endC d k false) (endC d k true)
def rndsW (d : Dg) : Nat → List Int
 | 0 => iniW d.crs.length d.crs.length
 | j + 1 => roundW d (rndsW d j) (2 * d.crs.length)
def whoL (d : Dg) : List Int := rndsW d d.crs.length
theorem stepW_len (ws : List Int) (x y : Nat) : (stepW ws x y).length = ws.length := by
 unfold stepW
 split <;> rw [List.length_set]
theorem U23 (n k : Nat) : (iniW n k).length = n := by
 induction k with
 | zero => exact List.length_replicate
 | succ k ih => rw [iniW, List.length_set, ih]
theorem roundW_len (d : Dg) (ws : List Int) (k : Nat) : (roundW d ws k).length = ws.length := by
 induction k with
 | zero => rfl
 | succ k ih => rw [roundW, stepW_len, ih]
theorem rndsW_len (d : Dg) (j : Nat) : (rndsW d j).length = d.crs.length := by
 induction j with
 | zero => exact U23 _ _
 | succ j ih => rw [rndsW, roundW_len, ih]
theorem endC_lt {d : Dg} (h : Ue d = true) {k : Nat} (hk : k < 2 * d.crs.length) (b : Bool) : endC d k b < d.crs.length := (endD h (a := ((k + 1 : Nat) : Int)) (by omega) b).1
noncomputable def Z2s := Try.f121.body.getD .skip
set_option maxHeartbeats 1000000 in
set_option maxRecDepth 10000 in
theorem PiecesOf_t {w : World} {M : Hp} {X : Fr} (d : Dg) {dcrsA : Option Addr} {dcrsc : Nat} (hdcrs : RdA cdCr (M.un X.h) dcrsA dcrsc d.crs) (hn : d.crs.length ≤ 16) (hab : Ue d = true) (S : SH w M X []) : Ct Try.prog 121 [.agg [.slice dcrsA d.crs.length dcrsc, .int .i64 d.loops].toArray] w M X (fun u M => ∃ A c, u = .slice A (whoL d).length c ∧ RdA U2 M A c (whoL d)) := by
 unfold Ct
 have rmhdcrs : d.crs.length * 40 ≤ 140737488355328 := hdcrs.room
 refine U7 (b := Z2s) Try.func121 rfl Try.ntmps121 rfl (fun C hC => (zzwsk [0] rfl (zzsR (zzwU rfl (Uv (l := [_, _]) rfl rfl rfl rfl rfl S ?_)))))
 intro gb1 w1 S1; clear S
 refine zzmv 1 rfl (zzeR [1] rfl (zzwr rfl (zzfa rfl uT51 rfl ce49 nf49) (zzwr rfl (zzld1 rfl uT49 (S1.bc 0 rfl rfl)) (zzwr rfl (zzln rfl uT49) (zzmv 1 rfl (zzeR [1, 3] rfl (zzmv 1 rfl (zzwU rfl (U1y (C := U2) d.crs.length rfl rfl rfl rfl rfl sl36 (by first | rfl | omega) (by show _ * 8 ≤ _; first | omega | (simp only [ls]; omega)) S1 ?_)))))))))
 intro vr1 w2 S2; clear S1
 refine zzmv 1 rfl (zzeS [1, 3, 4] rfl (zzsR (zzmv 1 rfl (zzeE (U6 (zzbK ?_))))))
 refine U4 (fun mx_ ax_ wx_ => ∃ (i : Nat) (ws : List Int) (vrw : Value), mx_ = d.crs.length - i ∧ Env 67 [(1, .pointer (some ⟨gb1, 0, none⟩)), (3, .int .i64 (d.crs.length : Int)), (4, vrw), (5, .int .i64 (i : Int))] ax_ ∧ SH wx_ M X [Rs.row U2 vrw ws, Rs.box gb1 51 [.slice dcrsA d.crs.length dcrsc, .int .i64 d.loops]] ∧ i ≤ d.crs.length ∧ ws = iniW d.crs.length i) rfl ?_ ?_
 ·intro ax_ hax_
  refine ⟨_, ⟨0, _, _, rfl, hax_.su rfl, S2.pick [0, 1] [_, _] (by decide) ⟨rfl, rfl, trivial⟩, ?hq1f0, ?hq1f1⟩⟩
  case hq1f0 => omega
  case hq1f1 => rfl
 ·rintro m1 a1 w3 ⟨i, ws, vrw, rfl, he1, S3, hi, hw⟩
  clear S2
  refine zziN he1 ?_
  clear he1 a1
  have hl1 : ws.length = d.crs.length := by rw [hw, U23]
  refine zzsS (zzsR (zzmv 3 rfl (zzeT [1, 3, 4, 5, 17] rfl ?_)))
  refine zzcD rfl (fun hb17 => ?_) (fun hb17 => ?_)
  ·refine zzsK (zznS [1, 3, 4, 5] rfl (zzbK (zzrG (zzmv 3 rfl (zzwr rfl (Uc (i := 0) i rfl sl36 S3 rfl) (zzwU rfl (Ub (C := U2) (i := 0) (e := i) (j := 0) (us := [_]) (H' := [_, _]) (i : Int) rfl rfl S3 rfl (by first | omega | (simp only [ls]; omega)) rfl rfl rfl sz3 rfl rfl rfl rfl ?_)))))))
   intro w4 S4; clear S3
   refine zzeE (U8 (zznT [1, 3, 4, 5] rfl (zzrG (zzmv 1 rfl (zzwr rfl (U1 rfl) (zzmv 1 rfl (zzeE (Uf ?_))))))))
   intro ax_ hax_
   refine ⟨_, ?hq2m, ⟨i + 1, _, _, rfl, hax_.su rfl, S4.pick [0, 1] [_, _] (by decide) ⟨rfl, rfl, trivial⟩, ?hq2f0, ?hq2f1⟩⟩
   case hq2f0 => omega
   case hq2f1 => (rw [hw]; rfl)
   case hq2m => omega
  ·refine zzxE rfl (zznS [1, 3, 4] rfl (zzsR (zzmv 1 rfl (zzeE (U6 (zzbK ?_))))))
   refine U4 (fun mx_ ax_ wx_ => ∃ (j : Nat) (ws2 : List Int) (vrw2 : Value), mx_ = d.crs.length - j ∧ Env 67 [(1, .pointer (some ⟨gb1, 0, none⟩)), (3, .int .i64 (d.crs.length : Int)), (4, vrw2), (6, .int .i64 (j : Int))] ax_ ∧ SH wx_ M X [Rs.row U2 vrw2 ws2, Rs.box gb1 51 [.slice dcrsA d.crs.length dcrsc, .int .i64 d.loops]] ∧ j ≤ d.crs.length ∧ ws2 = rndsW d j) rfl ?_ ?_
   ·intro ax_ hax_
    refine ⟨_, ⟨0, _, _, rfl, hax_.su rfl, S3.pick [0, 1] [_, _] (by decide) ⟨rfl, rfl, trivial⟩, ?hq3f0, ?hq3f1⟩⟩
    case hq3f0 => omega
    case hq3f1 => (obtain rfl : i = d.crs.length := (by omega); exact hw)
   ·rintro m2 a2 w5 ⟨j, ws2, vrw2, rfl, he2, S5, hj, hw2⟩
    clear S3
    refine zziN he2 ?_
    clear he2 a2
    have hl2 : ws2.length = d.crs.length := by rw [hw2, rndsW_len]
    refine zzsS (zzsR (zzmv 3 rfl (zzeT [1, 3, 4, 6, 26] rfl ?_)))
    refine zzcD rfl (fun hb26 => ?_) (fun hb26 => ?_)
    ·refine zzsK (zznS [1, 3, 4, 6] rfl (zzbK (zzsR (zzmv 1 rfl (zzeE (U6 (zzbK ?_)))))))
     refine U4 (fun mx_ ax_ wx_ => ∃ (k : Nat) (ws3 : List Int) (vrw3 : Value), mx_ = 2 * d.crs.length - k ∧ Env 67 [(1, .pointer (some ⟨gb1, 0, none⟩)), (3, .int .i64 (d.crs.length : Int)), (4, vrw3), (6, .int .i64 (j : Int)), (7, .int .i64 ((k + 1 : Nat) : Int))] ax_ ∧ SH wx_ M X [Rs.row U2 vrw3 ws3, Rs.box gb1 51 [.slice dcrsA d.crs.length dcrsc, .int .i64 d.loops]] ∧ k ≤ 2 * d.crs.length ∧ ws3 = roundW d ws2 k) rfl ?_ ?_
     ·intro ax_ hax_
      refine ⟨_, ⟨0, _, _, rfl, hax_.su rfl, S5.pick [0, 1] [_, _] (by decide) ⟨rfl, rfl, trivial⟩, ?hq4f0, ?hq4f1⟩⟩
      case hq4f0 => omega
      case hq4f1 => rfl
     ·rintro m3 a3 w6 ⟨k, ws3, vrw3, rfl, he3, S6, hk, hw3⟩
      clear S5
      refine zziN he3 ?_
      clear he3 a3
      have hl3 : ws3.length = d.crs.length := by rw [hw3, roundW_len, hw2, rndsW_len]
      refine zzsS (zzsR (zzmv 2 rfl (zzwr rfl (run_mul rfl rfl rfl (by first | omega | (simp only [ls]; omega))) ?_)))
      refine zzmv 1 rfl (zzeT [1, 3, 4, 6, 7, 32] rfl ?_)
      refine zzcD rfl (fun hb32 => ?_) (fun hb32 => ?_)
      ·have hx := endC_lt hab (k := k) (by omega) false
       have hy := endC_lt hab (k := k) (by omega) true
       refine zzsK (zznS [1, 3, 4, 6, 7] rfl (zzbK (zzsS (zzdW S6 10 ?_))))
       clear S6
       refine zzlW 0 rfl (fun hZz Sz => Ut [_, _] rfl uT51 sz51 (Sz.suf.bs 1 rfl rfl)) (zzmW 8 [1] rfl (zzyW 2 rfl (fun hZz Sz => U1j rfl rfl rfl rfl rfl cf122 Sz (EndOf_q d ((k + 1 : Nat) : Int) false ((hdcrs.mono (Hp.U0 hZz Sz.mx)).mono Sz.Uj) Sz.lend)) (zzpW 3 rfl (U29 rfl rfl uT126 rfl uT3 rfl rfl) (zzlW 4 rfl (fun hZz Sz => Ut [_, _] rfl uT51 sz51 (Sz.suf.bs 1 rfl rfl)) (zzmW 4 [5] rfl (zzyW 6 rfl (fun hZz Sz => U1j rfl rfl rfl rfl rfl cf122 Sz (EndOf_q d ((k + 1 : Nat) : Int) true ((hdcrs.mono (Hp.U0 hZz Sz.mx)).mono Sz.Uj) Sz.lend)) (zzpW 7 rfl (U29 rfl rfl uT126 rfl uT3 rfl rfl) (zzmW 0 [8, 9] rfl ?_))))))))
       refine zzeW (fun w17 S17 => (zznS [1, 3, 4, 6, 7, 8, 9] rfl (ws_eq 8 (.int .i64 ((endC d k false : Nat) : Int)) rfl (int_eq rfl) (ws_eq 9 (.int .i64 ((endC d k true : Nat) : Int)) rfl (int_eq rfl) (zzdW S17 9 ?_)))))
       clear S17
       refine zzmW 7 [0, 1] rfl (zzlW 2 rfl (fun hZz Sz => Uc (i := 0) (endC d k false) rfl sl36 Sz.suf rfl) (zzlW 3 rfl (fun hZz Sz => zzld1 rfl uT3 (Sz.suf.rowc (i := 0) (e := endC d k false) (j := 0) rfl (by first | omega | (simp only [ls]; omega)) rfl rfl)) ?_))
       refine zzmW 3 [4, 5] rfl (zzlW 6 rfl (fun hZz Sz => Uc (i := 0) (endC d k true) rfl sl36 Sz.suf rfl) (zzlW 7 rfl (fun hZz Sz => zzld1 rfl uT3 (Sz.suf.rowc (i := 0) (e := endC d k true) (j := 0) rfl (by first | omega | (simp only [ls]; omega)) rfl rfl)) ?_))
       refine zzmW 0 [8] rfl (zzeW (fun w27 S27 => (zznT [1, 3, 4, 6, 7, 8, 9, 51] rfl ?_)))
       refine zzcD rfl (fun hb51 => ?_) (fun hb51 => ?_)
       ·refine zzrG (zzmv 4 rfl (zzwr rfl (Uc (i := 0) (endC d k false) rfl sl36 S27 rfl) (zzwr rfl (zzld1 rfl uT3 (S27.rowc (i := 0) (e := endC d k false) (j := 0) rfl (by first | omega | (simp only [ls]; omega)) rfl rfl)) ?_)))
        refine zzwr rfl (Uc (i := 0) (endC d k true) rfl sl36 S27 rfl) (zzwU rfl (Ub (C := U2) (i := 0) (e := endC d k true) (j := 0) (us := [_]) (H' := [_, _]) (ga ws3 (endC d k false)) rfl rfl S27 rfl (by first | omega | (simp only [ls]; omega)) rfl rfl rfl sz3 rfl rfl rfl rfl ?_))
        intro w28 S28; clear S27
        refine zzeE (U8 (zznT [1, 3, 4, 6, 7] rfl (zzrG (zzmv 1 rfl (zzwr rfl (U1 rfl) (zzmv 1 rfl (zzeE (Uf ?_))))))))
        intro ax_ hax_
        refine ⟨_, ?hq5m, ⟨k + 1, _, _, rfl, hax_.su rfl, S28.pick [0, 1] [_, _] (by decide) ⟨rfl, rfl, trivial⟩, ?hq5f0, ?hq5f1⟩⟩
        case hq5f0 => omega
        case hq5f1 => (show _ = stepW _ _ _; rw [← hw3]; unfold stepW; first | rw [if_pos (by omega)] | rw [if_neg (by omega)])
        case hq5m => omega
       ·refine zzrG (zzmv 4 rfl (zzwr rfl (Uc (i := 0) (endC d k true) rfl sl36 S27 rfl) (zzwr rfl (zzld1 rfl uT3 (S27.rowc (i := 0) (e := endC d k true) (j := 0) rfl (by first | omega | (simp only [ls]; omega)) rfl rfl)) ?_)))
        refine zzwr rfl (Uc (i := 0) (endC d k false) rfl sl36 S27 rfl) (zzwU rfl (Ub (C := U2) (i := 0) (e := endC d k false) (j := 0) (us := [_]) (H' := [_, _]) (ga ws3 (endC d k true)) rfl rfl S27 rfl (by first | omega | (simp only [ls]; omega)) rfl rfl rfl sz3 rfl rfl rfl rfl ?_))
        intro w29 S29; clear S27
        refine zzeE (U8 (zznT [1, 3, 4, 6, 7] rfl (zzrG (zzmv 1 rfl (zzwr rfl (U1 rfl) (zzmv 1 rfl (zzeE (Uf ?_))))))))
        intro ax_ hax_
        refine ⟨_, ?hq6m, ⟨k + 1, _, _, rfl, hax_.su rfl, S29.pick [0, 1] [_, _] (by decide) ⟨rfl, rfl, trivial⟩, ?hq6f0, ?hq6f1⟩⟩
        case hq6f0 => omega
        case hq6f1 => (show _ = stepW _ _ _; rw [← hw3]; unfold stepW; first | rw [if_pos (by omega)] | rw [if_neg (by omega)])
        case hq6m => omega
      ·refine zzxE rfl (U8 (zznT [1, 3, 4, 6] rfl (zzrG (zzmv 1 rfl (zzwr rfl (U1 rfl) (zzmv 1 rfl (zzeE (Uf ?_))))))))
       intro ax_ hax_
       refine ⟨_, ?hq7m, ⟨j + 1, _, _, rfl, hax_.su rfl, S6.pick [0, 1] [_, _] (by decide) ⟨rfl, rfl, trivial⟩, ?hq7f0, ?hq7f1⟩⟩
       case hq7f0 => omega
       case hq7f1 => (obtain rfl : k = 2 * d.crs.length := (by omega); rw [hw3, hw2]; rfl)
       case hq7m => omega
    ·refine zzxE rfl (zznR [4] rfl (zzmv 2 rfl (zzeT [2] rfl ?_)))
     obtain ⟨M20, hle23, S30, ⟨A1, c1, e1, hr1⟩⟩ := S5.pubrow (i := 0) (H' := [_, _]) rfl rfl (by show _ * 8 ≤ _; first | omega | (simp only [ls]; omega))
     clear S5; subst e1
     replace hdcrs := hdcrs.mono (Hp.U0 hle23 S30.mx)
     refine zzrT hC rfl ?_
     refine ⟨_, rfl, _, hle23, (S30.pick [] [] (by decide) trivial), ?_⟩
     obtain rfl : j = d.crs.length := by omega
     subst hw2
     exact ⟨_, _, rfl, hr1⟩
end Go.Proofs.Ytkcighnochjlgaa
namespace Go.Proofs.Ytkcighnochjlgaa
open Go.ChangeShapes Go.WideShapes Go.ChangeAt Go.RowKit
theorem ringF_pre (nx : Nat → Nat) (seen : List Bool) (x : Nat) (acc : List Int) : ∃ t, (ringF nx seen x acc).2 = acc ++ t := by
 induction hk : free seen using Nat.strongRecOn generalizing seen x acc with
 | _ k ih =>
  by_cases h : x < seen.length ∧ ga seen x = false
  ·rw [ringF_go h.1 h.2]
   have := U1u h.1 h.2
   obtain ⟨t, ht⟩ := ih (free (seen.set x true)) (by omega) (seen.set x true) (nx x) (acc ++ [(x : Int)]) rfl
   exact ⟨(x : Int) :: t, by rw [ht]; simp⟩
  ·refine ⟨[], ?_⟩
   rw [ringF]
   simp [h]
theorem facesN_head (d : Dg) (k : Nat) (hk : k ≤ 4 * d.crs.length) : ∀ r ∈ (U1e d k).2, ∃ (c : Nat) (t : List Int), r = (c : Int) :: t ∧ 2 ≤ c ∧ c < 4 * d.crs.length + 2 := by
 induction k with
 | zero => intro r hr; simp [U1e] at hr
 | succ k ih =>
  by_cases hg : ga (U1e d k).1 (k + 2) = true
  ·rw [U1h rfl hg]; exact ih (by omega)
  ·rw [U1i rfl (by simpa using hg) rfl]
   intro r hr
   rcases List.mem_append.1 hr with hr | hr
   ·exact ih (by omega) r hr
   ·rw [List.mem_singleton] at hr
    subst hr
    have hl := facesN_len d k
    rw [ringF_go (by omega) (by simpa using hg)]
    obtain ⟨t, ht⟩ := ringF_pre (nxC d) ((U1e d k).1.set (k + 2) true) (nxC d (k + 2)) ([] ++ [((k + 2 : Nat) : Int)])
    exact ⟨k + 2, t, by rw [ht]; rfl, by omega, by omega⟩
def hd0 (d : Dg) (k : Nat) : Da := ga (ga (Ug d) k) 0
theorem hd0_ok {d : Dg} {k : Nat} (hk : k < (Ug d).length) : 0 < (ga (Ug d) k).length ∧ okD d (hd0 d k) := by
 have hm : ga (Ug d) k ∈ Ug d := by rw [U14 hk]; exact List.getElem_mem hk
 unfold Ug facesD at hm
 rw [List.mem_map] at hm
 obtain ⟨r, hr, e⟩ := hm
 obtain ⟨c, t, rfl, h1, h2⟩ := facesN_head d _ (Nat.le_refl _) r hr
 have e' : ga (Ug d) k = dA c :: dasL t := e.symm
 refine ⟨by rw [e']; simp, ?_⟩
 unfold hd0
 rw [e']
 exact dA_ok ⟨h1, h2⟩
def fcC (d : Dg) (k : Nat) : Nat := (Un d (hd0 d k).a (hd0 d k).b).1
theorem fcC_lt {d : Dg} (h : Ue d = true) {k : Nat} (hk : k < (Ug d).length) : fcC d k < d.crs.length := (endD h (hd0_ok hk).2 (hd0 d k).b).1
def negW (ws : List Int) (p : Int) : Nat → Int
 | 0 => 0
 | k + 1 => if ga ws k = p then negW ws p k - 1 else negW ws p k
def facW (d : Dg) (ws : List Int) (p : Int) (m : Int) : Nat → Int
 | 0 => m
 | k + 1 => if ga ws (fcC d k) = p then facW d ws p m k + 1 else facW d ws p m k
def rootOk (d : Dg) (p : Nat) : Bool := decide (ga (whoL d) p ≠ (p : Int)) || decide (facW d (whoL d) p (negW (whoL d) p d.crs.length) (Ug d).length = 2)
def planIs (d : Dg) : Bool := (List.range d.crs.length).all (rootOk d)
theorem planIs_t {d : Dg} (h : ∀ p, p < d.crs.length → rootOk d p = true) : planIs d = true := by
 unfold planIs
 rw [List.all_eq_true]
 intro p hp
 exact h p (List.mem_range.1 hp)
theorem planIs_f {d : Dg} {p : Nat} (hp : p < d.crs.length) (h : rootOk d p = false) : planIs d = false := by
 unfold planIs
 rw [List.all_eq_false]
 exact ⟨p, List.mem_range.2 hp, by rw [h]; decide⟩
theorem negW_bd (ws : List Int) (p : Int) (k : Nat) : -(k : Int) ≤ negW ws p k ∧ negW ws p k ≤ 0 := by
 induction k with
 | zero => simp [negW]
 | succ k ih => rw [negW]; split <;> omega
theorem facW_bd (d : Dg) (ws : List Int) (p m : Int) (k : Nat) : m ≤ facW d ws p m k ∧ facW d ws p m k ≤ m + k := by
 induction k with
 | zero => simp [facW]
 | succ k ih => rw [facW]; split <;> omega
theorem facesL_many (d : Dg) : (Ug d).length ≤ 4 * d.crs.length := by
 unfold Ug facesD
 rw [List.length_map]
 exact facesN_many d _
noncomputable def Z2t := Try.f86.body.getD .skip
set_option maxHeartbeats 1000000 in
set_option maxRecDepth 10000 in
theorem PlanarIs_t {w : World} {M : Hp} {X : Fr} (d : Dg) {dcrsA : Option Addr} {dcrsc : Nat} (hdcrs : RdA cdCr (M.un X.h) dcrsA dcrsc d.crs) (hn : d.crs.length ≤ 16) (hab : Ue d = true) (S : SH w M X []) : Ct Try.prog 86 [.agg [.slice dcrsA d.crs.length dcrsc, .int .i64 d.loops].toArray] w M X (fun u _ => u = .bool (planIs d)) := by
 unfold Ct
 have rmhdcrs : d.crs.length * 40 ≤ 140737488355328 := hdcrs.room
 refine U7 (b := Z2t) Try.func86 rfl Try.ntmps86 rfl (fun C hC => (zzwsk [0] rfl (zzsR (zzwU rfl (Uv (l := [_, _]) rfl rfl rfl rfl rfl S ?_)))))
 intro gb1 w1 S1; clear S
 refine zzmv 1 rfl (zzeR [1] rfl (zzwr rfl (Ut [_, _] rfl uT51 sz51 (S1.bs 0 rfl rfl)) (zzwU rfl (wo_ct rfl rfl rfl rfl rfl rfl rfl cf121 S1 (PiecesOf_t d (hdcrs.mono S1.Uj) (hn) (hab) S1.lend) ?_))))
 intro vw2 w2 M1 hle1 S2 hRw2; clear S1
 replace hdcrs := hdcrs.mono (Hp.U0 hle1 S2.mx)
 obtain ⟨A1, c1, rfl, hr1⟩ := hRw2
 refine zzmv 1 rfl (zzeR [1, 3] rfl (zzwr rfl (Ut [_, _] rfl uT51 sz51 (S2.bs 0 rfl rfl)) (zzwU rfl (wo_ct rfl rfl rfl rfl rfl rfl rfl cf101 S2 (FacesOf_t d (hdcrs.mono S2.Uj) (hn) (hab) S2.lend) ?_))))
 intro vw3 w3 M2 hle2 S3 hRw3; clear S2
 replace hdcrs := hdcrs.mono (Hp.U0 hle2 S3.mx)
 replace hr1 := hr1.mono hle2
 obtain ⟨A2, c2, vs1, rfl, hr2, hd1⟩ := hRw3
 have hfl := hd1.1
 refine zzmv 1 rfl (zzeS [1, 3, 4] rfl (zzsR (zzmv 1 rfl (zzeE (U6 (zzbK ?_))))))
 refine U4 (fun mx_ ax_ wx_ => ∃ (p : Nat), mx_ = d.crs.length - p ∧ Env 71 [(1, .pointer (some ⟨gb1, 0, none⟩)), (3, .slice A1 (whoL d).length c1), (4, .slice A2 vs1.length c2), (5, .int .i64 (p : Int))] ax_ ∧ SH wx_ M2 X [Rs.box gb1 51 [.slice dcrsA d.crs.length dcrsc, .int .i64 d.loops]] ∧ p ≤ d.crs.length ∧ (∀ q, q < p → rootOk d q = true)) rfl ?_ ?_
 ·intro ax_ hax_
  refine ⟨_, ⟨0, rfl, hax_.su rfl, S3.pick [0] [_] (by decide) ⟨rfl, trivial⟩, ?hq1f0, ?hq1f1⟩⟩
  case hq1f0 => omega
  case hq1f1 => (intro q hq; omega)
 ·rintro m1 a1 w4 ⟨p, rfl, he1, S4, hp, hall⟩
  clear S3
  refine zziN he1 ?_
  clear he1 a1
  have hwl := rndsW_len d d.crs.length
  replace hwl : (whoL d).length = d.crs.length := hwl
  have hfm := facesL_many d
  refine zzsS (zzsR (zzmv 2 rfl (zzwr rfl (zzln rfl uT36) (zzmv 1 rfl (zzeT [1, 3, 4, 5, 16] rfl ?_)))))
  refine zzcD rfl (fun hb16 => ?_) (fun hb16 => ?_)
  ·refine zzsK (zznS [1, 3, 4, 5] rfl (zzbK (zzsS (zzsR (zzmv 2 rfl (zzwr rfl (Ux p rfl sl36 hr1) (zzwr rfl (zzld1 rfl uT3 (hr1.cell S4.m (i := p) (by first | omega | (simp only [ls]; omega)) 0 rfl rfl)) ?_)))))))
   refine zzmv 2 rfl (zzeT [1, 3, 4, 5, 24] rfl ?_)
   refine zzcD rfl (fun hb24 => ?_) (fun hb24 => ?_)
   ·refine zzxE rfl (zznT [1, 3, 4, 5] rfl (zzrG (zzmv 1 rfl (zzwr rfl (U1 rfl) (zzmv 1 rfl (zzeE (Uf ?_)))))))
    intro ax_ hax_
    refine ⟨_, ?hq2m, ⟨p + 1, rfl, hax_.su rfl, S4.pick [0] [_] (by decide) ⟨rfl, trivial⟩, ?hq2f0, ?hq2f1⟩⟩
    case hq2f0 => omega
    case hq2f1 => (intro q hq; by_cases h : q = p; (subst h; unfold rootOk; rw [Bool.or_eq_true]; first | (left; exact decide_eq_true (by omega)) | (right; exact decide_eq_true (by omega))); exact hall q (by omega))
    case hq2m => omega
   ·refine zzsK (zznR [1, 3, 4, 5] rfl (zzmv 1 rfl (zzeE (zztS (zzsR (zzmv 1 rfl (zzeE (U6 ?_))))))))
    refine zzbK ?_
    refine U4 (fun mx_ ax_ wx_ => ∃ (i : Nat) (m : Int), mx_ = d.crs.length - i ∧ Env 71 [(1, .pointer (some ⟨gb1, 0, none⟩)), (3, .slice A1 (whoL d).length c1), (4, .slice A2 vs1.length c2), (5, .int .i64 (p : Int)), (6, .int .i64 m), (7, .int .i64 (i : Int))] ax_ ∧ SH wx_ M2 X [Rs.box gb1 51 [.slice dcrsA d.crs.length dcrsc, .int .i64 d.loops]] ∧ i ≤ d.crs.length ∧ m = negW (whoL d) p i) rfl ?_ ?_
    ·intro ax_ hax_
     refine ⟨_, ⟨0, _, rfl, hax_.su rfl, S4.pick [0] [_] (by decide) ⟨rfl, trivial⟩, ?hq3f0, ?hq3f1⟩⟩
     case hq3f0 => omega
     case hq3f1 => rfl
    ·rintro m2 a2 w5 ⟨i, m, rfl, he2, S5, hi, hm⟩
     clear S4
     refine zziN he2 ?_
     clear he2 a2
     have hnb := negW_bd (whoL d) p i
     refine zzsS (zzsR (zzmv 2 rfl (zzwr rfl (zzln rfl uT36) (zzmv 1 rfl (zzeT [1, 3, 4, 5, 6, 7, 28] rfl ?_)))))
     refine zzcD rfl (fun hb28 => ?_) (fun hb28 => ?_)
     ·refine zzsK (zznS [1, 3, 4, 5, 6, 7] rfl (zzbK (zzsR (zzmv 2 rfl (zzwr rfl (Ux i rfl sl36 hr1) (zzwr rfl (zzld1 rfl uT3 (hr1.cell S5.m (i := i) (by first | omega | (simp only [ls]; omega)) 0 rfl rfl)) ?_))))))
      refine zzmv 2 rfl (zzeT [1, 3, 4, 5, 6, 7, 36] rfl ?_)
      refine zzcD rfl (fun hb36 => ?_) (fun hb36 => ?_)
      ·refine zzrG (zzmv 1 rfl (zzwr rfl (U1o rfl rfl rfl (by first | omega | (simp only [ls]; omega))) ?_))
       refine zzmv 1 rfl (zzeE (U8 (zznT [1, 3, 4, 5, 6, 7] rfl (zzrG (zzmv 1 rfl (zzwr rfl (U1 rfl) (zzmv 1 rfl (zzeE ?_))))))))
       refine Uf ?_
       intro ax_ hax_
       refine ⟨_, ?hq4m, ⟨i + 1, _, rfl, hax_.su rfl, S5.pick [0] [_] (by decide) ⟨rfl, trivial⟩, ?hq4f0, ?hq4f1⟩⟩
       case hq4f0 => omega
       case hq4f1 => (rw [negW, hm]; first | rw [if_pos (by omega)] | rw [if_neg (by omega)])
       case hq4m => omega
      ·refine zzsK (U8 (zznT [1, 3, 4, 5, 6, 7] rfl (zzrG (zzmv 1 rfl (zzwr rfl (U1 rfl) (zzmv 1 rfl (zzeE (Uf ?_))))))))
       intro ax_ hax_
       refine ⟨_, ?hq5m, ⟨i + 1, _, rfl, hax_.su rfl, S5.pick [0] [_] (by decide) ⟨rfl, trivial⟩, ?hq5f0, ?hq5f1⟩⟩
       case hq5f0 => omega
       case hq5f1 => (rw [negW, hm]; first | rw [if_pos (by omega)] | rw [if_neg (by omega)])
       case hq5m => omega
     ·refine zzxE rfl (zznS [1, 3, 4, 5, 6] rfl (zzsR (zzmv 1 rfl (zzeE (U6 (zzbK ?_))))))
      refine U4 (fun mx_ ax_ wx_ => ∃ (k : Nat) (m2 : Int), mx_ = (Ug d).length - k ∧ Env 71 [(1, .pointer (some ⟨gb1, 0, none⟩)), (3, .slice A1 (whoL d).length c1), (4, .slice A2 vs1.length c2), (5, .int .i64 (p : Int)), (6, .int .i64 m2), (8, .int .i64 (k : Int))] ax_ ∧ SH wx_ M2 X [Rs.box gb1 51 [.slice dcrsA d.crs.length dcrsc, .int .i64 d.loops]] ∧ k ≤ (Ug d).length ∧ m2 = facW d (whoL d) p (negW (whoL d) p d.crs.length) k) rfl ?_ ?_
      ·intro ax_ hax_
       refine ⟨_, ⟨0, _, rfl, hax_.su rfl, S5.pick [0] [_] (by decide) ⟨rfl, trivial⟩, ?hq6f0, ?hq6f1⟩⟩
       case hq6f0 => omega
       case hq6f1 => (rw [hm, show i = d.crs.length by omega]; rfl)
      ·rintro m3 a3 w6 ⟨k, m2, rfl, he3, S6, hk, hm2⟩
       clear S5
       refine zziN he3 ?_
       clear he3 a3
       have hnb := negW_bd (whoL d) p d.crs.length
       have hfb := facW_bd d (whoL d) p (negW (whoL d) p d.crs.length) k
       refine zzsS (zzsR (zzmv 2 rfl (zzwr rfl (zzln rfl uT142) (zzmv 1 rfl (zzeT [1, 3, 4, 5, 6, 8, 42] rfl ?_)))))
       refine zzcD rfl (fun hb42 => ?_) (fun hb42 => ?_)
       ·have hhd := hd0_ok (d := d) (k := k) (by omega)
        have hfc := fcC_lt hab (k := k) (by omega)
        obtain ⟨hh0, hok⟩ := hhd
        have hfe : fcC d k = (Un d (ga (ga (Ug d) k) 0).a (ga (ga (Ug d) k) 0).b).1 := rfl
        rw [hfe] at hfc
        refine zzsK (zznS [1, 3, 4, 5, 6, 8] rfl (zzbK (zzsS (zzdW S6 22 ?_))))
        clear S6
        refine zzmW 21 [0] rfl (zzlW 1 rfl (fun hZz Sz => Ut [_, _] rfl uT51 sz51 (Sz.suf.bs 0 rfl rfl)) (zzmW 18 [2, 3] rfl (zzlW 4 rfl (fun hZz Sz => Ux k rfl sl142 (hr2.mono hZz)) ?_)))
        obtain ⟨hn1, hr3⟩ := hd1.2 k (by first | omega | (simp only [ls]; omega))
        have rmhr3 : (ga (Ug d) k).length * 16 ≤ 140737488355328 := hr3.room
        refine zzlW 5 rfl (fun hZz Sz => zzld1 rfl uT168 ((hr2.mono hZz).cell Sz.m (i := k) (by first | omega | (simp only [ls]; omega)) 0 rfl (congrArg (fun n => some (Value.slice _ n _)) hn1))) ?_
        refine zzlW 6 rfl (fun hZz Sz => Ux 0 rfl sl168 (hr3.mono hZz)) (zzpW 7 rfl (zzfa rfl uT167 rfl ce3 nf3) (zzlW 8 rfl (fun hZz Sz => zzld1 rfl uT3 ((hr3.mono hZz).cell Sz.m (i := 0) (by first | omega | (simp only [ls]; omega)) 0 rfl rfl)) ?_))
        refine zzmW 11 [9, 10] rfl (zzlW 11 rfl (fun hZz Sz => Ux k rfl sl142 (hr2.mono hZz)) ?_)
        obtain ⟨hn2, hr4⟩ := hd1.2 k (by first | omega | (simp only [ls]; omega))
        have rmhr4 : (ga (Ug d) k).length * 16 ≤ 140737488355328 := hr4.room
        refine zzlW 12 rfl (fun hZz Sz => zzld1 rfl uT168 ((hr2.mono hZz).cell Sz.m (i := k) (by first | omega | (simp only [ls]; omega)) 0 rfl (congrArg (fun n => some (Value.slice _ n _)) hn2))) ?_
        refine zzlW 13 rfl (fun hZz Sz => Ux 0 rfl sl168 (hr4.mono hZz)) (zzpW 14 rfl (zzfa rfl uT167 rfl ce4 nf4) (zzlW 15 rfl (fun hZz Sz => zzld1 rfl uT4 ((hr4.mono hZz).cell Sz.m (i := 0) (by first | omega | (simp only [ls]; omega)) 1 rfl rfl)) ?_))
        refine zzyW 16 rfl (fun hZz Sz => U1j rfl rfl rfl rfl rfl cf122 Sz (EndOf_q d ((ga (ga (Ug d) k) 0).a) ((ga (ga (Ug d) k) 0).b) ((hdcrs.mono (Hp.U0 hZz Sz.mx)).mono Sz.Uj) Sz.lend)) (zzpW 17 rfl (U29 rfl rfl uT126 rfl uT3 rfl rfl) (zzlW 18 rfl (fun hZz Sz => Ux ((Un d ((ga (ga (Ug d) k) 0).a) ((ga (ga (Ug d) k) 0).b)).1) rfl sl36 (hr1.mono hZz)) (zzlW 19 rfl (fun hZz Sz => zzld1 rfl uT3 ((hr1.mono hZz).cell Sz.m (i := (Un d ((ga (ga (Ug d) k) 0).a) ((ga (ga (Ug d) k) 0).b)).1) (by first | omega | (simp only [ls]; omega)) 0 rfl rfl)) ?_)))
        refine zzmW 0 [20, 21] rfl (zzeW (fun w29 S29 => (zznT [1, 3, 4, 5, 6, 8, 66] rfl ?_)))
        refine zzcD rfl (fun hb66 => ?_) (fun hb66 => ?_)
        ·refine zzrG (zzmv 1 rfl (zzwr rfl (U1 rfl) (zzmv 1 rfl (zzeE (U8 (zznT [1, 3, 4, 5, 6, 8] rfl (zzrG (zzmv 1 rfl ?_))))))))
         refine zzwr rfl (U1 rfl) (zzmv 1 rfl (zzeE (Uf ?_)))
         intro ax_ hax_
         refine ⟨_, ?hq7m, ⟨k + 1, _, rfl, hax_.su rfl, S29.pick [0] [_] (by decide) ⟨rfl, trivial⟩, ?hq7f0, ?hq7f1⟩⟩
         case hq7f0 => omega
         case hq7f1 => (rw [facW, hm2, hfe]; first | rw [if_pos (by omega)] | rw [if_neg (by omega)])
         case hq7m => omega
        ·refine zzsK (U8 (zznT [1, 3, 4, 5, 6, 8] rfl (zzrG (zzmv 1 rfl (zzwr rfl (U1 rfl) (zzmv 1 rfl (zzeE (Uf ?_))))))))
         intro ax_ hax_
         refine ⟨_, ?hq8m, ⟨k + 1, _, rfl, hax_.su rfl, S29.pick [0] [_] (by decide) ⟨rfl, trivial⟩, ?hq8f0, ?hq8f1⟩⟩
         case hq8f0 => omega
         case hq8f1 => (rw [facW, hm2, hfe]; first | rw [if_pos (by omega)] | rw [if_neg (by omega)])
         case hq8m => omega
       ·have hm3 : m2 = facW d (whoL d) p (negW (whoL d) p d.crs.length) (Ug d).length := by rw [hm2, show k = (Ug d).length by omega]
        refine zzxE rfl (zznR [1, 3, 4, 5, 6] rfl (zzmv 2 rfl (zzeT [1, 3, 4, 5, 70] rfl ?_)))
        refine zzcD rfl (fun hb70 => ?_) (fun hb70 => ?_)
        ·refine zzsR (zzmv 1 rfl (zzeT [2] rfl (zzrT hC rfl ?_)))
         refine ⟨_, rfl, _, hle1.trans hle2, (S6.pick [] [] (by decide) trivial), ?_⟩
         refine congrArg Value.bool (planIs_f (p := p) (by omega) ?_).symm
         unfold rootOk
         rw [Bool.or_eq_false_iff]
         exact ⟨decide_eq_false (by omega), decide_eq_false (by omega)⟩
        ·refine zzsK (U8 (zznT [1, 3, 4, 5] rfl (zzrG (zzmv 1 rfl (zzwr rfl (U1 rfl) (zzmv 1 rfl (zzeE (Uf ?_))))))))
         intro ax_ hax_
         refine ⟨_, ?hq9m, ⟨p + 1, rfl, hax_.su rfl, S6.pick [0] [_] (by decide) ⟨rfl, trivial⟩, ?hq9f0, ?hq9f1⟩⟩
         case hq9f0 => omega
         case hq9f1 => (intro q hq; by_cases h : q = p; (subst h; unfold rootOk; rw [Bool.or_eq_true]; first | (left; exact decide_eq_true (by omega)) | (right; exact decide_eq_true (by omega))); exact hall q (by omega))
         case hq9m => omega
  ·refine zzxE rfl (zznR [] rfl (zzmv 1 rfl (zzeE (U6 (zzrT hC rfl ?_)))))
   refine ⟨_, rfl, _, hle1.trans hle2, (S4.pick [] [] (by decide) trivial), ?_⟩
   exact congrArg Value.bool (planIs_t (fun q hq => hall q (by omega))).symm
end Go.Proofs.Ytkcighnochjlgaa
namespace Go.Proofs.Ytkcighnochjlgaa
open Go.Shelf
def srtL_ren : Go.Shelf.Ren := ⟨fun | 189 => 143 | 125 => 162 | 257 => 161 | 128 => 174 | 129 => 175 | 294 => 165 | 295 => 166 | 296 => 167 | 297 => 168 | 298 => 169 | 299 => 170 | 216 => 171 | 300 => 172 | 301 => 173 | 328 => 176 | 329 => 177 | 330 => 178 | 331 => 179 | 332 => 180 | 215 => 181 | 343 => 182 | n => n, fun | 28 => 36 | 3 => 3 | 46 => 155 | 0 => 0 | 51 => 192 | 53 => 194 | 4 => 4 | 183 => 217 | 182 => 216 | 131 => 222 | 5 => 5 | 9 => 9 | 218 => 224 | 222 => 228 | 228 => 230 | 229 => 231 | n => n, fun | n => n⟩
theorem srtL : Go.Proofs.Lays.n189 Try.prog srtL_ren := {
  mixed := by kernel_rfl
  f125 := Try.func162.trans (congrArg some (by kernel_rfl))
  f128 := Try.func174.trans (congrArg some (by kernel_rfl))
  f129 := Try.func175.trans (congrArg some (by kernel_rfl))
  f189 := Try.func143.trans (congrArg some (by kernel_rfl))
  f215 := Try.func181.trans (congrArg some (by kernel_rfl))
  f216 := Try.func171.trans (congrArg some (by kernel_rfl))
  f257 := Try.func161.trans (congrArg some (by kernel_rfl))
  f294 := Try.func165.trans (congrArg some (by kernel_rfl))
  f295 := Try.func166.trans (congrArg some (by kernel_rfl))
  f296 := Try.func167.trans (congrArg some (by kernel_rfl))
  f297 := Try.func168.trans (congrArg some (by kernel_rfl))
  f298 := Try.func169.trans (congrArg some (by kernel_rfl))
  f299 := Try.func170.trans (congrArg some (by kernel_rfl))
  f300 := Try.func172.trans (congrArg some (by kernel_rfl))
  f301 := Try.func173.trans (congrArg some (by kernel_rfl))
  f328 := Try.func176.trans (congrArg some (by kernel_rfl))
  f329 := Try.func177.trans (congrArg some (by kernel_rfl))
  f330 := Try.func178.trans (congrArg some (by kernel_rfl))
  f331 := Try.func179.trans (congrArg some (by kernel_rfl))
  f332 := Try.func180.trans (congrArg some (by kernel_rfl))
  f343 := Try.func182.trans (congrArg some (by kernel_rfl))
  t0 := uT0
  a0 := Try.isAgg0
  z0 := Try.sizeOf0
  v0 := Try.zeroValue0
  t3 := uT3
  a3 := Try.isAgg3
  z3 := Try.sizeOf3
  v3 := Try.zeroValue3
  t4 := uT4
  a4 := Try.isAgg4
  z4 := Try.sizeOf4
  v4 := Try.zeroValue4
  t5 := uT5
  a5 := Try.isAgg5
  z5 := Try.sizeOf5
  v5 := Try.zeroValue5
  t9 := uT9
  a9 := Try.isAgg9
  z9 := Try.sizeOf9
  v9 := Try.zeroValue9
  t28 := uT36
  a28 := Try.isAgg36
  z28 := Try.sizeOf36
  v28 := Try.zeroValue36
  t46 := uT155
  a46 := Try.isAgg155
  z46 := Try.sizeOf155
  v46 := Try.zeroValue155
  t51 := uT192
  a51 := Try.isAgg192
  z51 := Try.sizeOf192
  v51 := Try.zeroValue192
  t53 := uT194
  a53 := Try.isAgg194
  z53 := Try.sizeOf194
  v53 := Try.zeroValue194
  t131 := uT222
  a131 := Try.isAgg222
  z131 := Try.sizeOf222
  v131 := Try.zeroValue222
  t182 := uT216
  a182 := Try.isAgg216
  z182 := Try.sizeOf216
  v182 := Try.zeroValue216
  t183 := uT217
  a183 := Try.isAgg217
  z183 := Try.sizeOf217
  v183 := Try.zeroValue217
  t218 := uT224
  a218 := Try.isAgg224
  z218 := Try.sizeOf224
  v218 := Try.zeroValue224
  t222 := uT228
  a222 := Try.isAgg228
  z222 := Try.sizeOf228
  v222 := Try.zeroValue228
  t228 := uT230
  a228 := Try.isAgg230
  z228 := Try.sizeOf230
  v228 := Try.zeroValue230
  t229 := uT231
  a229 := Try.isAgg231
  z229 := Try.sizeOf231
  v229 := Try.zeroValue231 }
theorem sort_w {w : World} {M : Hp} {X : Fr} {v : Value} {xs : List Int} (hsz : xs.length < 4611686018427387904) (S : SH w M X [Rs.row U2 v xs]) :
    C1 Try.prog 143 [v] w M X fun u M' r' => u = .tuple #[] ∧ M' = M ∧ r' = Rs.row U2 v (srt xs) := c1_sort srtL hsz S
end Go.Proofs.Ytkcighnochjlgaa
