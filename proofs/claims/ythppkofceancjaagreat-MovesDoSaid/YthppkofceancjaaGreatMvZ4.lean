/- Part 4 of the proof of the law MovesDo: the walks through its functions and the plain laws that they need. -/
import Derived.Test.YthppkofceancjaaGreatMvZ3
set_option linter.unusedSimpArgs false
set_option linter.unusedVariables false
noncomputable section
namespace Go.Proofs.YthppkofceancjaaGreat
open Go.ChangeShapes Go.WideShapes Go.ChangeAt Go.RowKit
theorem SH.pubB {w : World} {M : Hp} {X : Fr} {H H' : List Rs} {i g : Nat} {T : TypeId} {l : List Value} (S : SH w M X H) (hi : nth H i = some (Rs.box g T l)) (hH : H.set i Rs.emp = H') : ∃ M', M.le M' ∧ SH w M' X H' ∧ BxM M' g T l := by
 obtain ⟨h1, h2, h3⟩ := S.pub hi hH
 refine ⟨_, h1, h2, ?_⟩
 show (M.put w _) g = _
 rw [h3 g (by simp [Rs.box])]
 exact S.get hi
theorem mk26 : MapK Tryz.prog 26 (fun x => Value.agg (cdDa.f x).toArray) := mapK_st se26 (fun x y => ⟨x.a = y.a ∧ x.b = y.b, ⟨_, _, _, _, rfl, rfl, ⟨_, _, rfl, rfl, rfl⟩, rfl⟩, ⟨fun h => by cases x; cases y; simp at h; simp [h], fun h => by rw [h]; exact ⟨rfl, rfl⟩⟩⟩) (fun k => by simp [Instr.sameBits, cdDa, daF])
def dA (c : Nat) : Da := ⟨((c / 2 : Nat) : Int), decide (c % 2 = 1)⟩
def dartN (k : Nat) : Da := dA (k + 2)
def encD (k : Nat) : Value := .agg (daF (dartN k)).toArray
def DartsR (g : Nat) (u : Value) (M : Hp) : Prop := ∃ b, u = .func (.func 164) #[] [.pointer (some ⟨b, 0, none⟩)].toArray ∧ BxM M b 64 [.pointer (some ⟨g, 0, none⟩)]
theorem dart_eq (a i : Nat) (hi : i < 2) : (Value.agg [.int .i64 ((a : Int) + 1), .bool (ga [false, true] i)].toArray) = encD (2 * a + i) := by
 have e : i = 0 ∨ i = 1 := by omega
 unfold encD dartN dA
 rcases e with rfl | rfl
 ·rw [show (2 * a + 0 + 2) / 2 = a + 1 by omega, show (2 * a + 0 + 2) % 2 = 0 by omega]; rfl
 ·rw [show (2 * a + 1 + 2) / 2 = a + 1 by omega, show (2 * a + 1 + 2) % 2 = 1 by omega]; rfl
noncomputable def Z1y:=Tryz.f107.body.getD .skip
def Z1z := cL Z1y
def Z20 := cR Z1y
def Z21 := cL Z20
def Z22 := cR Z20
set_option maxRecDepth 10000 in
theorem Darts_t {w : World} {M : Hp} {X : Fr} (d : Dg) {gsh : Nat} {cA iA oA : Option Addr} {cc ic oc : Nat} (hsb : BxM (M.un X.h) gsh 70 [.slice cA d.crs.length cc, .int .i64 d.loops, .slice iA (tabL d false (4 * d.crs.length)).length ic, .slice oA (tabL d true (4 * d.crs.length)).length oc]) (hsc : RdA cdCr (M.un X.h) cA cc d.crs) (hsi : RdA cdPl (M.un X.h) iA ic (tabL d false (4 * d.crs.length))) (hso : RdA cdPl (M.un X.h) oA oc (tabL d true (4 * d.crs.length))) (S : SH w M X []) : Ct Tryz.prog 107 [.pointer (some ⟨gsh, 0, none⟩)] w M X (DartsR gsh) := by
 unfold Ct
 refine Uo (b := Z1y) Tryz.func107 rfl Tryz.ntmps107 rfl (fun C hC => ?_)
 refine U14 [(0, _)] ⟨rfl, trivial⟩ ?_
 refine U2 Z1z Z20 rfl rfl rfl ?_
 refine U1 rfl ?_
 refine Us (k := 0) (k' := 1) rfl rfl rfl (U18 (l := [_]) rfl rfl rfl rfl rfl S ?_)
 intro gb1 w1 S1; clear S
 refine Us (k := 1) (k' := 2) rfl rfl rfl (Ub rfl rfl (run_assign rfl rfl) ?_)
 refine U5 rfl ?_
 refine U1a [(1, _)] ⟨rfl, trivial⟩ ?_
 refine U4 ?_
 refine U2 Z21 Z22 rfl rfl rfl ?_
 refine U1 rfl ?_
 refine Us (k := 0) (k' := 1) rfl rfl rfl (Ub rfl rfl (U2l (vs := [_]) rfl rfl rfl rfl) ?_)
 refine Us (k := 1) (k' := 2) rfl rfl rfl (Ub rfl rfl (run_assign rfl rfl) ?_)
 refine U5 rfl ?_
 refine U1a [(2, _)] ⟨rfl, trivial⟩ ?_
 refine U4 ?_
 obtain ⟨M1, hle1, S2, hbx1⟩ := S1.pubB (i := 0) (H' := [_]) rfl rfl
 clear S1
 replace hsb := hsb.mono (Hp.Ua hle1 S2.mx)
 replace hsc := hsc.mono (Hp.Ua hle1 S2.mx)
 replace hsi := hsi.mono (Hp.Ua hle1 S2.mx)
 replace hso := hso.mono (Hp.Ua hle1 S2.mx)
 refine Uk hC [_] rfl rfl ⟨rfl, trivial⟩ ?_
 refine ⟨_, rfl, _, hle1, (S2.pick [] [] (by decide) trivial), ?_⟩
 exact ⟨_, rfl, hbx1⟩
namespace InF
noncomputable def Z23:=Tryz.f164.body.getD .skip
def Z24 := cL Z23
def Z25 := cR Z23
def Z26 := cL Z25
def Z27 := cL Z26
def Z28 := cL Z27
def Z29 := cR Z27
def Z2a := cL Z28
def Z2b := cR Z28
def Z2c := cL Z2b
def Z2d := cR Z2b
def Z2e := cL Z29
def Z2f := cR Z29
def Z2g := cL Z2e
def Z2h := cL Z2g
def Z2i := cR Z2g
def Z2j := cL Z2i
def Z2k := cL Z2j
def Z2l := cL Z2k
def Z2m := cR Z2k
def Z2n := cL Z2m
def Z2o := cR Z2m
def Z2p := cL Z2n
def Z2q := cR Z2n
def Z2r := cL Z2o
def Z2s := cR Z2o
def Z2t := cL Z2r
def Z2u := cL Z2t
def Z2v := cR Z2t
def Z2w := cL Z2v
def Z2x := cR Z2v
def Z2y := cR Z2x
set_option maxRecDepth 10000 in
theorem Darts1_iter {M : Hp} {X : Fr} (d : Dg) {gsh : Nat} {cA iA oA : Option Addr} {cc ic oc : Nat} {b : Nat} (hsb : BxM (M.un X.h) gsh 70 [.slice cA d.crs.length cc, .int .i64 d.loops, .slice iA (tabL d false (4 * d.crs.length)).length ic, .slice oA (tabL d true (4 * d.crs.length)).length oc]) (hsc : RdA cdCr (M.un X.h) cA cc d.crs) (hsi : RdA cdPl (M.un X.h) iA ic (tabL d false (4 * d.crs.length))) (hso : RdA cdPl (M.un X.h) oA oc (tabL d true (4 * d.crs.length))) (hbx : BxM M b 64 [.pointer (some ⟨gsh, 0, none⟩)]) (hn : d.crs.length ≤ 16) : Iter Tryz.prog 164 [.pointer (some ⟨b, 0, none⟩)] encD (4 * d.crs.length) M X := by
 intro l J w M1 B hle0 hY S hJ0
 replace hsb := hsb.mono (Hp.Ua hle0 S.mx)
 replace hsc := hsc.mono (Hp.Ua hle0 S.mx)
 replace hsi := hsi.mono (Hp.Ua hle0 S.mx)
 replace hso := hso.mono (Hp.Ua hle0 S.mx)
 replace hbx := hbx.mono hle0
 refine Uo (b := Z23) Tryz.func164 rfl Tryz.ntmps164 rfl (fun C hCr hC => ?_)
 have hCF : C.F = Fence.wide := by unfold Ctx.F; rw [hCr]
 refine U14 [(0, _), (1, _)] ⟨rfl, rfl, trivial⟩ ?_
 refine U2 Z24 Z25 rfl rfl rfl ?_
 refine U1 rfl ?_
 refine Us (k := 0) (k' := 1) rfl rfl rfl (Ub rfl rfl (run_assign rfl rfl) ?_)
 refine U5 rfl ?_
 refine U4 ?_
 refine Uc Z26 0 rfl rfl rfl ?_
 refine U11 (fun mx_ ax_ wx_ => ∃ (a : Nat) (B1 : Rs) (M2 : Hp), M1.le M2 ∧ mx_ = 2 * d.crs.length - a ∧ Env 23 [(0, .func (.yield l) #[] #[]), (1, .pointer (some ⟨b, 0, none⟩)), (3, .int .i64 ((a : Int) + 1))] ax_ ∧ SH wx_ M2 X [B1] ∧ a ≤ 2 * d.crs.length ∧ J (2 * a) M2 B1) rfl ?_ ?_
 ·intro ax_ hax_
  refine ⟨_, ⟨0, _, _, Hp.le_refl _, rfl, hax_.sub ⟨rfl, rfl, rfl, trivial⟩, S.pick [0] [_] (by decide) ⟨rfl, trivial⟩, ?hq1f0, ?hq1f1⟩⟩
  case hq1f0 => omega
  case hq1f1 => exact hJ0
 ·rintro m1 a1 w1 ⟨a, B1, M2, hle1, rfl, he1, S1, ha, hJa⟩
  clear S
  refine U1u he1 (c := Z27) rfl ?_
  clear he1 a1
  replace hsb := hsb.mono (Hp.Ua hle1 S1.mx)
  replace hsc := hsc.mono (Hp.Ua hle1 S1.mx)
  replace hsi := hsi.mono (Hp.Ua hle1 S1.mx)
  replace hso := hso.mono (Hp.Ua hle1 S1.mx)
  replace hbx := hbx.mono hle1
  refine U2 Z28 Z29 rfl rfl rfl ?_
  refine U2 Z2a Z2b rfl rfl rfl ?_
  refine U1 rfl ?_
  refine Us (k := 0) (k' := 1) rfl rfl rfl (Ub rfl rfl (run_move rfl rfl) ?_)
  refine Us (k := 1) (k' := 2) rfl rfl rfl (Ub rfl rfl (U3 rfl rfl uT64 rfl (hbx.cell S1.m rfl)) ?_)
  refine Us (k := 2) (k' := 3) rfl rfl rfl (U20 rfl rfl rfl rfl rfl rfl rfl cf111 S1 (Arcs_q d  (hsb.mono S1.Uw) (hsc.mono S1.Uw) (hsi.mono S1.Uw) (hso.mono S1.Uw) (by omega) S1.lend) ?_)
  rintro _ w2 S2 rfl; clear S1
  refine Us (k := 3) (k' := 4) rfl rfl rfl (Ub rfl rfl (U41 rfl rfl rfl) ?_)
  refine U5 rfl ?_
  refine U1a [(0, _), (1, _), (3, _), (9, _)] ⟨rfl, rfl, rfl, rfl, trivial⟩ ?_
  refine U4 ?_
  refine U19 Z2c Z2d rfl rfl rfl rfl (fun hb9 => ?_) (fun hb9 => ?_)
  ·replace hb9 := of_decide_eq_true hb9
   refine Uf rfl ?_
   refine U1a [(0, _), (1, _), (3, _)] ⟨rfl, rfl, rfl, trivial⟩ ?_
   refine U4 ?_
   refine U2 Z2e Z2f rfl rfl rfl ?_
   refine Uc Z2g 1 rfl rfl rfl ?_
   refine U2 Z2h Z2i rfl rfl rfl ?_
   refine U1 rfl ?_
   refine Us (k := 0) (k' := 1) rfl rfl rfl (Ub rfl rfl (U1n (l := [_, _]) (pl := [(0, 1), (1, 1)]) rfl rfl uT249 zr249 sz4 rfl rfl rfl) ?_)
   refine Us (k := 1) (k' := 2) rfl rfl rfl (Ub rfl rfl (run_move rfl rfl) ?_)
   refine U5 rfl ?_
   refine U4 ?_
   refine Uc Z2j 2 rfl rfl rfl ?_
   refine U11 (fun mx_ ax_ wx_ => ∃ (i : Nat) (B2 : Rs) (M3 : Hp), M2.le M3 ∧ mx_ = 2 - i ∧ Env 23 [(0, .func (.yield l) #[] #[]), (1, .pointer (some ⟨b, 0, none⟩)), (3, .int .i64 ((a : Int) + 1)), (12, .agg [.bool false, .bool true].toArray), (13, .int .i64 (i : Int))] ax_ ∧ SH wx_ M3 X [B2] ∧ i ≤ 2 ∧ J (2 * a + i) M3 B2) rfl ?_ ?_
   ·intro ax_ hax_
    refine ⟨_, ⟨0, _, _, Hp.le_refl _, rfl, hax_.sub ⟨rfl, rfl, rfl, rfl, rfl, trivial⟩, S2.pick [0] [_] (by decide) ⟨rfl, trivial⟩, ?hq2f0, ?hq2f1⟩⟩
    case hq2f0 => omega
    case hq2f1 => exact hJa
   ·rintro m2 a2 w3 ⟨i, B2, M3, hle2, rfl, he2, S3, hi, hJi⟩
    clear S2
    refine U1u he2 (c := Z2k) rfl ?_
    clear he2 a2
    replace hsb := hsb.mono (Hp.Ua hle2 S3.mx)
    replace hsc := hsc.mono (Hp.Ua hle2 S3.mx)
    replace hsi := hsi.mono (Hp.Ua hle2 S3.mx)
    replace hso := hso.mono (Hp.Ua hle2 S3.mx)
    replace hbx := hbx.mono hle2
    refine U2 Z2l Z2m rfl rfl rfl ?_
    refine U1 rfl ?_
    refine Us (k := 0) (k' := 1) rfl rfl rfl (Ub rfl rfl (U17 rfl rfl rfl) ?_)
    refine U5 rfl ?_
    refine U4 ?_
    refine U2 Z2n Z2o rfl rfl rfl ?_
    refine U19 Z2p Z2q rfl rfl rfl rfl (fun hb14 => ?_) (fun hb14 => ?_)
    ·replace hb14 := of_decide_eq_true hb14
     refine Uf rfl ?_
     refine U1a [(0, _), (1, _), (3, _), (12, _), (13, _)] ⟨rfl, rfl, rfl, rfl, rfl, trivial⟩ ?_
     refine U4 ?_
     refine U2 Z2r Z2s rfl rfl rfl ?_
     refine Uc Z2t 3 rfl rfl rfl ?_
     refine U2 Z2u Z2v rfl rfl rfl ?_
     refine U1 rfl ?_
     refine Us (k := 0) (k' := 1) rfl rfl rfl (Ub rfl rfl (U3i (e := i) rfl rfl rfl uT249 uT4 rfl sz4 (by first | rfl | omega) (by first | omega | (simp only [ls]; omega)) (nth_bv [false, true] i (by simp; first | omega | (simp only [ls]; omega)))) ?_)
     refine Us (k := 1) (k' := 2) rfl rfl rfl (Ub rfl rfl (run_assign rfl rfl) ?_)
     refine U5 rfl ?_
     refine U1a [(0, _), (1, _), (3, _), (12, _), (13, _), (5, _)] ⟨rfl, rfl, rfl, rfl, rfl, rfl, trivial⟩ ?_
     refine U4 ?_
     refine U2 Z2w Z2x rfl rfl rfl ?_
     refine U1 rfl ?_
     refine Us (k := 0) (k' := 1) rfl rfl rfl (Ub rfl rfl (run_move rfl rfl) ?_)
     refine Us (k := 1) (k' := 2) rfl rfl rfl (Ub rfl rfl (run_move rfl rfl) ?_)
     refine Us (k := 2) (k' := 3) rfl rfl rfl (Ub rfl rfl (run_move rfl rfl) ?_)
     refine Us (k := 3) (k' := 4) rfl rfl rfl (Ub rfl rfl (run_build (l := [_, _]) rfl rfl st26 rfl rfl) ?_)
     have hlt4 : 2 * a + i < 4 * d.crs.length := by omega
     refine wl_yield (k := 4) (k' := 5) rfl rfl rfl rfl rfl rfl rfl rfl rfl rfl (by rw [hCF]; have h9 := hY (2 * a + i) _ _ _ (by omega) (hle1.trans hle2) S3 hJi; rw [← dart_eq a i (by omega)] at h9; exact h9) ?_
     rintro _ w4 ⟨rfl, M4, B6, hle3, S4, hJ1⟩; clear S3
     replace hsb := hsb.mono (Hp.Ua hle3 S4.mx)
     replace hsc := hsc.mono (Hp.Ua hle3 S4.mx)
     replace hsi := hsi.mono (Hp.Ua hle3 S4.mx)
     replace hso := hso.mono (Hp.Ua hle3 S4.mx)
     replace hbx := hbx.mono hle3
     refine Us (k := 5) (k' := 6) rfl rfl rfl (Ub rfl rfl (U1j rfl rfl) ?_)
     refine U5 rfl ?_
     refine U1a [(0, _), (1, _), (3, _), (12, _), (13, _), (21, _)] ⟨rfl, rfl, rfl, rfl, rfl, rfl, trivial⟩ ?_
     refine U4 ?_
     refine U2c Z2y rfl rfl rfl ?_
     refine Uf rfl ?_
     refine U12 ?_
     refine U1a [(0, _), (1, _), (3, _), (12, _), (13, _)] ⟨rfl, rfl, rfl, rfl, rfl, trivial⟩ ?_
     refine U4 ?_
     refine U1 rfl ?_
     refine Us (k := 0) (k' := 1) rfl rfl rfl (Ub rfl rfl (Ug rfl rfl rfl (by first | omega | (simp only [ls]; omega))) ?_)
     refine Us (k := 1) (k' := 2) rfl rfl rfl (Ub rfl rfl (run_move rfl rfl) ?_)
     refine U5 rfl ?_
     refine U15 ?_
     intro ax_ hax_
     refine ⟨_, ?hq3m, ⟨i + 1, _, _, (hle2.trans hle3), rfl, hax_.sub ⟨rfl, rfl, rfl, rfl, rfl, trivial⟩, S4.pick [0] [_] (by decide) ⟨rfl, trivial⟩, ?hq3f0, ?hq3f1⟩⟩
     case hq3f0 => omega
     case hq3f1 => first | assumption | (rw [show 2 * a + (i + 1) = 2 * a + i + 1 by omega]; assumption)
     case hq3m => omega
    ·replace hb14 := of_decide_eq_false hb14
     refine U16 rfl rfl ?_
     refine U12 ?_
     refine U1a [(0, _), (1, _), (3, _)] ⟨rfl, rfl, rfl, trivial⟩ ?_
     refine U4 ?_
     refine U1 rfl ?_
     refine Us (k := 0) (k' := 1) rfl rfl rfl (Ub rfl rfl (run_move rfl rfl) ?_)
     refine Us (k := 1) (k' := 2) rfl rfl rfl (Ub rfl rfl (Ug rfl rfl rfl (by first | omega | (simp only [ls]; omega))) ?_)
     refine Us (k := 2) (k' := 3) rfl rfl rfl (Ub rfl rfl (run_assign rfl rfl) ?_)
     refine U5 rfl ?_
     refine U15 ?_
     intro ax_ hax_
     refine ⟨_, ?hq4m, ⟨a + 1, _, _, (hle1.trans hle2), rfl, hax_.sub ⟨rfl, rfl, rfl, trivial⟩, S3.pick [0] [_] (by decide) ⟨rfl, trivial⟩, ?hq4f0, ?hq4f1⟩⟩
     case hq4f0 => omega
     case hq4f1 => (rw [show 2 * (a + 1) = 2 * a + i by omega]; exact hJi)
     case hq4m => omega
  ·replace hb9 := of_decide_eq_false hb9
   refine U16 rfl rfl ?_
   refine U2j hC [] rfl trivial ?_
   refine ⟨⟨_, rfl⟩, _, _, hle1, S2, ?_⟩
   rw [show 4 * d.crs.length = 2 * a by omega]
   exact hJa
end InF
end Go.Proofs.YthppkofceancjaaGreat
namespace Go.Proofs.YthppkofceancjaaGreat
open Go.RowKit
def free (seen : List Bool) : Nat := seen.countP (fun b => !b)
theorem U2s {seen : List Bool} {x : Nat} (h : x < seen.length) (hx : ga seen x = false) : free (seen.set x true) + 1 = free seen := by
  induction seen generalizing x with
  | nil => simp at h
  | cons b seen ih =>
    cases x with
    | zero =>
      have : b = false := by simpa [ga] using hx
      subst this
      simp [free]
    | succ x =>
      have h1 : ga (b :: seen) (x + 1) = ga seen x := by simp [ga]
      rw [h1] at hx
      have h2 := ih (by simpa using h) hx
      unfold free at *
      rw [List.set_cons_succ, List.countP_cons, List.countP_cons]
      omega
def U2z (nx : Nat → Nat) (seen : List Bool) (x : Nat) (acc : List Int) : List Bool × List Int :=
  if _h : x < seen.length ∧ ga seen x = false then U2z nx (seen.set x true) (nx x) (acc ++ [(x : Int)]) else (seen, acc)
termination_by free seen
decreasing_by have := U2s _h.1 _h.2; omega
theorem U3u {nx : Nat → Nat} {seen : List Bool} {x : Nat} {acc : List Int} (h : x < seen.length) (hx : ga seen x = false) : U2z nx seen x acc = U2z nx (seen.set x true) (nx x) (acc ++ [(x : Int)]) := by
  rw [U2z]; simp [h, hx]
theorem ringF_stop {nx : Nat → Nat} {seen : List Bool} {x : Nat} {acc : List Int} (hx : ga seen x = true) : U2z nx seen x acc = (seen, acc) := by
  rw [U2z]; simp [hx]
theorem ringF_len (nx : Nat → Nat) (seen : List Bool) (x : Nat) (acc : List Int) : (U2z nx seen x acc).1.length = seen.length := by
  induction hk : free seen using Nat.strongRecOn generalizing seen x acc with
  | _ k ih =>
    by_cases h : x < seen.length ∧ ga seen x = false
    · rw [U3u h.1 h.2]
      have := U2s h.1 h.2
      rw [ih (free (seen.set x true)) (by omega) _ _ _ rfl, List.length_set]
    · rw [U2z]; simp [h]
end Go.Proofs.YthppkofceancjaaGreat
namespace Go.Proofs.YthppkofceancjaaGreat
open Go.ChangeShapes Go.WideShapes Go.ChangeAt Go.RowKit
def dcN (x : Da) : Nat := (2 * x.a + (if x.b = true then 1 else 0)).toNat
theorem dA_dcN {x : Da} (h : 0 ≤ x.a) : dA (dcN x) = x := by
 obtain ⟨a, b⟩ := x
 simp only at h
 unfold dA dcN
 cases b
 ·simp only [Bool.false_eq_true, if_false, Int.add_zero]
  congr 1
  ·omega
  ·rw [decide_eq_false_iff_not]; omega
 ·simp only [if_true]
  congr 1
  ·omega
  ·rw [decide_eq_true_iff]; omega
theorem dcN_dA (c : Nat) : dcN (dA c) = c := by
 unfold dcN dA
 by_cases h : c % 2 = 1
 ·simp only [h, decide_true, if_true]; omega
 ·simp only [h, decide_false, Bool.false_eq_true, if_false]; omega
theorem dA_inj {c e : Nat} (h : dA c = dA e) : c = e := by rw [← dcN_dA c, h, dcN_dA]
theorem dA_ok {d : Dg} {c : Nat} (h : 2 ≤ c ∧ c < 4 * d.crs.length + 2) : okD d (dA c) := by
 show 1 ≤ ((c / 2 : Nat) : Int) ∧ ((c / 2 : Nat) : Int) ≤ 2 * (d.crs.length : Int)
 omega
def nxC (d : Dg) (c : Nat) : Nat := dcN (leftD d (dA c))
theorem dcN_rng {d : Dg} {x : Da} (h : okD d x) : 2 ≤ dcN x ∧ dcN x < 4 * d.crs.length + 2 := by
 unfold okD at h
 unfold dcN
 split <;> omega
theorem nxC_rng {d : Dg} (hab : U1b d = true) {c : Nat} (h : 2 ≤ c ∧ c < 4 * d.crs.length + 2) : 2 ≤ nxC d c ∧ nxC d c < 4 * d.crs.length + 2 := dcN_rng (leftD_ok hab (dA_ok h))
theorem dA_nxC {d : Dg} (hab : U1b d = true) {c : Nat} (h : 2 ≤ c ∧ c < 4 * d.crs.length + 2) : dA (nxC d c) = leftD d (dA c) := dA_dcN (by have := leftD_ok hab (dA_ok h); unfold okD at this; omega)
def U1w (d : Dg) : Nat → List Bool × List (List Int)
 | 0 => (List.replicate (4 * d.crs.length + 2) false, [])
 | k + 1 =>
  let s := U1w d k
  if ga s.1 (k + 2) = true then s else ((U2z (nxC d) s.1 (k + 2) []).1, s.2 ++ [(U2z (nxC d) s.1 (k + 2) []).2])
theorem U2n {d : Dg} {k : Nat} {s : List Bool × List (List Int)} (h : U1w d k = s) (hg : ga s.1 (k + 2) = true) : U1w d (k + 1) = s := by
 subst h
 show (if _ then _ else _) = _
 rw [if_pos hg]
theorem U2o {d : Dg} {k : Nat} {s : List Bool × List (List Int)} {r : List Bool × List Int} (h : U1w d k = s) (hg : ga s.1 (k + 2) = false) (hr : U2z (nxC d) s.1 (k + 2) [] = r) : U1w d (k + 1) = (r.1, s.2 ++ [r.2]) := by
 subst h; subst hr
 show (if _ then _ else _) = _
 rw [if_neg (by rw [hg]; exact Bool.false_ne_true)]
theorem U45 (d : Dg) (k : Nat) : (U1w d k).1.length = 4 * d.crs.length + 2 := by
 induction k with
 | zero => simp [U1w]
 | succ k ih =>
  cases hg : ga (U1w d k).1 (k + 2) with
  | true => rw [U2n rfl hg]; exact ih
  | false => rw [U2o rfl hg rfl, ringF_len]; exact ih
theorem facesN_many (d : Dg) (k : Nat) : (U1w d k).2.length ≤ k := by
 induction k with
 | zero => simp [U1w]
 | succ k ih =>
  cases hg : ga (U1w d k).1 (k + 2) with
  | true => rw [U2n rfl hg]; omega
  | false => rw [U2o rfl hg rfl]; simp; omega
def dasL (r : List Int) : List Da := r.map fun c => dA c.toNat
theorem dasL_snoc (r : List Int) (c : Nat) : dasL (r ++ [(c : Int)]) = dasL r ++ [dA c] := by unfold dasL; rw [List.map_append]; rfl
def facesD (d : Dg) (k : Nat) : List (List Da) := (U1w d k).2.map dasL
def U6 (d : Dg) : List (List Da) := facesD d (4 * d.crs.length)
def SeenM (d : Dg) (es : List (Da × Bool)) (seen : List Bool) : Prop := ∀ c, 2 ≤ c → c < 4 * d.crs.length + 2 → (mg (dA c) es).getD false = ga seen c
theorem SeenM.nil_ (d : Dg) : SeenM d [] (List.replicate (4 * d.crs.length + 2) false) := fun c _ hc => by rw [ga_rep _ _ _ hc]; rfl
theorem SeenM.put {d : Dg} {es : List (Da × Bool)} {seen : List Bool} (h : SeenM d es seen) {c : Nat} (hc : c < seen.length) : SeenM d (mp (dA c) true es) (seen.set c true) := fun e h1 h2 => by
 rw [mg_mp, U1y _ _ _ _ hc]
 by_cases he : c = e
 ·subst he; rw [if_pos rfl, if_pos rfl]; rfl
 ·rw [if_neg (fun e' => he (dA_inj e').symm), if_neg he]; exact h e h1 h2
def rfA : Code → Code
 | .rangeFunc _ _ a _ => a
 | c => c
def rfB : Code → Code
 | .rangeFunc _ _ _ b => b
 | c => c
def FacesI (d : Dg) (gsh g1 g3 g4 gm k : Nat) (M : Hp) (H : List Rs) : Prop := ∃ es vs outv seen outc,
 H = [Rs.mp (fun x => Value.agg (cdDa.f x).toArray) Value.bool gm es, Rs.box g4 65 [outv], Rs.row (cdV 141) outv vs, Rs.box g3 192 [.map (some gm)], Rs.box g1 64 [.pointer (some ⟨gsh, 0, none⟩)]] ∧ Rd2 cdDa M vs (outc.map dasL) ∧ U1w d k = (seen, outc) ∧ SeenM d es seen
def FacesI1 (d : Dg) (gsh g1 g3 g4 gm k : Nat) (a : Act) (M : Hp) (H : List Rs) : Prop := ∃ g5 H', Env 35 [(1, .pointer (some ⟨g1, 0, none⟩)), (3, .pointer (some ⟨g3, 0, none⟩)), (4, .pointer (some ⟨g4, 0, none⟩)), (5, .pointer (some ⟨g5, 0, none⟩))] a ∧ H = Rs.box g5 26 [.int .i64 (dartN k).a, .bool (dartN k).b] :: H' ∧ FacesI d gsh g1 g3 g4 gm k M H'
noncomputable def Faces_rf : Code := cL (cR (cL (cR (cR (cR (Tryz.f66.body.getD .skip))))))
namespace InF
set_option maxRecDepth 10000 in
theorem Faces_assign {w : World} {M : Hp} {X : Fr} {d : Dg} {gsh gq1 gq3 gq4 gm k : Nat} {C : Ctx} {R0 : Rs} {H : List Rs} {L : List (Nat × Value)} (hL : Sub L [(1, .pointer (some ⟨gq1, 0, none⟩)), (3, .pointer (some ⟨gq3, 0, none⟩)), (4, .pointer (some ⟨gq4, 0, none⟩)), (11, encD k)]) (S : SH w M X (R0 :: H)) (hI : FacesI d gsh gq1 gq3 gq4 gm k M H) :
  WS Tryz.prog 35 C (rfA Faces_rf) [.lp (fun a w2 => ∃ M2 H2, M.le M2 ∧ SH w2 M2 X (R0 :: H2) ∧ FacesI1 d gsh gq1 gq3 gq4 gm k a M2 H2)] L w := by
 obtain ⟨es, vs, vrout, seen, outc, rfl, hdo, hfn, hse⟩ := hI
 change SH w M X [R0, Rs.mp (fun x => Value.agg (cdDa.f x).toArray) Value.bool gm es, _, Rs.row (cdV 141) vrout vs, _, _] at S
 refine U14 _ hL ?_
 refine U1 rfl ?_
 refine Us (k := 0) (k' := 1) rfl rfl rfl (Uh (l := [_, _]) rfl rfl rfl zr26 rfl S ?_)
 intro gb1 w1 S1; clear S
 refine Us (k := 1) (k' := 2) rfl rfl rfl (U7 (i := 0) (us := [_, _]) (l' := [_, _]) (H' := [_, _, _, _, _, _, _]) rfl rfl S1 rfl rfl rfl rfl sz26 rfl rfl rfl rfl ?_)
 intro w2 S2; clear S1
 refine U5 rfl ?_
 refine U15 ?_
 intro ax_ hax_
 exact ⟨M, _, Hp.le_refl _, S2.pick [1, 0, 2, 3, 4, 5, 6] [_, _, _, _, _, _, _] (by decide) ⟨rfl, rfl, rfl, rfl, rfl, rfl, rfl, trivial⟩, _, _, hax_.sub ⟨rfl, rfl, rfl, rfl, trivial⟩, rfl, es, vs, vrout, seen, outc, rfl, hdo, hfn, hse⟩
def Z2z := rfB Faces_rf
def Z30 := cL Z2z
def Z31 := cL Z30
def Z32 := cR Z30
def Z33 := cL Z31
def Z34 := cR Z31
def Z35 := cL Z34
def Z36 := cR Z34
def Z37 := cL Z32
def Z38 := cR Z32
def Z39 := cL Z38
def Z3a := cR Z38
def Z3b := cL Z39
def Z3c := cR Z39
def Z3d := cL Z3c
def Z3e := cL Z3d
def Z3f := cL Z3e
def Z3g := cR Z3e
def Z3h := cL Z3f
def Z3i := cR Z3f
def Z3j := cL Z3i
def Z3k := cR Z3i
def Z3l := cL Z3g
def Z3m := cR Z3g
def Z3n := cL Z3l
def Z3o := cL Z3n
def Z3p := cR Z3n
def Z3q := cL Z3m
def Z3r := cR Z3m
def Z3s := cL Z3q
def Z3t := cR Z3q
set_option maxHeartbeats 1000000 in
set_option maxRecDepth 10000 in
theorem Faces_body {w : World} {M : Hp} {X : Fr} (d : Dg) {gsh gq1 gq3 gq4 gm k : Nat} {cA iA oA : Option Addr} {cc ic oc : Nat} (hsb : BxM (M.un X.h) gsh 70 [.slice cA d.crs.length cc, .int .i64 d.loops, .slice iA (tabL d false (4 * d.crs.length)).length ic, .slice oA (tabL d true (4 * d.crs.length)).length oc]) (hsc : RdA cdCr (M.un X.h) cA cc d.crs) (hsi : RdA cdPl (M.un X.h) iA ic (tabL d false (4 * d.crs.length))) (hso : RdA cdPl (M.un X.h) oA oc (tabL d true (4 * d.crs.length))) (hn : d.crs.length ≤ 16) (hab : U1b d = true) (hk : k < 4 * d.crs.length) {C : Ctx} {R0 : Rs} {H : List Rs} {a : Act} (S : SH w M X (R0 :: H)) (hI1 : FacesI1 d gsh gq1 gq3 gq4 gm k a M H) :
  (rfB Faces_rf).wpIn C.F 0 Tryz.prog (post Tryz.prog C [.lp (fun _ w2 => ∃ M2 H2, M.le M2 ∧ SH w2 M2 X (R0 :: H2) ∧ FacesI d gsh gq1 gq3 gq4 gm (k + 1) M2 H2)]) a w := by
 obtain ⟨gq5, H1, ha, rfl, es, vs, vrout, seen, outc, rfl, hdo, hfn, hse⟩ := hI1
 change SH w M X [R0, Rs.box gq5 _ _, Rs.mp (fun x => Value.agg (cdDa.f x).toArray) Value.bool gm es, _, Rs.row (cdV 141) vrout vs, _, _] at S
 have hdn : okD d (dartN k) := dA_ok (by omega)
 have hvs := hdo.1
 have hmany := facesN_many d k
 rw [hfn] at hmany
 replace hmany : outc.length ≤ k := hmany
 rw [List.length_map] at hvs
 refine U1u ha (c := rfB Faces_rf) rfl ?_
 refine Uc Z30 1 rfl rfl rfl ?_
 refine U2 Z31 Z32 rfl rfl rfl ?_
 refine U2 Z33 Z34 rfl rfl rfl ?_
 refine U1 rfl ?_
 refine Us (k := 0) (k' := 1) rfl rfl rfl (Ub rfl rfl (U3 rfl rfl uT192 rfl (S.boxc (i := 5) rfl rfl)) ?_)
 refine Us (k := 1) (k' := 2) rfl rfl rfl (Ub rfl rfl (U8 (us := [_, _]) rfl rfl uT26 rfl sz26 (S.boxcs (i := 1) rfl ⟨rfl, rfl, trivial⟩)) ?_)
 refine Us (k := 2) (k' := 3) rfl rfl rfl (Ub rfl rfl (U3h (kc := (fun x => Value.agg (cdDa.f x).toArray)) (vc := Value.bool) (es := es) (k := (dartN k)) (zv := false) (i := 2) rfl rfl rfl uT192 mk26 zr4 S rfl) ?_)
 refine U5 rfl ?_
 refine U1a [(1, _), (3, _), (4, _), (5, _), (14, _)] ⟨rfl, rfl, rfl, rfl, rfl, trivial⟩ ?_
 refine U4 ?_
 refine U19 Z35 Z36 rfl rfl rfl rfl (fun hb14 => ?_) (fun hb14 => ?_)
 ·refine U16 rfl rfl ?_
  refine U15 ?_
  intro ax_ hax_
  exact ⟨_, _, Hp.le_refl _, S.pick [0, 2, 3, 4, 5, 6] [_, _, _, _, _, _] (by decide) ⟨rfl, rfl, rfl, rfl, rfl, rfl, trivial⟩, es, vs, vrout, seen, outc, rfl, hdo, U2n hfn (by rw [← hse (k + 2) (by omega) (by omega)]; exact hb14), hse⟩
 ·refine Uf rfl ?_
  refine U1a [(1, _), (3, _), (4, _), (5, _)] ⟨rfl, rfl, rfl, rfl, trivial⟩ ?_
  refine U4 ?_
  refine U2 Z37 Z38 rfl rfl rfl ?_
  refine U1 rfl ?_
  refine Us (k := 0) (k' := 1) rfl rfl rfl (Ub rfl rfl (run_assign rfl rfl) ?_)
  refine U5 rfl ?_
  refine U4 ?_
  refine U2 Z39 Z3a rfl rfl rfl ?_
  refine U2 Z3b Z3c rfl rfl rfl ?_
  refine U1 rfl ?_
  refine Us (k := 0) (k' := 1) rfl rfl rfl (Ub rfl rfl (U8 (us := [_, _]) rfl rfl uT26 rfl sz26 (S.boxcs (i := 1) rfl ⟨rfl, rfl, trivial⟩)) ?_)
  refine Us (k := 1) (k' := 2) rfl rfl rfl (Uh (l := [_, _]) rfl rfl rfl zr26 rfl S ?_)
  intro gb1 w1 S1; clear S
  refine Us (k := 2) (k' := 3) rfl rfl rfl (U7 (i := 0) (us := [_, _]) (l' := [_, _]) (H' := [_, _, _, _, _, _, _, _]) rfl rfl S1 rfl rfl rfl rfl sz26 rfl rfl rfl rfl ?_)
  intro w2 S2; clear S1
  refine U5 rfl ?_
  refine U1a [(1, _), (3, _), (4, _), (6, _), (7, _)] ⟨rfl, rfl, rfl, rfl, rfl, trivial⟩ ?_
  refine U4 ?_
  refine Uc Z3d 2 rfl rfl rfl ?_
  have S3 := S2.nilrow cdDa; clear S2
  refine U11 (fun mx_ ax_ wx_ => ∃ (es2 : List (Da × Bool)) (seen2 : List Bool) (x : Nat) (y : Da) (acc : List Int) (ringt : List Da) (vring : Value) (gbx : Nat), mx_ = free seen2 ∧ Env 35 [(1, .pointer (some ⟨gq1, 0, none⟩)), (3, .pointer (some ⟨gq3, 0, none⟩)), (4, .pointer (some ⟨gq4, 0, none⟩)), (6, vring), (7, .pointer (some ⟨gbx, 0, none⟩))] ax_ ∧ SH wx_ M X [Rs.row cdDa vring ringt, Rs.box gbx 26 [.int .i64 y.a, .bool y.b], R0, Rs.mp (fun x => Value.agg (cdDa.f x).toArray) Value.bool gm es2, Rs.box gq4 65 [vrout], Rs.row (cdV 141) vrout vs, Rs.box gq3 192 [.map (some gm)], Rs.box gq1 64 [.pointer (some ⟨gsh, 0, none⟩)]] ∧ U2z (nxC d) seen (k + 2) [] = U2z (nxC d) seen2 x acc ∧ ringt = dasL acc ∧ SeenM d es2 seen2 ∧ (2 ≤ x ∧ x < 4 * d.crs.length + 2) ∧ seen2.length = 4 * d.crs.length + 2 ∧ y = dA x ∧ acc.length + free seen2 ≤ 100) rfl ?_ ?_
  ·intro ax_ hax_
   refine ⟨_, ⟨es, seen, k + 2, dartN k, [], _, _, _, rfl, hax_.sub ⟨rfl, rfl, rfl, rfl, rfl, trivial⟩, S3.pick [0, 1, 2, 4, 5, 6, 7, 8] [_, _, _, _, _, _, _, _] (by decide) ⟨rfl, rfl, rfl, rfl, rfl, rfl, rfl, rfl, trivial⟩, ?hq1f0, ?hq1f1, ?hq1f2, ?hq1f3, ?hq1f4, ?hq1f5, ?hq1f6⟩⟩
   case hq1f0 => rfl
   case hq1f1 => rfl
   case hq1f2 => exact hse
   case hq1f3 => omega
   case hq1f4 => (have h9 := U45 d k; rw [hfn] at h9; exact h9)
   case hq1f5 => rfl
   case hq1f6 => (have h9 := U45 d k; rw [hfn] at h9; have h8 : free seen ≤ seen.length := List.countP_le_length; simp only [List.length_nil]; simp only at h9; omega)
  ·rintro m1 a1 w3 ⟨es2, seen2, x, y, acc, ringt, vring, gbx, rfl, he1, S4, hrg, hring, hse2, hx, hs2, hy, hroom⟩
   clear S3
   refine U1u he1 (c := Z3e) rfl ?_
   clear he1 a1
   have hyk : okD d y := by rw [hy]; exact dA_ok hx
   have hrl : ringt.length = acc.length := by rw [hring]; simp [dasL]
   have hgs := hse2 x hx.1 hx.2
   refine U2 Z3f Z3g rfl rfl rfl ?_
   refine U2 Z3h Z3i rfl rfl rfl ?_
   refine U1 rfl ?_
   refine Us (k := 0) (k' := 1) rfl rfl rfl (Ub rfl rfl (U3 rfl rfl uT192 rfl (S4.boxc (i := 6) rfl rfl)) ?_)
   refine Us (k := 1) (k' := 2) rfl rfl rfl (Ub rfl rfl (U8 (us := [_, _]) rfl rfl uT26 rfl sz26 (S4.boxcs (i := 1) rfl ⟨rfl, rfl, trivial⟩)) ?_)
   refine Us (k := 2) (k' := 3) rfl rfl rfl (Ub rfl rfl (U3h (kc := (fun x => Value.agg (cdDa.f x).toArray)) (vc := Value.bool) (es := es2) (k := y) (zv := false) (i := 3) rfl rfl rfl uT192 mk26 zr4 S4 rfl) ?_)
   refine Us (k := 3) (k' := 4) rfl rfl rfl (Ub rfl rfl (U1j rfl rfl) ?_)
   refine U5 rfl ?_
   refine U1a [(1, _), (3, _), (4, _), (6, _), (7, _), (19, _)] ⟨rfl, rfl, rfl, rfl, rfl, rfl, trivial⟩ ?_
   refine U4 ?_
   refine U19 Z3j Z3k rfl rfl rfl rfl (fun hb19 => ?_) (fun hb19 => ?_)
   ·simp only [Bool.and_eq_true, Bool.or_eq_true, Bool.and_eq_false_iff, Bool.or_eq_false_iff, decide_eq_true_eq, decide_eq_false_iff_not, Bool.not_eq_true', Bool.not_eq_false'] at hb19
    refine Uf rfl ?_
    refine U1a [(1, _), (3, _), (4, _), (6, _), (7, _)] ⟨rfl, rfl, rfl, rfl, rfl, trivial⟩ ?_
    refine U4 ?_
    refine U2 Z3l Z3m rfl rfl rfl ?_
    refine Uc Z3n 3 rfl rfl rfl ?_
    refine U2 Z3o Z3p rfl rfl rfl ?_
    refine U1 rfl ?_
    refine Us (k := 0) (k' := 1) rfl rfl rfl (Ub rfl rfl (U3 rfl rfl uT192 rfl (S4.boxc (i := 6) rfl rfl)) ?_)
    refine Us (k := 1) (k' := 2) rfl rfl rfl (Ub rfl rfl (U8 (us := [_, _]) rfl rfl uT26 rfl sz26 (S4.boxcs (i := 1) rfl ⟨rfl, rfl, trivial⟩)) ?_)
    refine Us (k := 2) (k' := 3) rfl rfl rfl (U1s (kc := (fun x => Value.agg (cdDa.f x).toArray)) (vc := Value.bool) (es := es2) (k := y) (e := true) (i := 3) (H' := [_, _, _, _, _, _, _, _]) (.inl rfl) rfl S4 rfl rfl rfl rfl uT192 mk26 rfl ?_)
    intro w4 S5; clear S4
    refine U5 rfl ?_
    refine U1a [(1, _), (3, _), (4, _), (6, _), (7, _)] ⟨rfl, rfl, rfl, rfl, rfl, trivial⟩ ?_
    refine U4 ?_
    refine U1 rfl ?_
    refine Us (k := 0) (k' := 1) rfl rfl rfl (Ub rfl rfl (run_move rfl rfl) ?_)
    refine Us (k := 1) (k' := 2) rfl rfl rfl (Ub rfl rfl (U8 (us := [_, _]) rfl rfl uT26 rfl sz26 (S5.boxcs (i := 1) rfl ⟨rfl, rfl, trivial⟩)) ?_)
    refine Us (k := 2) (k' := 3) rfl rfl rfl (U13 (C := cdDa) (l := [_, _]) rfl rfl rfl rfl sl141 rfl rfl rfl rfl S5 ?_)
    intro gb2 w5 S6; clear S5
    refine Us (k := 3) (k' := 4) rfl rfl rfl (U1l (C := cdDa) (i := 1) (q := 0) (⟨y.a, y.b⟩ : Da) rfl rfl rfl rfl rfl rfl rfl rfl sl141 S6 rfl rfl rfl (by show (_ + 1) * 16 ≤ _; first | omega | (simp only [ls]; omega)) ?_)
    intro vring1 w6 S7; clear S6
    have S8 := S7.pick [1, 2, 3, 4, 5, 6, 7, 8] [_, _, _, _, _, _, _, _] (by decide) ⟨rfl, rfl, rfl, rfl, rfl, rfl, rfl, rfl, trivial⟩; clear S7
    refine Us (k := 4) (k' := 5) rfl rfl rfl (Ub rfl rfl (run_assign rfl rfl) ?_)
    refine U5 rfl ?_
    refine U12 ?_
    refine U1a [(1, _), (3, _), (4, _), (6, _), (7, _)] ⟨rfl, rfl, rfl, rfl, rfl, trivial⟩ ?_
    refine U4 ?_
    refine U2 Z3q Z3r rfl rfl rfl ?_
    refine U2 Z3s Z3t rfl rfl rfl ?_
    refine U1 rfl ?_
    refine Us (k := 0) (k' := 1) rfl rfl rfl (Ub rfl rfl (U8 (us := [_, _]) rfl rfl uT26 rfl sz26 (S8.boxcs (i := 1) rfl ⟨rfl, rfl, trivial⟩)) ?_)
    refine U5 rfl ?_
    refine U1a [(1, _), (3, _), (4, _), (6, _), (29, _)] ⟨rfl, rfl, rfl, rfl, rfl, trivial⟩ ?_
    refine U4 ?_
    refine U1 rfl ?_
    refine Us (k := 0) (k' := 1) rfl rfl rfl (Uh (l := [_, _]) rfl rfl rfl zr26 rfl S8 ?_)
    intro gb3 w7 S9; clear S8
    refine Us (k := 1) (k' := 2) rfl rfl rfl (U7 (i := 0) (us := [_, _]) (l' := [_, _]) (H' := [_, _, _, _, _, _, _, _, _]) rfl rfl S9 rfl rfl rfl rfl sz26 rfl rfl rfl rfl ?_)
    intro w8 S10; clear S9
    refine U5 rfl ?_
    refine U1a [(1, _), (3, _), (4, _), (6, _), (7, _)] ⟨rfl, rfl, rfl, rfl, rfl, trivial⟩ ?_
    refine U4 ?_
    refine U1 rfl ?_
    refine Us (k := 0) (k' := 1) rfl rfl rfl (Ub rfl rfl (U3 rfl rfl uT64 rfl (S10.boxc (i := 8) rfl rfl)) ?_)
    refine Us (k := 1) (k' := 2) rfl rfl rfl (Ub rfl rfl (U8 (us := [_, _]) rfl rfl uT26 rfl sz26 (S10.boxcs (i := 0) rfl ⟨rfl, rfl, trivial⟩)) ?_)
    refine Us (k := 2) (k' := 3) rfl rfl rfl (U20 rfl rfl rfl rfl rfl rfl rfl cf108 S10 (Left_q d y (hsb.mono S10.Uw) (hsc.mono S10.Uw) (hsi.mono S10.Uw) (hso.mono S10.Uw) (by first | assumption | omega) hab (by first | assumption | omega) S10.lend) ?_)
    rintro _ w9 S11 rfl; clear S10
    refine Us (k := 3) (k' := 4) rfl rfl rfl (U7 (i := 0) (us := [_, _]) (l' := [_, _]) (H' := [_, _, _, _, _, _, _, _, _]) rfl rfl S11 rfl rfl rfl rfl sz26 rfl rfl rfl rfl ?_)
    intro w10 S12; clear S11
    refine U5 rfl ?_
    refine U15 ?_
    have hga : ga seen2 x = false := by rw [← hgs, ← hy]; simpa using hb19
    have hfr := U2s (seen := seen2) (x := x) (by omega) hga
    intro ax_ hax_
    refine ⟨_, ?hq2m, ⟨_, seen2.set x true, nxC d x, leftD d y, acc ++ [(x : Int)], _, _, _, rfl, hax_.sub ⟨rfl, rfl, rfl, rfl, rfl, trivial⟩, S12.pick [1, 0, 3, 4, 5, 6, 7, 8] [_, _, _, _, _, _, _, _] (by decide) ⟨rfl, rfl, rfl, rfl, rfl, rfl, rfl, rfl, trivial⟩, ?hq2f0, ?hq2f1, ?hq2f2, ?hq2f3, ?hq2f4, ?hq2f5, ?hq2f6⟩⟩
    case hq2f0 => (rw [hrg]; exact U3u (by omega) hga)
    case hq2f1 => (rw [dasL_snoc, ← hring, hy])
    case hq2f2 => (rw [hy]; exact hse2.put (by omega))
    case hq2f3 => exact nxC_rng hab hx
    case hq2f4 => (rw [List.length_set]; exact hs2)
    case hq2f5 => (rw [hy, dA_nxC hab hx])
    case hq2f6 => (simp only [List.length_append, List.length_cons, List.length_nil]; omega)
    case hq2m => omega
   ·simp only [Bool.and_eq_true, Bool.or_eq_true, Bool.and_eq_false_iff, Bool.or_eq_false_iff, decide_eq_true_eq, decide_eq_false_iff_not, Bool.not_eq_true', Bool.not_eq_false'] at hb19
    refine U16 rfl rfl ?_
    refine U1a [(1, _), (3, _), (4, _), (6, _)] ⟨rfl, rfl, rfl, rfl, trivial⟩ ?_
    refine U4 ?_
    refine U1 rfl ?_
    refine Us (k := 0) (k' := 1) rfl rfl rfl (Ub rfl rfl (U3 rfl rfl uT65 rfl (S4.boxc (i := 4) rfl rfl)) ?_)
    refine Us (k := 1) (k' := 2) rfl rfl rfl (Ub rfl rfl (run_move rfl rfl) ?_)
    obtain ⟨M1, hle2, S13, ⟨A1, c1, e1, hr1⟩⟩ := S4.pubrow (i := 0) (H' := [_, _, _, _, _, _, _, _]) rfl rfl (by show _ * 16 ≤ _; first | omega | (simp only [ls]; omega))
    clear S4; subst e1
    replace hsb := hsb.mono (Hp.Ua hle2 S13.mx)
    replace hsc := hsc.mono (Hp.Ua hle2 S13.mx)
    replace hsi := hsi.mono (Hp.Ua hle2 S13.mx)
    replace hso := hso.mono (Hp.Ua hle2 S13.mx)
    replace hdo := hdo.mono hle2
    refine Us (k := 2) (k' := 3) rfl rfl rfl (U13 (C := (cdV 141)) (l := [_]) rfl rfl rfl rfl sl65 rfl rfl rfl rfl S13 ?_)
    intro gb4 w11 S14; clear S13
    refine Us (k := 3) (k' := 4) rfl rfl rfl (U1l (C := (cdV 141)) (i := 6) (q := 0) (⟨A1, ringt.length, c1⟩ : SlV) rfl rfl rfl rfl rfl rfl rfl rfl sl65 S14 rfl rfl rfl (by show (_ + 1) * 24 ≤ _; first | omega | (simp only [ls]; omega)) ?_)
    intro vrout1 w12 S15; clear S14
    have S16 := S15.pick [1, 2, 3, 4, 5, 6, 7, 8] [_, _, _, _, _, _, _, _] (by decide) ⟨rfl, rfl, rfl, rfl, rfl, rfl, rfl, rfl, trivial⟩; clear S15
    have hd1 := hdo.snoc (c := c1) hr1
    refine Us (k := 4) (k' := 5) rfl rfl rfl (U7 (i := 4) (us := [_]) (l' := [_]) (H' := [_, _, _, _, _, _, _, _]) rfl rfl S16 rfl rfl rfl (S16.cells1 (i := 5) rfl) sz65 rfl (Uy (S16.one (i := 5) rfl) rfl) rfl rfl ?_)
    intro w13 S17; clear S16
    refine U5 rfl ?_
    refine U12 ?_
    refine U15 ?_
    intro ax_ hax_
    exact ⟨_, _, hle2, S17.pick [2, 3, 4, 5, 6, 7] [_, _, _, _, _, _] (by decide) ⟨rfl, rfl, rfl, rfl, rfl, rfl, trivial⟩, _, _, _, seen2, outc ++ [acc], rfl, by rw [List.map_append, show List.map dasL [acc] = [ringt] from by rw [hring]; rfl]; exact hd1, U2o hfn (by rw [← hse (k + 2) (by omega) (by omega)]; exact hb14) (hrg.trans (ringF_stop (by rw [← hse2 x (by omega) (by omega), ← hy]; simpa using hb19))), hse2⟩
end InF
end Go.Proofs.YthppkofceancjaaGreat
namespace Go.Proofs.YthppkofceancjaaGreat
open Go.ChangeShapes Go.WideShapes Go.ChangeAt Go.RowKit
def FacesR (d : Dg) (u : Value) (M : Hp) : Prop := ∃ A c vs, u = .slice A vs.length c ∧ RdA (cdV 141) M A c vs ∧ Rd2 cdDa M vs (U6 d)
namespace InF
noncomputable def Z3u:=Tryz.f66.body.getD .skip
def Z3v := cL Z3u
def Z3w := cR Z3u
def Z3x := cL Z3w
def Z3y := cR Z3w
def Z3z := cL Z3y
def Z40 := cR Z3y
def Z41 := cL Z40
def Z42 := cR Z40
def Z43 := cL Z41
def Z44 := cR Z41
def Z45 := cL Z44
set_option maxRecDepth 10000 in
theorem Faces_t {w : World} {M : Hp} {X : Fr} (d : Dg) {gsh : Nat} {cA iA oA : Option Addr} {cc ic oc : Nat} (hsb : BxM (M.un X.h) gsh 70 [.slice cA d.crs.length cc, .int .i64 d.loops, .slice iA (tabL d false (4 * d.crs.length)).length ic, .slice oA (tabL d true (4 * d.crs.length)).length oc]) (hsc : RdA cdCr (M.un X.h) cA cc d.crs) (hsi : RdA cdPl (M.un X.h) iA ic (tabL d false (4 * d.crs.length))) (hso : RdA cdPl (M.un X.h) oA oc (tabL d true (4 * d.crs.length))) (hn : d.crs.length ≤ 16) (hab : U1b d = true) (S : SH w M X []) : Ct Tryz.prog 66 [.pointer (some ⟨gsh, 0, none⟩)] w M X (FacesR d) := by
 unfold Ct
 refine calls_marks (b := Z3u) Tryz.func66 rfl Tryz.ntmps66 rfl (fun C hCr hC => ?_)
 refine U14 [(0, _)] ⟨rfl, trivial⟩ ?_
 refine U2 Z3v Z3w rfl rfl rfl ?_
 refine U1 rfl ?_
 refine Us (k := 0) (k' := 1) rfl rfl rfl (U18 (l := [_]) rfl rfl rfl rfl rfl S ?_)
 intro gb1 w1 S1; clear S
 refine Us (k := 1) (k' := 2) rfl rfl rfl (Ub rfl rfl (run_assign rfl rfl) ?_)
 refine U5 rfl ?_
 refine U1a [(1, _)] ⟨rfl, trivial⟩ ?_
 refine U4 ?_
 refine U2 Z3x Z3y rfl rfl rfl ?_
 refine U1 rfl ?_
 refine Us (k := 0) (k' := 1) rfl rfl rfl (U3g Da Bool (fun x => Value.agg (cdDa.f x).toArray) Value.bool rfl rfl rfl S1 ?_)
 intro gm1 w2 S2; clear S1
 refine Us (k := 1) (k' := 2) rfl rfl rfl (Uh (l := [_]) rfl rfl rfl zr192 rfl S2 ?_)
 intro gb2 w3 S3; clear S2
 refine Us (k := 2) (k' := 3) rfl rfl rfl (U7 (i := 0) (us := [_]) (l' := [_]) (H' := [_, _, _]) rfl rfl S3 rfl rfl rfl rfl sz192 rfl rfl rfl rfl ?_)
 intro w4 S4; clear S3
 refine U5 rfl ?_
 refine U1a [(1, _), (3, _)] ⟨rfl, rfl, trivial⟩ ?_
 refine U4 ?_
 refine U2 Z3z Z40 rfl rfl rfl ?_
 refine U1 rfl ?_
 refine Us (k := 0) (k' := 1) rfl rfl rfl (Uh (l := [_]) rfl rfl rfl zr65 rfl S4 ?_)
 intro gb3 w5 S5; clear S4
 refine U5 rfl ?_
 refine U4 ?_
 refine U2 Z41 Z42 rfl rfl rfl ?_
 refine U2 Z43 Z44 rfl rfl rfl ?_
 refine U1 rfl ?_
 refine Us (k := 0) (k' := 1) rfl rfl rfl (Ub rfl rfl (U3 rfl rfl uT64 rfl (S5.boxc (i := 3) rfl rfl)) ?_)
 refine Us (k := 1) (k' := 2) rfl rfl rfl (U2w rfl rfl rfl rfl rfl rfl rfl cf107 S5 (Darts_t d (hsb.mono S5.Uw) (hsc.mono S5.Uw) (hsi.mono S5.Uw) (hso.mono S5.Uw) S5.lend) ?_)
 intro vw6 w6 M1 hle1 S6 hRw6; clear S5
 replace hsb := hsb.mono (Hp.Ua hle1 S6.mx)
 replace hsc := hsc.mono (Hp.Ua hle1 S6.mx)
 replace hsi := hsi.mono (Hp.Ua hle1 S6.mx)
 replace hso := hso.mono (Hp.Ua hle1 S6.mx)
 obtain ⟨bd1, rfl, hbx1⟩ := hRw6
 refine U5 rfl ?_
 refine U1a [(1, _), (3, _), (4, _), (10, _)] ⟨rfl, rfl, rfl, rfl, trivial⟩ ?_
 refine U4 ?_
 refine Uc Z45 0 rfl rfl rfl ?_
 have S9 := (S6.nilrow (cdV 141)).pick [3, 1, 0, 2, 4] [_, _, _, _, _] (by decide) ⟨rfl, rfl, rfl, rfl, rfl, trivial⟩
 refine ws_rangeFunc (p := 11) (f := 164) (lb := [_]) (asg := rfA Faces_rf) (bd := rfB Faces_rf) (enc := encD) (N := 4 * d.crs.length) hCr rfl rfl rfl cf164 S9 (FacesI d gsh gb1 gb2 gb3 gm1) (FacesI1 d gsh gb1 gb2 gb3 gm1) ?_ (Darts1_iter d hsb hsc hsi hso hbx1 hn) ?_ ?_ ?_
 ·exact ⟨[], [], .slice none 0 0, _, [], rfl, Rd2.nil_, rfl, SeenM.nil_ d⟩
 ·intro k M' H' w' C' R0 hk hle S' hI
  exact Faces_assign ⟨rfl, rfl, rfl, rfl, trivial⟩ S' hI
 ·intro k M' H' w' C' R0 a hk hle S' hI1
  exact Faces_body d (hsb.mono (Hp.Ua hle S'.mx)) (hsc.mono (Hp.Ua hle S'.mx)) (hsi.mono (Hp.Ua hle S'.mx)) (hso.mono (Hp.Ua hle S'.mx)) hn hab hk S' hI1
 ·intro a M' H' w' D l rc ha hle S' hI
  obtain ⟨es, vs, vout, seen, outc, rfl, hdo, hfn, hse⟩ := hI
  change SH w' M' X [Rs.lr l D rc, _, _, Rs.row (cdV 141) vout vs, _, _] at S'
  refine tail_la (c := Z42) (i := 15) (d1 := 34) (d2 := 2) (v := vout) hC rfl rfl rfl rfl rfl rfl rfl ha rfl uT65 rfl rfl rfl rfl S' (S'.boxc (i := 2) rfl rfl) (fun w2 S2 => ?_)
  have hvl := hdo.1
  rw [List.length_map] at hvl
  have hmany := facesN_many d (4 * d.crs.length)
  rw [hfn] at hmany
  replace hmany : outc.length ≤ 4 * d.crs.length := hmany
  obtain ⟨M3, hle3, S3, ⟨A, c, e, hr⟩⟩ := S2.pubrow (i := 2) (H' := [_, _, _, _, _]) rfl rfl (by show _ * 24 ≤ _; omega)
  subst e
  refine ⟨_, rfl, M3, (hle1).trans (hle.trans hle3), S3.pick [] [] (by decide) trivial, A, c, vs, rfl, hr, ?_⟩
  have e2 : U6 d = outc.map dasL := by unfold U6 facesD; rw [hfn]
  rw [e2]
  exact hdo.mono hle3
end InF
end Go.Proofs.YthppkofceancjaaGreat
namespace Go.Proofs.YthppkofceancjaaGreat
open Go.ChangeShapes Go.WideShapes Go.ChangeAt Go.RowKit
noncomputable def Z46:=Tryz.f72.body.getD .skip
def Z47 := cL Z46
def Z48 := cR Z46
def Z49 := cL Z48
def Z4a := cR Z48
def Z4b := cL Z4a
def Z4c := cR Z4a
def Z4d := cL Z4b
def Z4e := cR Z4b
def Z4f := cL Z4e
def Z4g := cL Z4f
def Z4h := cR Z4f
def Z4i := cL Z4h
def Z4j := cR Z4h
def Z4k := cL Z4i
def Z4l := cR Z4i
def Z4m := cL Z4j
def Z4n := cR Z4j
def Z4o := cL Z4n
def Z4p := cR Z4n
def Z4q := cL Z4o
def Z4r := cR Z4o
def Z4s := cL Z4p
def Z4t := cR Z4p
def Z4u := cL Z4t
def Z4v := cR Z4t
def Z4w := cL Z4u
def Z4x := cR Z4u
def Z4y := cL Z4c
def Z4z := cR Z4c
set_option maxRecDepth 10000 in
theorem ArcAt_q {w : World} {M : Hp} {X : Fr} (d : Dg) {dcrsA : Option Addr} {dcrsc : Nat} (c k : Nat) (hdcrs : RdA cdCr (M.un X.h) dcrsA dcrsc d.crs) (hc : c < d.crs.length) (hk : k < 4) (S : SH w M X []) : Cq Tryz.prog 72 [.agg [.slice dcrsA d.crs.length dcrsc, .int .i64 d.loops].toArray, .agg [.int .i64 (c : Int), .int .i64 (k : Int)].toArray] w M X (fun u => u = .int .i64 (U1g d c k)) := by
 unfold Cq
 have rmhdcrs : d.crs.length * 40 ≤ 140737488355328 := hdcrs.room
 refine Uo (b := Z46) Tryz.func72 rfl Tryz.ntmps72 rfl (fun C hC => (U14 [(0, _), (1, _)] ⟨rfl, rfl, trivial⟩ (U2 Z47 Z48 rfl rfl rfl (U1 rfl (wlo 0 1 rfl rfl rfl (U18 (l := [_, _]) rfl rfl rfl rfl rfl S ?_))))))
 intro gb1 w1 S1; clear S
 refine wlo 1 2 rfl rfl rfl (U18 (l := [_, _]) rfl rfl rfl rfl rfl S1 ?_)
 intro gb2 w2 S2; clear S1
 refine mvs 2 1 rfl rfl (U5 rfl (nmk [2, 3] rfl (U4 (U2 Z49 Z4a rfl rfl rfl (U1 rfl (wlr 0 rfl (U0 rfl rfl uT24 rfl (ce22) (nf22)) (wlr 1 rfl (U3 rfl rfl uT22 rfl (S2.boxc (i := 1) rfl rfl)) (wlr 2 rfl (U0 rfl rfl uT120 rfl (ce3) (nf3)) ?_))))))))
 refine wlr 3 rfl (U3 rfl rfl uT3 rfl (S2.boxc (i := 0) rfl rfl)) (wlr 4 rfl (Uj (C := cdCr) c rfl rfl rfl sl22 (by first | rfl | omega) hdcrs (by first | omega | (simp only [ls]; omega))) ?_)
 refine wlr 5 rfl (U8 (us := [_, _, _, _, _]) rfl rfl uT77 rfl sz77 (hdcrs.U1x S2.um (e := c) (by first | omega | (simp only [ls]; omega)) (j := 0) ⟨rfl, rfl, rfl, rfl, rfl, trivial⟩)) ?_
 refine wlo 6 7 rfl rfl rfl (Uh (l := [_, _, _, _, _]) rfl rfl rfl zr77 rfl S2 ?_)
 intro gb3 w3 S3; clear S2
 refine wlo 7 8 rfl rfl rfl (U7 (i := 0) (us := [_, _, _, _, _]) (l' := [_, _, _, _, _]) (H' := [_, _, _]) rfl rfl S3 rfl rfl rfl rfl sz77 rfl rfl rfl rfl ?_)
 intro w4 S4; clear S3
 refine U5 rfl (nmk [3, 5] rfl (U4 (U2 Z4b Z4c rfl rfl rfl (U2 Z4d Z4e rfl rfl rfl (U1 rfl (wlr 0 rfl (U0 rfl rfl uT120 rfl (ce3) (nf3)) (wlr 1 rfl (U3 rfl rfl uT3 rfl (S4.boxc (i := 1) rfl rfl)) (U5 rfl ?_))))))))
 refine nmk [5, 13] rfl (U4 (Uc Z4f 0 rfl rfl rfl (U2 Z4g Z4h rfl rfl rfl (U1 rfl (wlr 0 rfl (Uz rfl rfl rfl) (mvs 1 1 rfl rfl (U5 rfl (nmk [5, 13, 14] rfl ?_))))))))
 refine U4 ?_
 refine Ue Z4i Z4j rfl rfl rfl rfl (fun hb14 => ?_) (fun hb14 => ?_)
 ·refine U2 Z4k Z4l rfl rfl rfl (U1 rfl (wlr 0 rfl (U0 rfl rfl uT77 rfl (ce3) (nf3)) (wlr 1 rfl (U3 rfl rfl uT3 rfl (S4.boxc (i := 0) rfl rfl)) (mvs 2 1 rfl rfl (U5 rfl (nmk [4] rfl (U4 (Uk hC [_] rfl rfl ⟨rfl, trivial⟩ ?_))))))))
  exact ⟨_, rfl, (S4.pick [] [] (by decide) trivial), (by first | (obtain rfl : k = 0 := (by omega); rfl) | (obtain rfl : k = 1 := (by omega); rfl) | (obtain rfl : k = 2 := (by omega); rfl) | (obtain rfl : k = 3 := (by omega); rfl))⟩
 ·refine U2 Z4m Z4n rfl rfl rfl (U1 rfl (wlr 0 rfl (Uz rfl rfl rfl) (mvs 1 1 rfl rfl (U5 rfl (nmk [5, 13, 18] rfl (U4 ?_))))))
  refine Ue Z4o Z4p rfl rfl rfl rfl (fun hb18 => ?_) (fun hb18 => ?_)
  ·refine U2 Z4q Z4r rfl rfl rfl (U1 rfl (wlr 0 rfl (U0 rfl rfl uT77 rfl (ce3) (nf3)) (wlr 1 rfl (U3 rfl rfl uT3 rfl (S4.boxc (i := 0) rfl rfl)) (mvs 2 1 rfl rfl (U5 rfl (nmk [4] rfl (U4 (Uk hC [_] rfl rfl ⟨rfl, trivial⟩ ?_))))))))
   exact ⟨_, rfl, (S4.pick [] [] (by decide) trivial), (by first | (obtain rfl : k = 0 := (by omega); rfl) | (obtain rfl : k = 1 := (by omega); rfl) | (obtain rfl : k = 2 := (by omega); rfl) | (obtain rfl : k = 3 := (by omega); rfl))⟩
  ·refine U2 Z4s Z4t rfl rfl rfl (U1 rfl (wlr 0 rfl (Uz rfl rfl rfl) (mvs 1 1 rfl rfl (U5 rfl (nmk [5, 22] rfl (U4 ?_))))))
   refine Ue Z4u Z4v rfl rfl rfl rfl (fun hb22 => ?_) (fun hb22 => ?_)
   ·refine U2 Z4w Z4x rfl rfl rfl (U1 rfl (wlr 0 rfl (U0 rfl rfl uT77 rfl (ce3) (nf3)) (wlr 1 rfl (U3 rfl rfl uT3 rfl (S4.boxc (i := 0) rfl rfl)) (mvs 2 1 rfl rfl (U5 rfl (nmk [4] rfl (U4 (Uk hC [_] rfl rfl ⟨rfl, trivial⟩ ?_))))))))
    exact ⟨_, rfl, (S4.pick [] [] (by decide) trivial), (by first | (obtain rfl : k = 0 := (by omega); rfl) | (obtain rfl : k = 1 := (by omega); rfl) | (obtain rfl : k = 2 := (by omega); rfl) | (obtain rfl : k = 3 := (by omega); rfl))⟩
   ·refine Uf rfl (U12 (nmk [5] rfl (U4 (U2 Z4y Z4z rfl rfl rfl (U1 rfl (wlr 0 rfl (U0 rfl rfl uT77 rfl (ce3) (nf3)) (wlr 1 rfl (U3 rfl rfl uT3 rfl (S4.boxc (i := 0) rfl rfl)) (mvs 2 1 rfl rfl ?_))))))))
    refine U5 rfl (nmk [4] rfl (U4 (Uk hC [_] rfl rfl ⟨rfl, trivial⟩ ?_)))
    exact ⟨_, rfl, (S4.pick [] [] (by decide) trivial), (by first | (obtain rfl : k = 0 := (by omega); rfl) | (obtain rfl : k = 1 := (by omega); rfl) | (obtain rfl : k = 2 := (by omega); rfl) | (obtain rfl : k = 3 := (by omega); rfl))⟩
noncomputable def Z50:=Tryz.f73.body.getD .skip
def Z51 := cL Z50
def Z52 := cR Z50
def Z53 := cL Z52
def Z54 := cR Z52
set_option maxRecDepth 10000 in
theorem Entry_q {w : World} {M : Hp} {X : Fr} (d : Dg) {dcrsA : Option Addr} {dcrsc : Nat} (c k : Nat) (hdcrs : RdA cdCr (M.un X.h) dcrsA dcrsc d.crs) (hc : c < d.crs.length) (hk : k < 4) (S : SH w M X []) : Cq Tryz.prog 73 [.agg [.slice dcrsA d.crs.length dcrsc, .int .i64 d.loops].toArray, .agg [.int .i64 (c : Int), .int .i64 (k : Int)].toArray] w M X (fun u => u = .bool (U1k d c k)) := by
 unfold Cq
 have rmhdcrs : d.crs.length * 40 ≤ 140737488355328 := hdcrs.room
 refine Uo (b := Z50) Tryz.func73 rfl Tryz.ntmps73 rfl (fun C hC => (U14 [(0, _), (1, _)] ⟨rfl, rfl, trivial⟩ (U2 Z51 Z52 rfl rfl rfl (U1 rfl (wlo 0 1 rfl rfl rfl (U18 (l := [_, _]) rfl rfl rfl rfl rfl S ?_))))))
 intro gb1 w1 S1; clear S
 refine wlo 1 2 rfl rfl rfl (U18 (l := [_, _]) rfl rfl rfl rfl rfl S1 ?_)
 intro gb2 w2 S2; clear S1
 refine mvs 2 1 rfl rfl (U5 rfl (nmk [2, 3] rfl (U4 (U2 Z53 Z54 rfl rfl rfl (U1 rfl (wlr 0 rfl (U0 rfl rfl uT120 rfl (ce3) (nf3)) (wlr 1 rfl (U3 rfl rfl uT3 rfl (S2.boxc (i := 0) rfl rfl)) (wlr 2 rfl (Uz rfl rfl rfl) ?_))))))))
 refine mvs 3 1 rfl rfl ?_
 refine Ut (t := 8) rfl (fun hg8 => ?_) (fun hg8 => ?_)
 ·refine mvs 4 6 rfl rfl (mvs 10 6 rfl rfl (mvs 16 6 rfl rfl (mvs 22 6 rfl rfl (mvs 28 5 rfl rfl (U5 rfl (nmk [4] rfl (U4 (Uk hC [_] rfl rfl ⟨rfl, trivial⟩ ?_))))))))
  exact ⟨_, rfl, (S2.pick [] [] (by decide) trivial), (by have e0 : k = 0 ∨ k = 1 ∨ k = 2 ∨ k = 3 := (by omega); rcases e0 with rfl | rfl | rfl | rfl <;> first | (exfalso; omega) | (show Value.bool _ = _; unfold U1k crIn; simp [*]))⟩
 ·refine wlg 4 5 rfl rfl rfl rfl rfl rfl rfl rfl (Ub rfl rfl (U0 rfl rfl uT120 rfl (ce3) (nf3)) (wlg 5 6 rfl rfl rfl rfl rfl rfl rfl rfl (Ub rfl rfl (U3 rfl rfl uT3 rfl (S2.boxc (i := 0) rfl rfl)) (wlg 6 7 rfl rfl rfl rfl rfl rfl rfl rfl (Ub rfl rfl (Uz rfl rfl rfl) (mvs 7 1 rfl rfl ?_))))))
  refine Ut (t := 12) rfl (fun hg12 => ?_) (fun hg12 => ?_)
  ·refine wlg 8 9 rfl rfl rfl rfl rfl rfl rfl rfl (Ub rfl rfl (U0 rfl rfl uT24 rfl (ce22) (nf22)) (wlg 9 10 rfl rfl rfl rfl rfl rfl rfl rfl (Ub rfl rfl (U3 rfl rfl uT22 rfl (S2.boxc (i := 1) rfl rfl)) (wlg 10 11 rfl rfl rfl rfl rfl rfl rfl rfl (Ub rfl rfl (U0 rfl rfl uT120 rfl (ce3) (nf3)) (wlg 11 12 rfl rfl rfl rfl rfl rfl rfl rfl (Ub rfl rfl (U3 rfl rfl uT3 rfl (S2.boxc (i := 0) rfl rfl)) (wlg 12 13 rfl rfl rfl rfl rfl rfl rfl rfl (Ub rfl rfl (Uj (C := cdCr) c rfl rfl rfl sl22 (by first | rfl | omega) hdcrs (by first | omega | (simp only [ls]; omega))) ?_)))))))))
   refine wlg 13 14 rfl rfl rfl rfl rfl rfl rfl rfl (Ub rfl rfl (U0 rfl rfl uT77 rfl (ce4) (nf4)) (wlg 14 15 rfl rfl rfl rfl rfl rfl rfl rfl (Ub rfl rfl (U3 rfl rfl uT4 rfl (hdcrs.cell S2.um (i := c) (by first | omega | (simp only [ls]; omega)) 4 rfl rfl)) ?_)))
   refine wlg 15 16 rfl rfl rfl rfl rfl rfl rfl rfl (Ub rfl rfl (U1j rfl rfl) (mvs 16 3 rfl rfl ?_))
   refine U2x (t := 23) rfl (fun hg23 => ?_) (fun hg23 => ?_)
   ·simp only [Bool.and_eq_true, Bool.or_eq_true, Bool.and_eq_false_iff, Bool.or_eq_false_iff, decide_eq_true_eq, decide_eq_false_iff_not, Bool.not_eq_true', Bool.not_eq_false'] at hg23
    refine mvs 19 6 rfl rfl (mvs 25 6 rfl rfl (mvs 31 2 rfl rfl (U5 rfl (nmk [4] rfl (U4 (Uk hC [_] rfl rfl ⟨rfl, trivial⟩ ?_))))))
    exact ⟨_, rfl, (S2.pick [] [] (by decide) trivial), (by have e0 : k = 0 ∨ k = 1 ∨ k = 2 ∨ k = 3 := (by omega); rcases e0 with rfl | rfl | rfl | rfl <;> first | (exfalso; omega) | (show Value.bool _ = _; unfold U1k crIn; simp [*]))⟩
   ·simp only [Bool.and_eq_true, Bool.or_eq_true, Bool.and_eq_false_iff, Bool.or_eq_false_iff, decide_eq_true_eq, decide_eq_false_iff_not, Bool.not_eq_true', Bool.not_eq_false'] at hg23
    refine wlg 19 20 rfl rfl rfl rfl rfl rfl rfl rfl (Ub rfl rfl (U0 rfl rfl uT120 rfl (ce3) (nf3)) (wlg 20 21 rfl rfl rfl rfl rfl rfl rfl rfl (Ub rfl rfl (U3 rfl rfl uT3 rfl (S2.boxc (i := 0) rfl rfl)) (wlg 21 22 rfl rfl rfl rfl rfl rfl rfl rfl (Ub rfl rfl (Uz rfl rfl rfl) (mvs 22 1 rfl rfl ?_))))))
    refine Ut (t := 27) rfl (fun hg27 => ?_) (fun hg27 => ?_)
    ·refine wlg 23 24 rfl rfl rfl rfl rfl rfl rfl rfl (Ub rfl rfl (U0 rfl rfl uT24 rfl (ce22) (nf22)) (wlg 24 25 rfl rfl rfl rfl rfl rfl rfl rfl (Ub rfl rfl (U3 rfl rfl uT22 rfl (S2.boxc (i := 1) rfl rfl)) (wlg 25 26 rfl rfl rfl rfl rfl rfl rfl rfl (Ub rfl rfl (U0 rfl rfl uT120 rfl (ce3) (nf3)) (wlg 26 27 rfl rfl rfl rfl rfl rfl rfl rfl (Ub rfl rfl (U3 rfl rfl uT3 rfl (S2.boxc (i := 0) rfl rfl)) (wlg 27 28 rfl rfl rfl rfl rfl rfl rfl rfl (Ub rfl rfl (Uj (C := cdCr) c rfl rfl rfl sl22 (by first | rfl | omega) hdcrs (by first | omega | (simp only [ls]; omega))) ?_)))))))))
     refine wlg 28 29 rfl rfl rfl rfl rfl rfl rfl rfl (Ub rfl rfl (U0 rfl rfl uT77 rfl (ce4) (nf4)) (wlg 29 30 rfl rfl rfl rfl rfl rfl rfl rfl (Ub rfl rfl (U3 rfl rfl uT4 rfl (hdcrs.cell S2.um (i := c) (by first | omega | (simp only [ls]; omega)) 4 rfl rfl)) ?_)))
     refine mvs 30 3 rfl rfl (U5 rfl (nmk [4] rfl (U4 (Uk hC [_] rfl rfl ⟨rfl, trivial⟩ ?_))))
     exact ⟨_, rfl, (S2.pick [] [] (by decide) trivial), (by have e0 : k = 0 ∨ k = 1 ∨ k = 2 ∨ k = 3 := (by omega); rcases e0 with rfl | rfl | rfl | rfl <;> first | (exfalso; omega) | (show Value.bool _ = _; unfold U1k crIn; simp [*]))⟩
    ·refine mvs 23 6 rfl rfl (mvs 29 4 rfl rfl (U5 rfl (nmk [4] rfl (U4 (Uk hC [_] rfl rfl ⟨rfl, trivial⟩ ?_)))))
     exact ⟨_, rfl, (S2.pick [] [] (by decide) trivial), (by have e0 : k = 0 ∨ k = 1 ∨ k = 2 ∨ k = 3 := (by omega); rcases e0 with rfl | rfl | rfl | rfl <;> first | (exfalso; omega) | (show Value.bool _ = _; unfold U1k crIn; simp [*]))⟩
  ·refine mvs 8 6 rfl rfl (mvs 14 5 rfl rfl (wlg 19 20 rfl rfl rfl rfl rfl rfl rfl rfl (Ub rfl rfl (U0 rfl rfl uT120 rfl (ce3) (nf3)) (wlg 20 21 rfl rfl rfl rfl rfl rfl rfl rfl (Ub rfl rfl (U3 rfl rfl uT3 rfl (S2.boxc (i := 0) rfl rfl)) (wlg 21 22 rfl rfl rfl rfl rfl rfl rfl rfl (Ub rfl rfl (Uz rfl rfl rfl) (mvs 22 1 rfl rfl ?_))))))))
   refine Ut (t := 27) rfl (fun hg27 => ?_) (fun hg27 => ?_)
   ·refine wlg 23 24 rfl rfl rfl rfl rfl rfl rfl rfl (Ub rfl rfl (U0 rfl rfl uT24 rfl (ce22) (nf22)) (wlg 24 25 rfl rfl rfl rfl rfl rfl rfl rfl (Ub rfl rfl (U3 rfl rfl uT22 rfl (S2.boxc (i := 1) rfl rfl)) (wlg 25 26 rfl rfl rfl rfl rfl rfl rfl rfl (Ub rfl rfl (U0 rfl rfl uT120 rfl (ce3) (nf3)) (wlg 26 27 rfl rfl rfl rfl rfl rfl rfl rfl (Ub rfl rfl (U3 rfl rfl uT3 rfl (S2.boxc (i := 0) rfl rfl)) (wlg 27 28 rfl rfl rfl rfl rfl rfl rfl rfl (Ub rfl rfl (Uj (C := cdCr) c rfl rfl rfl sl22 (by first | rfl | omega) hdcrs (by first | omega | (simp only [ls]; omega))) ?_)))))))))
    refine wlg 28 29 rfl rfl rfl rfl rfl rfl rfl rfl (Ub rfl rfl (U0 rfl rfl uT77 rfl (ce4) (nf4)) (wlg 29 30 rfl rfl rfl rfl rfl rfl rfl rfl (Ub rfl rfl (U3 rfl rfl uT4 rfl (hdcrs.cell S2.um (i := c) (by first | omega | (simp only [ls]; omega)) 4 rfl rfl)) ?_)))
    refine mvs 30 3 rfl rfl (U5 rfl (nmk [4] rfl (U4 (Uk hC [_] rfl rfl ⟨rfl, trivial⟩ ?_))))
    exact ⟨_, rfl, (S2.pick [] [] (by decide) trivial), (by have e0 : k = 0 ∨ k = 1 ∨ k = 2 ∨ k = 3 := (by omega); rcases e0 with rfl | rfl | rfl | rfl <;> first | (exfalso; omega) | (show Value.bool _ = _; unfold U1k crIn; simp [*]))⟩
   ·refine mvs 23 6 rfl rfl (mvs 29 4 rfl rfl (U5 rfl (nmk [4] rfl (U4 (Uk hC [_] rfl rfl ⟨rfl, trivial⟩ ?_)))))
    exact ⟨_, rfl, (S2.pick [] [] (by decide) trivial), (by have e0 : k = 0 ∨ k = 1 ∨ k = 2 ∨ k = 3 := (by omega); rcases e0 with rfl | rfl | rfl | rfl <;> first | (exfalso; omega) | (show Value.bool _ = _; unfold U1k crIn; simp [*]))⟩
noncomputable def Z55:=Tryz.f60.body.getD .skip
def Z56 := cL Z55
def Z57 := cR Z55
def Z58 := cL Z57
def Z59 := cR Z57
def Z5a := cL Z58
def Z5b := cR Z58
def Z5c := cL Z5b
def Z5d := cL Z5c
def Z5e := cL Z5d
def Z5f := cR Z5d
def Z5g := cL Z5e
def Z5h := cR Z5e
def Z5i := cL Z5h
def Z5j := cR Z5h
def Z5k := cL Z5f
def Z5l := cR Z5f
def Z5m := cL Z5k
def Z5n := cL Z5m
def Z5o := cR Z5m
def Z5p := cL Z5o
def Z5q := cL Z5p
def Z5r := cL Z5q
def Z5s := cR Z5q
def Z5t := cL Z5r
def Z5u := cR Z5r
def Z5v := cL Z5u
def Z5w := cR Z5u
def Z5x := cL Z5s
def Z5y := cR Z5s
def Z5z := cL Z5x
def Z60 := cL Z5z
def Z61 := cR Z5z
def Z62 := cL Z61
def Z63 := cR Z61
def Z64 := cL Z63
def Z65 := cR Z63
def Z66 := cL Z64
def Z67 := cR Z64
def Z68 := cL Z59
def Z69 := cR Z59
set_option maxHeartbeats 1000000 in
set_option maxRecDepth 10000 in
theorem U33 {w : World} {M : Hp} {X : Fr} (d : Dg) {dcrsA : Option Addr} {dcrsc : Nat} (a : Int) (back : Bool) (hdcrs : RdA cdCr (M.un X.h) dcrsA dcrsc d.crs) (S : SH w M X []) : Cq Tryz.prog 60 [.agg [.slice dcrsA d.crs.length dcrsc, .int .i64 d.loops].toArray, .int .i64 a, .bool back] w M X (fun u => u = .agg (plF (Ud d a back)).toArray) := by
 unfold Cq
 have rmhdcrs : d.crs.length * 40 ≤ 140737488355328 := hdcrs.room
 refine Uo (b := Z55) Tryz.func60 rfl Tryz.ntmps60 rfl (fun C hC => (U14 [(0, _), (1, _), (2, _)] ⟨rfl, rfl, rfl, trivial⟩ (U2 Z56 Z57 rfl rfl rfl (U1 rfl (wlo 0 1 rfl rfl rfl (U18 (l := [_, _]) rfl rfl rfl rfl rfl S ?_))))))
 intro gb1 w1 S1; clear S
 refine wlo 1 2 rfl rfl rfl (Uh (l := [_, _]) rfl rfl rfl zr120 rfl S1 ?_)
 intro gb2 w2 S2; clear S1
 refine U5 rfl (nmk [1, 2, 3, 6] rfl (U4 (U2 Z58 Z59 rfl rfl rfl (U2 Z5a Z5b rfl rfl rfl (U1 rfl (mvs 0 1 rfl rfl (U5 rfl (U4 ?_))))))))
 refine Uc Z5c 0 rfl rfl rfl ?_
 refine U11 (fun mx_ ax_ wx_ => ∃ (i : Nat), mx_ = d.crs.length - i ∧ Env 38 [(1, .int .i64 a), (2, .bool back), (3, .pointer (some ⟨gb1, 0, none⟩)), (6, .pointer (some ⟨gb2, 0, none⟩)), (7, .int .i64 (i : Int))] ax_ ∧ SH wx_ M X [Rs.box gb2 120 [.int .i64 0, .int .i64 0], Rs.box gb1 24 [.slice dcrsA d.crs.length dcrsc, .int .i64 d.loops]] ∧ i ≤ d.crs.length ∧ (∀ j, j < 4 * i → endP d a back j = false)) rfl ?_ ?_
 ·intro ax_ hax_
  refine ⟨_, ⟨0, rfl, hax_.sub ⟨rfl, rfl, rfl, rfl, rfl, trivial⟩, S2.pick [0, 1] [_, _] (by decide) ⟨rfl, rfl, trivial⟩, ?hq1f0, ?hq1f1⟩⟩
  case hq1f0 => omega
  case hq1f1 => (intro j hj; omega)
 ·rintro m1 a1 w3 ⟨i, rfl, he1, S3, hi, hno⟩
  clear S2
  refine U1u he1 (c := Z5d) rfl ?_
  clear he1 a1
  refine U2 Z5e Z5f rfl rfl rfl (U2 Z5g Z5h rfl rfl rfl (U1 rfl (mvs 0 1 rfl rfl (wlr 1 rfl (U0 rfl rfl uT24 rfl (ce22) (nf22)) (wlr 2 rfl (U3 rfl rfl uT22 rfl (S3.boxc (i := 1) rfl rfl)) (wlr 3 rfl (U1f rfl rfl rfl rfl rfl rfl uT22) (wlr 4 rfl (U17 rfl rfl rfl) (U5 rfl ?_))))))))
  refine nmk [1, 2, 3, 6, 7, 14] rfl (U4 ?_)
  refine Ue Z5i Z5j rfl rfl rfl rfl (fun hb14 => ?_) (fun hb14 => ?_)
  ·refine Uf rfl (nmk [1, 2, 3, 6, 7] rfl (U4 (U2 Z5k Z5l rfl rfl rfl (Uc Z5m 1 rfl rfl rfl (U2 Z5n Z5o rfl rfl rfl (U1 rfl (mvs 0 1 rfl rfl (U5 rfl ?_))))))))
   refine U4 (Uc Z5p 2 rfl rfl rfl ?_)
   refine U11 (fun mx_ ax_ wx_ => ∃ (k : Nat), mx_ = 4 - k ∧ Env 38 [(1, .int .i64 a), (2, .bool back), (3, .pointer (some ⟨gb1, 0, none⟩)), (6, .pointer (some ⟨gb2, 0, none⟩)), (7, .int .i64 (i : Int)), (8, .int .i64 (k : Int))] ax_ ∧ SH wx_ M X [Rs.box gb2 120 [.int .i64 0, .int .i64 0], Rs.box gb1 24 [.slice dcrsA d.crs.length dcrsc, .int .i64 d.loops]] ∧ k ≤ 4 ∧ (∀ j, j < 4 * i + k → endP d a back j = false)) rfl ?_ ?_
   ·intro ax_ hax_
    refine ⟨_, ⟨0, rfl, hax_.sub ⟨rfl, rfl, rfl, rfl, rfl, rfl, trivial⟩, S3.pick [0, 1] [_, _] (by decide) ⟨rfl, rfl, trivial⟩, ?hq2f0, ?hq2f1⟩⟩
    case hq2f0 => omega
    case hq2f1 => (intro j hj; exact hno j (by omega))
   ·rintro m2 a2 w4 ⟨k, rfl, he2, S4, hk, hno2⟩
    clear S3
    refine U1u he2 (c := Z5q) rfl ?_
    clear he2 a2
    refine U2 Z5r Z5s rfl rfl rfl (U2 Z5t Z5u rfl rfl rfl (U1 rfl (mvs 0 1 rfl rfl (wlr 1 rfl (U17 rfl rfl rfl) (U5 rfl (nmk [1, 2, 3, 6, 7, 8, 18] rfl (U4 ?_)))))))
    refine Ue Z5v Z5w rfl rfl rfl rfl (fun hb18 => ?_) (fun hb18 => ?_)
    ·refine Uf rfl (nmk [1, 2, 3, 6, 7, 8] rfl (U4 (U2 Z5x Z5y rfl rfl rfl (Uc Z5z 3 rfl rfl rfl (U2 Z60 Z61 rfl rfl rfl (U1 rfl (mvs 0 2 rfl rfl (wlr 2 rfl (run_build (l := [_, _]) rfl rfl st120 rfl rfl) ?_))))))))
     refine wlo 3 4 rfl rfl rfl (Uh (l := [_, _]) rfl rfl rfl zr120 rfl S4 ?_)
     intro gb3 w5 S5; clear S4
     refine wlo 4 5 rfl rfl rfl (U7 (i := 0) (us := [_, _]) (l' := [_, _]) (H' := [_, _, _]) rfl rfl S5 rfl rfl rfl rfl sz120 rfl rfl rfl rfl ?_)
     intro w6 S6; clear S5
     refine U5 rfl (nmk [1, 2, 3, 6, 7, 8, 9] rfl (U4 (U2 Z62 Z63 rfl rfl rfl (U1 rfl (wlr 0 rfl (U8 (us := [_, _]) rfl rfl uT24 rfl sz24 (S6.boxcs (i := 2) rfl ⟨rfl, rfl, trivial⟩)) (wlr 1 rfl (U8 (us := [_, _]) rfl rfl uT120 rfl sz120 (S6.boxcs (i := 0) rfl ⟨rfl, rfl, trivial⟩)) (wlo 2 3 rfl rfl rfl (U20 rfl rfl rfl rfl rfl rfl rfl cf72 S6 (ArcAt_q d i k (hdcrs.mono S6.Uw) (by omega) (by omega) S6.lend) ?_))))))))
     rintro _ w7 S7 rfl; clear S6
     refine mvs 3 1 rfl rfl (wlr 4 rfl (Uz rfl rfl rfl) (mvs 5 1 rfl rfl ?_))
     refine Ut (t := 29) rfl (fun hg29 => ?_) (fun hg29 => ?_)
     ·refine wlg 6 7 rfl rfl rfl rfl rfl rfl rfl rfl (Ub rfl rfl (U8 (us := [_, _]) rfl rfl uT24 rfl sz24 (S7.boxcs (i := 2) rfl ⟨rfl, rfl, trivial⟩)) (wlg 7 8 rfl rfl rfl rfl rfl rfl rfl rfl (Ub rfl rfl (U8 (us := [_, _]) rfl rfl uT120 rfl sz120 (S7.boxcs (i := 0) rfl ⟨rfl, rfl, trivial⟩)) (wlg 8 9 rfl rfl rfl rfl rfl rfl rfl rfl (U20 rfl rfl rfl rfl rfl rfl rfl cf73 S7 (Entry_q d i k (hdcrs.mono S7.Uw) (by omega) (by omega) S7.lend) ?_)))))
      rintro _ w8 S8 rfl; clear S7
      refine mvs 9 1 rfl rfl (wlg 10 11 rfl rfl rfl rfl rfl rfl rfl rfl (Ub rfl rfl (run_bne rfl rfl rfl uT4) (mvs 11 1 rfl rfl (U5 rfl (nmk [1, 2, 3, 6, 7, 8, 9, 35] rfl (U4 ?_))))))
      refine U19 Z64 Z65 rfl rfl rfl rfl (fun hb35 => ?_) (fun hb35 => ?_)
      ·refine U2 Z66 Z67 rfl rfl rfl (U1 rfl (wlr 0 rfl (U8 (us := [_, _]) rfl rfl uT120 rfl sz120 (S8.boxcs (i := 0) rfl ⟨rfl, rfl, trivial⟩)) (wlo 1 2 rfl rfl rfl (U7 (i := 1) (us := [_, _]) (l' := [_, _]) (H' := [_, _, _]) rfl rfl S8 rfl rfl rfl rfl sz120 rfl rfl rfl rfl ?_))))
       intro w9 S9; clear S8
       refine U5 rfl (nmk [6] rfl (U4 (Uk hC [_] rfl rfl ⟨⟨_, rfl, Up (us := [_, _]) uT120 rfl sz120 (S9.boxcs (i := 1) rfl ⟨rfl, rfl, trivial⟩)⟩, trivial⟩ ?_)))
       exact ⟨_, rfl, (S9.pick [] [] (by decide) trivial), (by first | (rw [endOf_miss (fun j hj => hno j (by omega))]; rfl) | (rw [endOf_hit (j := 4 * i + k) (by omega) (by rw [endP_at (by omega), decide_eq_true (by omega)]; simpa using hb35) hno2, show (4 * i + k) / 4 = i by omega, show (4 * i + k) % 4 = k by omega]; rfl))⟩
      ·refine Uf rfl (U12 (nmk [1, 2, 3, 6, 7, 8] rfl (U4 (U1 rfl (mvs 0 1 rfl rfl (wlr 1 rfl (Ug rfl rfl rfl (by first | omega | (simp only [ls]; omega))) ?_))))))
       refine mvs 2 1 rfl rfl (U5 rfl (U15 ?_))
       intro ax_ hax_
       refine ⟨_, ?hq3m, ⟨k + 1, rfl, hax_.sub ⟨rfl, rfl, rfl, rfl, rfl, rfl, trivial⟩, S8.pick [1, 2] [_, _] (by decide) ⟨rfl, rfl, trivial⟩, ?hq3f0, ?hq3f1⟩⟩
       case hq3f0 => omega
       case hq3f1 => (intro j hj; by_cases h : j = 4 * i + k; (subst h; rw [endP_at (by omega)]; first | (rw [decide_eq_false (by omega)]; rfl) | (rw [Bool.and_eq_false_iff]; right; simpa using hb35)); exact hno2 j (by omega))
       case hq3m => omega
     ·refine mvs 6 6 rfl rfl (U5 rfl (nmk [1, 2, 3, 6, 7, 8, 9, 35] rfl (U4 (U2c Z65 rfl rfl rfl (Uf rfl (U12 (nmk [1, 2, 3, 6, 7, 8] rfl (U4 ?_))))))))
      refine U1 rfl (mvs 0 1 rfl rfl (wlr 1 rfl (Ug rfl rfl rfl (by first | omega | (simp only [ls]; omega))) ?_))
      refine mvs 2 1 rfl rfl (U5 rfl (U15 ?_))
      intro ax_ hax_
      refine ⟨_, ?hq4m, ⟨k + 1, rfl, hax_.sub ⟨rfl, rfl, rfl, rfl, rfl, rfl, trivial⟩, S7.pick [1, 2] [_, _] (by decide) ⟨rfl, rfl, trivial⟩, ?hq4f0, ?hq4f1⟩⟩
      case hq4f0 => omega
      case hq4f1 => (intro j hj; by_cases h : j = 4 * i + k; (subst h; rw [endP_at (by omega)]; first | (rw [decide_eq_false (by omega)]; rfl) | (rw [Bool.and_eq_false_iff]; right; simpa using hb35)); exact hno2 j (by omega))
      case hq4m => omega
    ·refine U16 rfl rfl (U12 (nmk [1, 2, 3, 6, 7] rfl (U4 (U1 rfl (mvs 0 1 rfl rfl (wlr 1 rfl (Ug rfl rfl rfl (by first | omega | (simp only [ls]; omega))) ?_))))))
     refine mvs 2 1 rfl rfl (U5 rfl (U15 ?_))
     intro ax_ hax_
     refine ⟨_, ?hq5m, ⟨i + 1, rfl, hax_.sub ⟨rfl, rfl, rfl, rfl, rfl, trivial⟩, S4.pick [0, 1] [_, _] (by decide) ⟨rfl, rfl, trivial⟩, ?hq5f0, ?hq5f1⟩⟩
     case hq5f0 => omega
     case hq5f1 => (intro j hj; exact hno2 j (by omega))
     case hq5m => omega
  ·refine U16 rfl rfl (nmk [6] rfl (U4 (U2 Z68 Z69 rfl rfl rfl (U1 rfl (wlr 0 rfl (run_build (l := [_, _]) rfl rfl st120 rfl rfl) (wlo 1 2 rfl rfl rfl (U7 (i := 0) (us := [_, _]) (l' := [_, _]) (H' := [_, _]) rfl rfl S3 rfl rfl rfl rfl sz120 rfl rfl rfl rfl ?_)))))))
   intro w10 S10; clear S3
   refine U5 rfl (nmk [6] rfl (U4 (Uk hC [_] rfl rfl ⟨⟨_, rfl, Up (us := [_, _]) uT120 rfl sz120 (S10.boxcs (i := 0) rfl ⟨rfl, rfl, trivial⟩)⟩, trivial⟩ ?_)))
   exact ⟨_, rfl, (S10.pick [] [] (by decide) trivial), (by first | (rw [endOf_miss (fun j hj => hno j (by omega))]; rfl) | (rw [endOf_hit (j := 4 * i + k) (by omega) (by rw [endP_at (by omega), decide_eq_true (by omega)]; simpa using hb35) hno2, show (4 * i + k) / 4 = i by omega, show (4 * i + k) % 4 = k by omega]; rfl))⟩
noncomputable def Z6a:=Tryz.f131.body.getD .skip
def Z6b := cL Z6a
def Z6c := cR Z6a
def Z6d := cL Z6c
def Z6e := cR Z6c
def Z6f := cL Z6e
def Z6g := cR Z6e
def Z6h := cL Z6g
def Z6i := cR Z6g
set_option maxRecDepth 10000 in
theorem NextDart_q {w : World} {M : Hp} {X : Fr} (d : Dg) {dcrsA : Option Addr} {dcrsc : Nat} (x : Da) (hdcrs : RdA cdCr (M.un X.h) dcrsA dcrsc d.crs) (hab : U1b d = true) (hx : okD d x) (S : SH w M X []) : Cq Tryz.prog 131 [.agg [.slice dcrsA d.crs.length dcrsc, .int .i64 d.loops].toArray, .agg [.int .i64 x.a, .bool x.b].toArray] w M X (fun u => u = .agg (daF (leftD d x)).toArray) := by
 unfold Cq
 have rmhdcrs : d.crs.length * 40 ≤ 140737488355328 := hdcrs.room
 obtain ⟨hE1, hE2, hE3, hE4, hE5⟩ := endD hab hx x.b
 have hlt4 : ((Ud d x.a x.b).2 + 3) % 4 < 4 := Nat.mod_lt _ (by decide)
 refine Uo (b := Z6a) Tryz.func131 rfl Tryz.ntmps131 rfl (fun C hC => (U14 [(0, _), (1, _)] ⟨rfl, rfl, trivial⟩ (U2 Z6b Z6c rfl rfl rfl (U1 rfl (wlo 0 1 rfl rfl rfl (U18 (l := [_, _]) rfl rfl rfl rfl rfl S ?_))))))
 intro gb1 w1 S1; clear S
 refine wlo 1 2 rfl rfl rfl (U18 (l := [_, _]) rfl rfl rfl rfl rfl S1 ?_)
 intro gb2 w2 S2; clear S1
 refine wlo 2 3 rfl rfl rfl (Uh (l := [_, _]) rfl rfl rfl zr26 rfl S2 ?_)
 intro gb3 w3 S3; clear S2
 refine U5 rfl (nmk [2, 3, 4] rfl (U4 (U2 Z6d Z6e rfl rfl rfl (U1 rfl (wlr 0 rfl (U8 (us := [_, _]) rfl rfl uT24 rfl sz24 (S3.boxcs (i := 2) rfl ⟨rfl, rfl, trivial⟩)) (wlr 1 rfl (U0 rfl rfl uT26 rfl (ce3) (nf3)) (wlr 2 rfl (U3 rfl rfl uT3 rfl (S3.boxc (i := 1) rfl rfl)) (wlr 3 rfl (U0 rfl rfl uT26 rfl (ce4) (nf4)) ?_))))))))
 refine wlr 4 rfl (U3 rfl rfl uT4 rfl (S3.boxc (i := 1) rfl rfl)) (wlo 5 6 rfl rfl rfl (U20 rfl rfl rfl rfl rfl rfl rfl cf60 S3 (U33 d x.a x.b (hdcrs.mono S3.Uw) S3.lend) ?_))
 rintro _ w4 S4 rfl; clear S3
 refine wlo 6 7 rfl rfl rfl (Uh (l := [_, _]) rfl rfl rfl zr120 rfl S4 ?_)
 intro gb4 w5 S5; clear S4
 refine wlo 7 8 rfl rfl rfl (U7 (i := 0) (us := [_, _]) (l' := [_, _]) (H' := [_, _, _, _]) rfl rfl S5 rfl rfl rfl rfl sz120 rfl rfl rfl rfl ?_)
 intro w6 S6; clear S5
 refine U5 rfl (nmk [2, 4, 5] rfl (U4 (U2 Z6f Z6g rfl rfl rfl (U1 rfl (wlr 0 rfl (U0 rfl rfl uT120 rfl (ce3) (nf3)) (wlr 1 rfl (U3 rfl rfl uT3 rfl (S6.boxc (i := 0) rfl rfl)) (wlr 2 rfl (U0 rfl rfl uT120 rfl (ce3) (nf3)) (wlr 3 rfl (U3 rfl rfl uT3 rfl (S6.boxc (i := 0) rfl rfl)) ?_))))))))
 refine wlr 4 rfl (Ug rfl rfl rfl (by first | omega | (simp only [ls]; omega))) ?_
 refine wlr 5 rfl (U2i rfl rfl rfl (by first | omega | (simp only [ls]; omega))) ?_
 refine U1t 18 (.int .i64 ((((Ud d x.a x.b).2 + 3) % 4 : Nat) : Int)) rfl (int_eq (by omega)) ?_
 refine wlr 6 rfl (run_build (l := [_, _]) rfl rfl st120 rfl rfl) (wlo 7 8 rfl rfl rfl (Uh (l := [_, _]) rfl rfl rfl zr120 rfl S6 ?_))
 intro gb5 w7 S7; clear S6
 refine wlo 8 9 rfl rfl rfl (U7 (i := 0) (us := [_, _]) (l' := [_, _]) (H' := [_, _, _, _, _]) rfl rfl S7 rfl rfl rfl rfl sz120 rfl rfl rfl rfl ?_)
 intro w8 S8; clear S7
 refine U5 rfl (nmk [2, 4, 6] rfl (U4 (U2 Z6h Z6i rfl rfl rfl (Ux rfl (by kernel_rfl) S8 8 rfl ?_))))
 clear S8
 refine wat 0 7 rfl (by kernel_rfl) (fun _ _ _ hz Sz => .inl (U8 (us := [_, _]) rfl rfl uT24 rfl sz24 (Sz.suf.boxcs (i := 4) rfl ⟨rfl, rfl, trivial⟩))) ?_
 refine wat 1 6 rfl (by kernel_rfl) (fun _ _ _ hz Sz => .inl (U8 (us := [_, _]) rfl rfl uT120 rfl sz120 (Sz.suf.boxcs (i := 0) rfl ⟨rfl, rfl, trivial⟩))) ?_
 refine wat 2 5 rfl (by kernel_rfl) (fun _ _ _ hz Sz => Uq rfl rfl rfl rfl rfl cf72 Sz (ArcAt_q d ((Ud d x.a x.b).1) (((Ud d x.a x.b).2 + 3) % 4) ((hdcrs.mono (Hp.Ua hz Sz.mx)).mono Sz.Uw) (by omega) (by omega) Sz.lend)) ?_
 refine wat 3 4 rfl (by kernel_rfl) (fun _ _ _ hz Sz => .inl (U8 (us := [_, _]) rfl rfl uT24 rfl sz24 (Sz.suf.boxcs (i := 4) rfl ⟨rfl, rfl, trivial⟩))) ?_
 refine wat 4 3 rfl (by kernel_rfl) (fun _ _ _ hz Sz => .inl (U8 (us := [_, _]) rfl rfl uT120 rfl sz120 (Sz.suf.boxcs (i := 0) rfl ⟨rfl, rfl, trivial⟩))) ?_
 refine wat 5 2 rfl (by kernel_rfl) (fun _ _ _ hz Sz => Uq rfl rfl rfl rfl rfl cf73 Sz (Entry_q d ((Ud d x.a x.b).1) (((Ud d x.a x.b).2 + 3) % 4) ((hdcrs.mono (Hp.Ua hz Sz.mx)).mono Sz.Uw) (by omega) (by omega) Sz.lend)) ?_
 refine wat 6 1 rfl (by kernel_rfl) (fun _ _ _ hz Sz => .inl (run_build (l := [_, _]) rfl rfl st26 rfl rfl)) ?_
 refine Um (i := 7) 0 rfl (by kernel_rfl) rfl rfl (fun w17 S17 => ?_)
 refine (U7 (i := 2) (us := [_, _]) (l' := [_, _]) (H' := [_, _, _, _, _]) rfl rfl S17 rfl rfl rfl rfl sz26 rfl rfl rfl rfl ?_)
 intro w18 S18; clear S17
 refine U10.turn (by kernel_rfl) S18 ?_; clear S18
 change WA _ _ _ _ _ _ _ _ _ _ _ _ [_, _, _, _, _]
 refine Uu (by kernel_rfl) (fun w19 S19 => ?_)
 refine nmk [4] rfl (U4 (Uk hC [_] rfl rfl ⟨⟨_, rfl, Up (us := [_, _]) uT26 rfl sz26 (S19.boxcs (i := 2) rfl ⟨rfl, rfl, trivial⟩)⟩, trivial⟩ ?_))
 exact ⟨_, rfl, (S19.pick [] [] (by decide) trivial), rfl⟩
noncomputable def Z6j:=Tryz.f130.body.getD .skip
def Z6k := cL Z6j
def Z6l := cR Z6j
def Z6m := cL Z6l
def Z6n := cR Z6l
def Z6o := cL Z6m
def Z6p := cR Z6m
def Z6q := cL Z6p
def Z6r := cR Z6p
def Z6s := cL Z6q
def Z6t := cR Z6q
def Z6u := cL Z6n
def Z6v := cR Z6n
set_option maxRecDepth 10000 in
theorem dartCode_q {w : World} {M : Hp} {X : Fr} (x : Da) (hx : 1 ≤ x.a ∧ x.a ≤ 1000) (S : SH w M X []) : Cq Tryz.prog 130 [.agg [.int .i64 x.a, .bool x.b].toArray] w M X (fun u => u = .int .i64 (dcN x : Int)) := by
 unfold Cq
 refine Uo (b := Z6j) Tryz.func130 rfl Tryz.ntmps130 rfl (fun C hC => (U14 [(0, _)] ⟨rfl, trivial⟩ (U2 Z6k Z6l rfl rfl rfl (U1 rfl (wlo 0 1 rfl rfl rfl (U18 (l := [_, _]) rfl rfl rfl rfl rfl S ?_))))))
 intro gb1 w1 S1; clear S
 refine mvs 1 1 rfl rfl (U5 rfl (nmk [1] rfl (U4 (U2 Z6m Z6n rfl rfl rfl (U2 Z6o Z6p rfl rfl rfl (U1 rfl (wlr 0 rfl (U0 rfl rfl uT26 rfl (ce4) (nf4)) (wlr 1 rfl (U3 rfl rfl uT4 rfl (S1.boxc (i := 0) rfl rfl)) ?_))))))))
 refine U5 rfl (nmk [1, 4] rfl (U4 ?_))
 refine U19 Z6q Z6r rfl rfl rfl rfl (fun hb4 => ?_) (fun hb4 => ?_)
 ·refine U2 Z6s Z6t rfl rfl rfl (U1 rfl (wlr 0 rfl (U0 rfl rfl uT26 rfl (ce3) (nf3)) (wlr 1 rfl (U3 rfl rfl uT3 rfl (S1.boxc (i := 0) rfl rfl)) (wlr 2 rfl (U28 rfl rfl rfl (by first | omega | (simp only [ls]; omega))) ?_))))
  refine wlr 3 rfl (Ug rfl rfl rfl (by first | omega | (simp only [ls]; omega))) ?_
  refine mvs 4 1 rfl rfl (U5 rfl (nmk [2] rfl (U4 (Uk hC [_] rfl rfl ⟨rfl, trivial⟩ ?_))))
  exact ⟨_, rfl, (S1.pick [] [] (by decide) trivial), (by show Value.int _ _ = _; refine congrArg (Value.int .i64) ?_; unfold dcN; rw [hb4]; first | (rw [if_pos rfl]; omega) | (rw [if_neg Bool.false_ne_true]; omega))⟩
 ·refine Uf rfl (nmk [1] rfl (U4 (U2 Z6u Z6v rfl rfl rfl (U1 rfl (wlr 0 rfl (U0 rfl rfl uT26 rfl (ce3) (nf3)) (wlr 1 rfl (U3 rfl rfl uT3 rfl (S1.boxc (i := 0) rfl rfl)) (wlr 2 rfl (U28 rfl rfl rfl (by first | omega | (simp only [ls]; omega))) ?_)))))))
  refine mvs 3 1 rfl rfl (U5 rfl (nmk [2] rfl (U4 (Uk hC [_] rfl rfl ⟨rfl, trivial⟩ ?_))))
  exact ⟨_, rfl, (S1.pick [] [] (by decide) trivial), (by show Value.int _ _ = _; refine congrArg (Value.int .i64) ?_; unfold dcN; rw [hb4]; first | (rw [if_pos rfl]; omega) | (rw [if_neg Bool.false_ne_true]; omega))⟩
noncomputable def Z6w:=Tryz.f74.body.getD .skip
def Z6x := cL Z6w
def Z6y := cR Z6w
def Z6z := cL Z6y
def Z70 := cR Z6y
def Z71 := cL Z70
def Z72 := cR Z70
def Z73 := cL Z72
def Z74 := cR Z72
def Z75 := cL Z74
def Z76 := cR Z74
def Z77 := cL Z75
def Z78 := cR Z75
def Z79 := cL Z78
def Z7a := cL Z79
def Z7b := cL Z7a
def Z7c := cR Z7a
def Z7d := cL Z7b
def Z7e := cR Z7b
def Z7f := cL Z7e
def Z7g := cR Z7e
def Z7h := cL Z7c
def Z7i := cR Z7c
def Z7j := cL Z7h
def Z7k := cL Z7j
def Z7l := cR Z7j
def Z7m := cL Z7k
def Z7n := cR Z7k
def Z7o := cL Z7n
def Z7p := cR Z7n
def Z7q := cL Z7l
def Z7r := cR Z7l
def Z7s := cL Z7r
def Z7t := cR Z7r
def Z7u := cL Z7t
def Z7v := cR Z7t
def Z7w := cL Z7u
def Z7x := cL Z7w
def Z7y := cL Z7x
def Z7z := cR Z7x
def Z80 := cL Z7y
def Z81 := cR Z7y
def Z82 := cL Z81
def Z83 := cR Z81
def Z84 := cL Z7z
def Z85 := cL Z84
def Z86 := cR Z84
def Z87 := cL Z86
def Z88 := cR Z86
def Z89 := cL Z76
def Z8a := cR Z76
set_option maxHeartbeats 1000000 in
set_option maxRecDepth 10000 in
theorem FacesOf_t {w : World} {M : Hp} {X : Fr} (d : Dg) {dcrsA : Option Addr} {dcrsc : Nat} (hdcrs : RdA cdCr (M.un X.h) dcrsA dcrsc d.crs) (hn : d.crs.length ≤ 16) (hab : U1b d = true) (S : SH w M X []) : Ct Tryz.prog 74 [.agg [.slice dcrsA d.crs.length dcrsc, .int .i64 d.loops].toArray] w M X (FacesR d) := by
 unfold Ct
 have rmhdcrs : d.crs.length * 40 ≤ 140737488355328 := hdcrs.room
 refine Uo (b := Z6w) Tryz.func74 rfl Tryz.ntmps74 rfl (fun C hC => (U14 [(0, _)] ⟨rfl, trivial⟩ (U2 Z6x Z6y rfl rfl rfl (U1 rfl (wlo 0 1 rfl rfl rfl (U18 (l := [_, _]) rfl rfl rfl rfl rfl S ?_))))))
 intro gb1 w1 S1; clear S
 refine mvs 1 1 rfl rfl (U5 rfl (nmk [1] rfl (U4 (U2 Z6z Z70 rfl rfl rfl (U1 rfl (wlr 0 rfl (U0 rfl rfl uT24 rfl (ce22) (nf22)) (wlr 1 rfl (U3 rfl rfl uT22 rfl (S1.boxc (i := 0) rfl rfl)) (wlr 2 rfl (U1f rfl rfl rfl rfl rfl rfl uT22) ?_))))))))
 refine wlr 3 rfl (U28 rfl rfl rfl (by first | omega | (simp only [ls]; omega))) ?_
 refine wlr 4 rfl (Ug rfl rfl rfl (by first | omega | (simp only [ls]; omega))) ?_
 refine mvs 5 1 rfl rfl (U5 rfl (nmk [1, 3] rfl (U4 (U2 Z71 Z72 rfl rfl rfl (U1 rfl (mvs 0 1 rfl rfl (wlo 1 2 rfl rfl rfl (wo_make (C := U2f) ((4 * (d.crs.length : Int)).toNat + 2) rfl rfl rfl rfl rfl sl130 (by first | rfl | omega) (by show _ * 1 ≤ _; first | omega | (simp only [ls]; omega)) S1 ?_))))))))
 intro vr1 w2 S2; clear S1
 refine mvs 2 1 rfl rfl (U5 rfl (nmk [1, 3, 4] rfl (U4 (U2 Z73 Z74 rfl rfl rfl (U1 rfl (mvs 0 1 rfl rfl (U5 rfl (U4 ?_))))))))
 refine U2 Z75 Z76 rfl rfl rfl (U2 Z77 Z78 rfl rfl rfl (U1 rfl (mvs 0 1 rfl rfl (U5 rfl (U4 (Uc Z79 0 rfl rfl rfl ?_))))))
 have S3 := S2.nilrow (cdV 141); clear S2
 refine U11 (fun mx_ ax_ wx_ => ∃ (k : Nat) (seen : List Bool) (outc : List (List Int)) (vs : List SlV) (vrs : Value) (vro : Value) (M1 : Hp), M.le M1 ∧ mx_ = 4 * d.crs.length - k ∧ Env 53 [(1, .pointer (some ⟨gb1, 0, none⟩)), (3, .int .i64 ((4 * (d.crs.length : Int)) + 2)), (4, vrs), (5, vro), (6, .int .i64 ((k + 2 : Nat) : Int))] ax_ ∧ SH wx_ M1 X [Rs.row (cdV 141) vro vs, Rs.row U2f vrs seen, Rs.box gb1 24 [.slice dcrsA d.crs.length dcrsc, .int .i64 d.loops]] ∧ k ≤ 4 * d.crs.length ∧ U1w d k = (seen, outc) ∧ Rd2 cdDa M1 vs (outc.map dasL)) rfl ?_ ?_
 ·intro ax_ hax_
  refine ⟨_, ⟨0, _, [], _, _, _, _, Hp.le_refl _, rfl, hax_.sub ⟨rfl, rfl, rfl, rfl, rfl, trivial⟩, S3.pick [0, 1, 2] [_, _, _] (by decide) ⟨rfl, rfl, rfl, trivial⟩, ?hq1f0, ?hq1f1, ?hq1f2⟩⟩
  case hq1f0 => omega
  case hq1f1 => (unfold U1w; first | rfl | (congr 1))
  case hq1f2 => first | exact Rd2.nil_ | (rw [e9]; exact Rd2.nil_)
 ·rintro m1 a1 w3 ⟨k, seen, outc, vs, vrs, vro, M1, hle1, rfl, he1, S4, hk, hfn, hdo⟩
  clear S3
  refine U1u he1 (c := Z7a) rfl ?_
  clear he1 a1
  replace hdcrs := hdcrs.mono (Hp.Ua hle1 S4.mx)
  have hvs := hdo.1
  rw [List.length_map] at hvs
  have hmany := facesN_many d k
  rw [hfn] at hmany
  replace hmany : outc.length ≤ k := hmany
  have hsl : seen.length = 4 * d.crs.length + 2 := by have h9 := U45 d k; rw [hfn] at h9; exact h9
  refine U2 Z7b Z7c rfl rfl rfl (U2 Z7d Z7e rfl rfl rfl (U1 rfl (mvs 0 2 rfl rfl (wlr 2 rfl (U17 rfl rfl rfl) (U5 rfl (nmk [1, 3, 4, 5, 6, 18] rfl (U4 ?_)))))))
  refine Ue Z7f Z7g rfl rfl rfl rfl (fun hb18 => ?_) (fun hb18 => ?_)
  ·refine Uf rfl (nmk [1, 3, 4, 5, 6] rfl (U4 (U2 Z7h Z7i rfl rfl rfl (Uc Z7j 1 rfl rfl rfl (U2 Z7k Z7l rfl rfl rfl (U2 Z7m Z7n rfl rfl rfl (U1 rfl (mvs 0 2 rfl rfl ?_))))))))
   refine wlr 2 rfl (Ui (C := U2f) (i := 1) (k + 2) rfl rfl rfl sl130 S4 rfl (by first | rfl | omega) (by first | omega | (simp only [ls]; omega))) ?_
   refine wlr 3 rfl (U3 rfl rfl uT4 rfl (S4.rowc (i := 1) (e := k + 2) (j := 0) rfl (by first | omega | (simp only [ls]; omega)) rfl rfl)) ?_
   refine U5 rfl (nmk [1, 3, 4, 5, 6, 24] rfl (U4 ?_))
   refine U19 Z7o Z7p rfl rfl rfl rfl (fun hb24 => ?_) (fun hb24 => ?_)
   ·refine U16 rfl rfl (nmk [1, 3, 4, 5, 6] rfl (U4 (U1 rfl (mvs 0 1 rfl rfl (wlr 1 rfl (Ug rfl rfl rfl (by first | omega | (simp only [ls]; omega))) ?_)))))
    refine mvs 2 1 rfl rfl (U5 rfl (U15 ?_))
    intro ax_ hax_
    refine ⟨_, ?hq2m, ⟨k + 1, _, outc, _, _, _, _, (hle1), rfl, hax_.sub ⟨rfl, rfl, rfl, rfl, rfl, trivial⟩, S4.pick [0, 1, 2] [_, _, _] (by decide) ⟨rfl, rfl, rfl, trivial⟩, ?hq2f0, ?hq2f1, ?hq2f2⟩⟩
    case hq2f0 => omega
    case hq2f1 => first | exact U2n hfn hb24 | exact U2o hfn (by simpa using hb24) (hrg.trans (ringF_stop (by simpa using hb36)))
    case hq2f2 => first | exact hdo | (rw [e9]; exact hdo)
    case hq2m => omega
   ·refine Uf rfl (nmk [1, 3, 4, 5, 6] rfl (U4 (U2 Z7q Z7r rfl rfl rfl (U1 rfl (mvs 0 1 rfl rfl (U5 rfl (U4 (U2 Z7s Z7t rfl rfl rfl ?_))))))))
    refine U1 rfl (mvs 0 1 rfl rfl (wlr 1 rfl (run_quo rfl rfl rfl (by first | omega | (simp only [ls]; omega))) ?_))
    refine mvs 2 1 rfl rfl (wlr 3 rfl (U2i rfl rfl rfl (by first | omega | (simp only [ls]; omega))) ?_)
    refine wlr 4 rfl (Uz rfl rfl rfl) (U1t 26 (.int .i64 ((dA (k + 2)).a)) rfl (int_eq (by show _ = (((k + 2) / 2 : Nat) : Int); omega)) ?_)
    refine U1t 29 (.bool ((dA (k + 2)).b)) rfl (congrArg Value.bool (by show _ = decide _; exact decide_eq_decide.2 (by omega))) ?_
    refine wlr 5 rfl (run_build (l := [_, _]) rfl rfl st26 rfl rfl) (wlo 6 7 rfl rfl rfl (Uh (l := [_, _]) rfl rfl rfl zr26 rfl S4 ?_))
    intro gb2 w4 S5; clear S4
    refine wlo 7 8 rfl rfl rfl (U7 (i := 0) (us := [_, _]) (l' := [_, _]) (H' := [_, _, _, _]) rfl rfl S5 rfl rfl rfl rfl sz26 rfl rfl rfl rfl ?_)
    intro w5 S6; clear S5
    refine U5 rfl (nmk [1, 3, 4, 5, 6, 7, 8] rfl (U4 (U2 Z7u Z7v rfl rfl rfl (Uc Z7w 2 rfl rfl rfl ?_))))
    have S7 := S6.nilrow cdDa; clear S6
    refine U11 (fun mx_ ax_ wx_ => ∃ (seen2 : List Bool) (x : Nat) (y : Da) (acc : List Int) (ringt : List Da) (vrs2 : Value) (vring : Value), mx_ = free seen2 ∧ Env 53 [(1, .pointer (some ⟨gb1, 0, none⟩)), (3, .int .i64 ((4 * (d.crs.length : Int)) + 2)), (4, vrs2), (5, vro), (6, .int .i64 ((k + 2 : Nat) : Int)), (7, vring), (8, .pointer (some ⟨gb2, 0, none⟩))] ax_ ∧ SH wx_ M1 X [Rs.row cdDa vring ringt, Rs.box gb2 26 [.int .i64 y.a, .bool y.b], Rs.row (cdV 141) vro vs, Rs.row U2f vrs2 seen2, Rs.box gb1 24 [.slice dcrsA d.crs.length dcrsc, .int .i64 d.loops]] ∧ U2z (nxC d) seen (k + 2) [] = U2z (nxC d) seen2 x acc ∧ ringt = dasL acc ∧ (2 ≤ x ∧ x < 4 * d.crs.length + 2) ∧ seen2.length = 4 * d.crs.length + 2 ∧ y = dA x ∧ acc.length + free seen2 ≤ 100) rfl ?_ ?_
    ·intro ax_ hax_
     refine ⟨_, ⟨seen, k + 2, (dA (k + 2)), [], _, _, _, rfl, hax_.sub ⟨rfl, rfl, rfl, rfl, rfl, rfl, rfl, trivial⟩, S7.pick [0, 1, 2, 3, 4] [_, _, _, _, _] (by decide) ⟨rfl, rfl, rfl, rfl, rfl, trivial⟩, ?hq3f0, ?hq3f1, ?hq3f2, ?hq3f3, ?hq3f4, ?hq3f5⟩⟩
     case hq3f0 => rfl
     case hq3f1 => rfl
     case hq3f2 => omega
     case hq3f3 => exact hsl
     case hq3f4 => rfl
     case hq3f5 => (have h8 : free seen ≤ seen.length := List.countP_le_length; simp only [List.length_nil]; omega)
    ·rintro m2 a2 w6 ⟨seen2, x, y, acc, ringt, vrs2, vring, rfl, he2, S8, hrg, hring, hx, hs2, hy, hroom⟩
     clear S7
     refine U1u he2 (c := Z7x) rfl ?_
     clear he2 a2
     have hyk : okD d y := by rw [hy]; exact dA_ok hx
     have hyk1 := hyk.1
     have hyk2 := hyk.2
     have hrl : ringt.length = acc.length := by rw [hring]; simp [dasL]
     have hdc : dcN y = x := by rw [hy]; exact dcN_dA x
     refine U2 Z7y Z7z rfl rfl rfl (U2 Z80 Z81 rfl rfl rfl (U1 rfl (mvs 0 1 rfl rfl (wlr 1 rfl (U8 (us := [_, _]) rfl rfl uT26 rfl sz26 (S8.boxcs (i := 1) rfl ⟨rfl, rfl, trivial⟩)) (wlo 2 3 rfl rfl rfl (U20 rfl rfl rfl rfl rfl rfl rfl cf130 S8 (dartCode_q y ((by omega)) S8.lend) ?_))))))
     rintro _ w7 S9 rfl; clear S8
     refine U1t 33 (.int .i64 (x : Int)) rfl (int_eq (by rw [hdc])) ?_
     refine wlr 3 rfl (Ui (C := U2f) (i := 3) x rfl rfl rfl sl130 S9 rfl (by first | rfl | omega) (by first | omega | (simp only [ls]; omega))) ?_
     refine wlr 4 rfl (U3 rfl rfl uT4 rfl (S9.rowc (i := 3) (e := x) (j := 0) rfl (by first | omega | (simp only [ls]; omega)) rfl rfl)) ?_
     refine wlr 5 rfl (U1j rfl rfl) (U5 rfl (nmk [1, 3, 4, 5, 6, 7, 8, 36] rfl (U4 ?_)))
     refine U19 Z82 Z83 rfl rfl rfl rfl (fun hb36 => ?_) (fun hb36 => ?_)
     ·simp only [Bool.and_eq_true, Bool.or_eq_true, Bool.and_eq_false_iff, Bool.or_eq_false_iff, decide_eq_true_eq, decide_eq_false_iff_not, Bool.not_eq_true', Bool.not_eq_false'] at hb36
      refine Uf rfl (nmk [1, 3, 4, 5, 6, 7, 8] rfl (U4 (Uc Z84 3 rfl rfl rfl (U2 Z85 Z86 rfl rfl rfl (U1 rfl (mvs 0 1 rfl rfl (wlr 1 rfl (U8 (us := [_, _]) rfl rfl uT26 rfl sz26 (S9.boxcs (i := 1) rfl ⟨rfl, rfl, trivial⟩)) (wlo 2 3 rfl rfl rfl (U20 rfl rfl rfl rfl rfl rfl rfl cf130 S9 (dartCode_q y ((by omega)) S9.lend) ?_)))))))))
      rintro _ w8 S10 rfl; clear S9
      refine U1t 39 (.int .i64 (x : Int)) rfl (int_eq (by rw [hdc])) ?_
      refine wlr 3 rfl (Ui (C := U2f) (i := 3) x rfl rfl rfl sl130 S10 rfl (by first | rfl | omega) (by first | omega | (simp only [ls]; omega))) ?_
      refine wlo 4 5 rfl rfl rfl (U1i (C := U2f) (i := 3) (e := x) (j := 0) (us := [_]) (H' := [_, _, _, _, _]) true rfl rfl S10 rfl (by first | omega | (simp only [ls]; omega)) rfl rfl rfl sz4 rfl rfl rfl rfl ?_)
      intro w9 S11; clear S10
      refine U5 rfl (nmk [1, 3, 4, 5, 6, 7, 8] rfl (U4 (U2 Z87 Z88 rfl rfl rfl (U1 rfl (mvs 0 1 rfl rfl (wlr 1 rfl (U8 (us := [_, _]) rfl rfl uT26 rfl sz26 (S11.boxcs (i := 1) rfl ⟨rfl, rfl, trivial⟩)) (wlo 2 3 rfl rfl rfl (U13 (C := cdDa) (l := [_, _]) rfl rfl rfl rfl sl141 rfl rfl rfl rfl S11 ?_))))))))
      intro gb3 w10 S12; clear S11
      refine wlo 3 4 rfl rfl rfl (U1l (C := cdDa) (i := 1) (q := 0) (⟨y.a, y.b⟩ : Da) rfl rfl rfl rfl rfl rfl rfl rfl sl141 S12 rfl rfl rfl (by show (_ + 1) * 16 ≤ _; first | omega | (simp only [ls]; omega)) ?_)
      intro vring1 w11 S13; clear S12
      have S14 := S13.pick [1, 2, 3, 4, 5] [_, _, _, _, _] (by decide) ⟨rfl, rfl, rfl, rfl, rfl, trivial⟩; clear S13
      refine mvs 4 1 rfl rfl (U5 rfl (nmk [1, 3, 4, 5, 6, 7, 8] rfl (U4 (U1 rfl (wlr 0 rfl (U8 (us := [_, _]) rfl rfl uT24 rfl sz24 (S14.boxcs (i := 4) rfl ⟨rfl, rfl, trivial⟩)) (wlr 1 rfl (U8 (us := [_, _]) rfl rfl uT26 rfl sz26 (S14.boxcs (i := 1) rfl ⟨rfl, rfl, trivial⟩)) (wlo 2 3 rfl rfl rfl (U20 rfl rfl rfl rfl rfl rfl rfl cf131 S14 (NextDart_q d y (hdcrs.mono S14.Uw) (hab) ((by first | assumption | omega)) S14.lend) ?_))))))))
      rintro _ w12 S15 rfl; clear S14
      refine wlo 3 4 rfl rfl rfl (U7 (i := 1) (us := [_, _]) (l' := [_, _]) (H' := [_, _, _, _, _]) rfl rfl S15 rfl rfl rfl rfl sz26 rfl rfl rfl rfl ?_)
      intro w13 S16; clear S15
      refine U5 rfl (U12 (U15 ?_))
      have hga : ga seen2 x = false := by simpa using hb36
      have hfr := U2s (seen := seen2) (x := x) (by omega) hga
      intro ax_ hax_
      refine ⟨_, ?hq4m, ⟨seen2.set x true, nxC d x, leftD d y, acc ++ [(x : Int)], _, _, _, rfl, hax_.sub ⟨rfl, rfl, rfl, rfl, rfl, rfl, rfl, trivial⟩, S16.pick [0, 1, 2, 3, 4] [_, _, _, _, _] (by decide) ⟨rfl, rfl, rfl, rfl, rfl, trivial⟩, ?hq4f0, ?hq4f1, ?hq4f2, ?hq4f3, ?hq4f4, ?hq4f5⟩⟩
      case hq4f0 => (rw [hrg]; exact U3u (by omega) hga)
      case hq4f1 => (rw [dasL_snoc, ← hring, hy])
      case hq4f2 => exact nxC_rng hab hx
      case hq4f3 => (rw [List.length_set]; exact hs2)
      case hq4f4 => (rw [hy, dA_nxC hab hx])
      case hq4f5 => (simp only [List.length_append, List.length_cons, List.length_nil]; omega)
      case hq4m => omega
     ·simp only [Bool.and_eq_true, Bool.or_eq_true, Bool.and_eq_false_iff, Bool.or_eq_false_iff, decide_eq_true_eq, decide_eq_false_iff_not, Bool.not_eq_true', Bool.not_eq_false'] at hb36
      refine U16 rfl rfl (nmk [1, 3, 4, 5, 6, 7] rfl (U4 (U1 rfl (mvs 0 2 rfl rfl ?_))))
      obtain ⟨M2, hle3, S17, ⟨A1, c1, e1, hr1⟩⟩ := S9.pubrow (i := 0) (H' := [_, _, _, _, _]) rfl rfl (by show _ * 16 ≤ _; first | omega | (simp only [ls]; omega))
      clear S9; subst e1
      replace hdcrs := hdcrs.mono (Hp.Ua hle3 S17.mx)
      replace hdo := hdo.mono hle3
      refine wlo 2 3 rfl rfl rfl (U13 (C := (cdV 141)) (l := [_]) rfl rfl rfl rfl sl65 rfl rfl rfl rfl S17 ?_)
      intro gb4 w14 S18; clear S17
      refine wlo 3 4 rfl rfl rfl (U1l (C := (cdV 141)) (i := 3) (q := 0) (⟨A1, ringt.length, c1⟩ : SlV) rfl rfl rfl rfl rfl rfl rfl rfl sl65 S18 rfl rfl rfl (by show (_ + 1) * 24 ≤ _; first | omega | (simp only [ls]; omega)) ?_)
      intro vro1 w15 S19; clear S18
      have S20 := S19.pick [1, 2, 3, 4, 5] [_, _, _, _, _] (by decide) ⟨rfl, rfl, rfl, rfl, rfl, trivial⟩; clear S19
      have hd1 := hdo.snoc (c := c1) hr1
      refine mvs 4 1 rfl rfl (U5 rfl (U12 (nmk [1, 3, 4, 5, 6] rfl (U4 (U1 rfl (mvs 0 1 rfl rfl (wlr 1 rfl (Ug rfl rfl rfl (by first | omega | (simp only [ls]; omega))) ?_)))))))
      refine mvs 2 1 rfl rfl (U5 rfl (U15 ?_))
      have hdx : dcN y = x := by rw [hy]; exact dcN_dA x
      have e9 : List.map dasL (outc ++ [acc]) = List.map dasL outc ++ [ringt] := by rw [List.map_append, show List.map dasL [acc] = [ringt] from by rw [hring]; rfl]
      intro ax_ hax_
      refine ⟨_, ?hq5m, ⟨k + 1, _, (outc ++ [acc]), _, _, _, _, (hle1.trans hle3), rfl, hax_.sub ⟨rfl, rfl, rfl, rfl, rfl, trivial⟩, S20.pick [2, 3, 4] [_, _, _] (by decide) ⟨rfl, rfl, rfl, trivial⟩, ?hq5f0, ?hq5f1, ?hq5f2⟩⟩
      case hq5f0 => omega
      case hq5f1 => first | exact U2n hfn hb24 | exact U2o hfn (by simpa using hb24) (hrg.trans (ringF_stop (by simpa using hb36)))
      case hq5f2 => first | exact hd1 | (rw [e9]; exact hd1)
      case hq5m => omega
  ·refine U16 rfl rfl (nmk [5] rfl (U4 (U2 Z89 Z8a rfl rfl rfl (U1 rfl (mvs 0 2 rfl rfl (U5 rfl (nmk [2] rfl (U4 ?_))))))))
   obtain ⟨M3, hle4, S21, ⟨A2, c2, e2, hr2⟩⟩ := S4.pubrow (i := 0) (H' := [_, _, _]) rfl rfl (by show _ * 24 ≤ _; first | omega | (simp only [ls]; omega))
   clear S4; subst e2
   replace hdcrs := hdcrs.mono (Hp.Ua hle4 S21.mx)
   replace hdo := hdo.mono hle4
   refine Uk hC [_] rfl rfl ⟨rfl, trivial⟩ ?_
   refine ⟨_, rfl, _, hle1.trans hle4, (S21.pick [] [] (by decide) trivial), ?_⟩
   obtain rfl : k = 4 * d.crs.length := by omega
   have e2 : U6 d = outc.map dasL := by unfold U6 facesD; rw [hfn]
   unfold FacesR
   rw [e2]
   exact ⟨_, _, _, rfl, hr2, hdo⟩
end Go.Proofs.YthppkofceancjaaGreat
namespace Go.Proofs.YthppkofceancjaaGreat
open Go.ChangeShapes Go.WideShapes Go.ChangeAt Go.RowKit
def stepW (ws : List Int) (x y : Nat) : List Int := if ga ws x < ga ws y then ws.set y (ga ws x) else ws.set x (ga ws y)
def iniW (n : Nat) : Nat → List Int
 | 0 => List.replicate n 0
 | k + 1 => (iniW n k).set k (k : Int)
def endC (d : Dg) (k : Nat) (b : Bool) : Nat := (Ud d ((k + 1 : Nat) : Int) b).1
def roundW (d : Dg) (ws : List Int) : Nat → List Int
 | 0 => ws
 | k + 1 => stepW (roundW d ws k) (endC d k false) (endC d k true)
def rndsW (d : Dg) : Nat → List Int
 | 0 => iniW d.crs.length d.crs.length
 | j + 1 => roundW d (rndsW d j) (2 * d.crs.length)
def whoL (d : Dg) : List Int := rndsW d d.crs.length
theorem stepW_len (ws : List Int) (x y : Nat) : (stepW ws x y).length = ws.length := by
 unfold stepW
 split <;> rw [List.length_set]
theorem U3v (n k : Nat) : (iniW n k).length = n := by
 induction k with
 | zero => exact List.length_replicate
 | succ k ih => rw [iniW, List.length_set, ih]
theorem roundW_len (d : Dg) (ws : List Int) (k : Nat) : (roundW d ws k).length = ws.length := by
 induction k with
 | zero => rfl
 | succ k ih => rw [roundW, stepW_len, ih]
theorem rndsW_len (d : Dg) (j : Nat) : (rndsW d j).length = d.crs.length := by
 induction j with
 | zero => exact U3v _ _
 | succ j ih => rw [rndsW, roundW_len, ih]
theorem endC_lt {d : Dg} (h : U1b d = true) {k : Nat} (hk : k < 2 * d.crs.length) (b : Bool) : endC d k b < d.crs.length := (endD h (a := ((k + 1 : Nat) : Int)) (by omega) b).1
noncomputable def Z8b:=Tryz.f25.body.getD .skip
def Z8c := cL Z8b
def Z8d := cR Z8b
def Z8e := cL Z8d
def Z8f := cR Z8d
def Z8g := cL Z8f
def Z8h := cR Z8f
def Z8i := cL Z8h
def Z8j := cR Z8h
def Z8k := cL Z8i
def Z8l := cR Z8i
def Z8m := cL Z8l
def Z8n := cL Z8m
def Z8o := cL Z8n
def Z8p := cR Z8n
def Z8q := cL Z8o
def Z8r := cR Z8o
def Z8s := cL Z8r
def Z8t := cR Z8r
def Z8u := cL Z8p
def Z8v := cR Z8p
def Z8w := cL Z8u
def Z8x := cL Z8j
def Z8y := cR Z8j
def Z8z := cL Z8x
def Z90 := cR Z8x
def Z91 := cL Z90
def Z92 := cL Z91
def Z93 := cL Z92
def Z94 := cR Z92
def Z95 := cL Z93
def Z96 := cR Z93
def Z97 := cL Z96
def Z98 := cR Z96
def Z99 := cL Z94
def Z9a := cR Z94
def Z9b := cL Z99
def Z9c := cL Z9b
def Z9d := cR Z9b
def Z9e := cL Z9d
def Z9f := cL Z9e
def Z9g := cL Z9f
def Z9h := cR Z9f
def Z9i := cL Z9g
def Z9j := cR Z9g
def Z9k := cL Z9j
def Z9l := cR Z9j
def Z9m := cL Z9h
def Z9n := cR Z9h
def Z9o := cL Z9m
def Z9p := cL Z9o
def Z9q := cR Z9o
def Z9r := cL Z9q
def Z9s := cR Z9q
def Z9t := cL Z9s
def Z9u := cR Z9s
def Z9v := cL Z8y
def Z9w := cR Z8y
set_option maxHeartbeats 1000000 in
set_option maxRecDepth 10000 in
theorem PiecesOf_t {w : World} {M : Hp} {X : Fr} (d : Dg) {dcrsA : Option Addr} {dcrsc : Nat} (hdcrs : RdA cdCr (M.un X.h) dcrsA dcrsc d.crs) (hn : d.crs.length ≤ 16) (hab : U1b d = true) (S : SH w M X []) : Ct Tryz.prog 25 [.agg [.slice dcrsA d.crs.length dcrsc, .int .i64 d.loops].toArray] w M X (fun u M => ∃ A c, u = .slice A (whoL d).length c ∧ RdA Uv M A c (whoL d)) := by
 unfold Ct
 have rmhdcrs : d.crs.length * 40 ≤ 140737488355328 := hdcrs.room
 refine Uo (b := Z8b) Tryz.func25 rfl Tryz.ntmps25 rfl (fun C hC => (U14 [(0, _)] ⟨rfl, trivial⟩ (U2 Z8c Z8d rfl rfl rfl (U1 rfl (wlo 0 1 rfl rfl rfl (U18 (l := [_, _]) rfl rfl rfl rfl rfl S ?_))))))
 intro gb1 w1 S1; clear S
 refine mvs 1 1 rfl rfl (U5 rfl (nmk [1] rfl (U4 (U2 Z8e Z8f rfl rfl rfl (U1 rfl (wlr 0 rfl (U0 rfl rfl uT24 rfl (ce22) (nf22)) (wlr 1 rfl (U3 rfl rfl uT22 rfl (S1.boxc (i := 0) rfl rfl)) (wlr 2 rfl (U1f rfl rfl rfl rfl rfl rfl uT22) ?_))))))))
 refine mvs 3 1 rfl rfl (U5 rfl (nmk [1, 3] rfl (U4 (U2 Z8g Z8h rfl rfl rfl (U1 rfl (mvs 0 1 rfl rfl (wlo 1 2 rfl rfl rfl (wo_make (C := Uv) d.crs.length rfl rfl rfl rfl rfl sl53 (by first | rfl | omega) (by show _ * 8 ≤ _; first | omega | (simp only [ls]; omega)) S1 ?_))))))))
 intro vr1 w2 S2; clear S1
 refine mvs 2 1 rfl rfl (U5 rfl (nmk [1, 3, 4] rfl (U4 (U2 Z8i Z8j rfl rfl rfl (U2 Z8k Z8l rfl rfl rfl (U1 rfl (mvs 0 1 rfl rfl (U5 rfl ?_))))))))
 refine U4 (Uc Z8m 0 rfl rfl rfl ?_)
 refine U11 (fun mx_ ax_ wx_ => ∃ (i : Nat) (ws : List Int) (vrw : Value), mx_ = d.crs.length - i ∧ Env 67 [(1, .pointer (some ⟨gb1, 0, none⟩)), (3, .int .i64 (d.crs.length : Int)), (4, vrw), (5, .int .i64 (i : Int))] ax_ ∧ SH wx_ M X [Rs.row Uv vrw ws, Rs.box gb1 24 [.slice dcrsA d.crs.length dcrsc, .int .i64 d.loops]] ∧ i ≤ d.crs.length ∧ ws = iniW d.crs.length i) rfl ?_ ?_
 ·intro ax_ hax_
  refine ⟨_, ⟨0, _, _, rfl, hax_.sub ⟨rfl, rfl, rfl, rfl, trivial⟩, S2.pick [0, 1] [_, _] (by decide) ⟨rfl, rfl, trivial⟩, ?hq1f0, ?hq1f1⟩⟩
  case hq1f0 => omega
  case hq1f1 => rfl
 ·rintro m1 a1 w3 ⟨i, ws, vrw, rfl, he1, S3, hi, hw⟩
  clear S2
  refine U1u he1 (c := Z8n) rfl ?_
  clear he1 a1
  have hl1 : ws.length = d.crs.length := by rw [hw, U3v]
  refine U2 Z8o Z8p rfl rfl rfl (U2 Z8q Z8r rfl rfl rfl (U1 rfl (mvs 0 2 rfl rfl (wlr 2 rfl (U17 rfl rfl rfl) (U5 rfl (nmk [1, 3, 4, 5, 17] rfl (U4 ?_)))))))
  refine Ue Z8s Z8t rfl rfl rfl rfl (fun hb17 => ?_) (fun hb17 => ?_)
  ·refine Uf rfl (nmk [1, 3, 4, 5] rfl (U4 (U2 Z8u Z8v rfl rfl rfl (Uc Z8w 1 rfl rfl rfl (U1 rfl (mvs 0 3 rfl rfl (wlr 3 rfl (Ui (C := Uv) (i := 0) i rfl rfl rfl sl53 S3 rfl (by first | rfl | omega) (by first | omega | (simp only [ls]; omega))) ?_)))))))
   refine wlo 4 5 rfl rfl rfl (U1i (C := Uv) (i := 0) (e := i) (j := 0) (us := [_]) (H' := [_, _]) (i : Int) rfl rfl S3 rfl (by first | omega | (simp only [ls]; omega)) rfl rfl rfl sz3 rfl rfl rfl rfl ?_)
   intro w4 S4; clear S3
   refine U5 rfl (U12 (nmk [1, 3, 4, 5] rfl (U4 (U1 rfl (mvs 0 1 rfl rfl (wlr 1 rfl (Ug rfl rfl rfl (by first | omega | (simp only [ls]; omega))) ?_))))))
   refine mvs 2 1 rfl rfl (U5 rfl (U15 ?_))
   intro ax_ hax_
   refine ⟨_, ?hq2m, ⟨i + 1, _, _, rfl, hax_.sub ⟨rfl, rfl, rfl, rfl, trivial⟩, S4.pick [0, 1] [_, _] (by decide) ⟨rfl, rfl, trivial⟩, ?hq2f0, ?hq2f1⟩⟩
   case hq2f0 => omega
   case hq2f1 => (rw [hw]; rfl)
   case hq2m => omega
  ·refine U16 rfl rfl (nmk [1, 3, 4] rfl (U4 (U2 Z8x Z8y rfl rfl rfl (U2 Z8z Z90 rfl rfl rfl (U1 rfl (mvs 0 1 rfl rfl (U5 rfl (U4 ?_))))))))
   refine Uc Z91 2 rfl rfl rfl ?_
   refine U11 (fun mx_ ax_ wx_ => ∃ (j : Nat) (ws2 : List Int) (vrw2 : Value), mx_ = d.crs.length - j ∧ Env 67 [(1, .pointer (some ⟨gb1, 0, none⟩)), (3, .int .i64 (d.crs.length : Int)), (4, vrw2), (6, .int .i64 (j : Int))] ax_ ∧ SH wx_ M X [Rs.row Uv vrw2 ws2, Rs.box gb1 24 [.slice dcrsA d.crs.length dcrsc, .int .i64 d.loops]] ∧ j ≤ d.crs.length ∧ ws2 = rndsW d j) rfl ?_ ?_
   ·intro ax_ hax_
    refine ⟨_, ⟨0, _, _, rfl, hax_.sub ⟨rfl, rfl, rfl, rfl, trivial⟩, S3.pick [0, 1] [_, _] (by decide) ⟨rfl, rfl, trivial⟩, ?hq3f0, ?hq3f1⟩⟩
    case hq3f0 => omega
    case hq3f1 => (obtain rfl : i = d.crs.length := (by omega); exact hw)
   ·rintro m2 a2 w5 ⟨j, ws2, vrw2, rfl, he2, S5, hj, hw2⟩
    clear S3
    refine U1u he2 (c := Z92) rfl ?_
    clear he2 a2
    have hl2 : ws2.length = d.crs.length := by rw [hw2, rndsW_len]
    refine U2 Z93 Z94 rfl rfl rfl (U2 Z95 Z96 rfl rfl rfl (U1 rfl (mvs 0 2 rfl rfl (wlr 2 rfl (U17 rfl rfl rfl) (U5 rfl (nmk [1, 3, 4, 6, 26] rfl (U4 ?_)))))))
    refine Ue Z97 Z98 rfl rfl rfl rfl (fun hb26 => ?_) (fun hb26 => ?_)
    ·refine Uf rfl (nmk [1, 3, 4, 6] rfl (U4 (U2 Z99 Z9a rfl rfl rfl (Uc Z9b 3 rfl rfl rfl (U2 Z9c Z9d rfl rfl rfl (U1 rfl (mvs 0 1 rfl rfl (U5 rfl ?_))))))))
     refine U4 (Uc Z9e 4 rfl rfl rfl ?_)
     refine U11 (fun mx_ ax_ wx_ => ∃ (k : Nat) (ws3 : List Int) (vrw3 : Value), mx_ = 2 * d.crs.length - k ∧ Env 67 [(1, .pointer (some ⟨gb1, 0, none⟩)), (3, .int .i64 (d.crs.length : Int)), (4, vrw3), (6, .int .i64 (j : Int)), (7, .int .i64 ((k + 1 : Nat) : Int))] ax_ ∧ SH wx_ M X [Rs.row Uv vrw3 ws3, Rs.box gb1 24 [.slice dcrsA d.crs.length dcrsc, .int .i64 d.loops]] ∧ k ≤ 2 * d.crs.length ∧ ws3 = roundW d ws2 k) rfl ?_ ?_
     ·intro ax_ hax_
      refine ⟨_, ⟨0, _, _, rfl, hax_.sub ⟨rfl, rfl, rfl, rfl, rfl, trivial⟩, S5.pick [0, 1] [_, _] (by decide) ⟨rfl, rfl, trivial⟩, ?hq4f0, ?hq4f1⟩⟩
      case hq4f0 => omega
      case hq4f1 => rfl
     ·rintro m3 a3 w6 ⟨k, ws3, vrw3, rfl, he3, S6, hk, hw3⟩
      clear S5
      refine U1u he3 (c := Z9f) rfl ?_
      clear he3 a3
      have hl3 : ws3.length = d.crs.length := by rw [hw3, roundW_len, hw2, rndsW_len]
      refine U2 Z9g Z9h rfl rfl rfl (U2 Z9i Z9j rfl rfl rfl (U1 rfl (mvs 0 2 rfl rfl (wlr 2 rfl (U28 rfl rfl rfl (by first | omega | (simp only [ls]; omega))) ?_))))
      refine wlr 3 rfl (U41 rfl rfl rfl) (U5 rfl (nmk [1, 3, 4, 6, 7, 32] rfl (U4 ?_)))
      refine Ue Z9k Z9l rfl rfl rfl rfl (fun hb32 => ?_) (fun hb32 => ?_)
      ·have hx := endC_lt hab (k := k) (by omega) false
       have hy := endC_lt hab (k := k) (by omega) true
       refine Uf rfl (nmk [1, 3, 4, 6, 7] rfl (U4 (U2 Z9m Z9n rfl rfl rfl (Uc Z9o 5 rfl rfl rfl (U2 Z9p Z9q rfl rfl rfl (Ux rfl (by kernel_rfl) S6 10 rfl ?_))))))
       clear S6
       refine wat 0 9 rfl (by kernel_rfl) (fun _ _ _ hz Sz => .inl (U8 (us := [_, _]) rfl rfl uT24 rfl sz24 (Sz.suf.boxcs (i := 1) rfl ⟨rfl, rfl, trivial⟩))) ?_
       refine wap 1 8 rfl (by kernel_rfl) (fun _ => run_move rfl rfl) ?_
       refine wat 2 7 rfl (by kernel_rfl) (fun _ _ _ hz Sz => Uq rfl rfl rfl rfl rfl cf60 Sz (U33 d ((k + 1 : Nat) : Int) false ((hdcrs.mono (Hp.Ua hz Sz.mx)).mono Sz.Uw) Sz.lend)) ?_
       refine wap 3 6 rfl (by kernel_rfl) (fun _ => U23 rfl rfl uT120 rfl uT3 rfl rfl) ?_
       refine wat 4 5 rfl (by kernel_rfl) (fun _ _ _ hz Sz => .inl (U8 (us := [_, _]) rfl rfl uT24 rfl sz24 (Sz.suf.boxcs (i := 1) rfl ⟨rfl, rfl, trivial⟩))) ?_
       refine wap 5 4 rfl (by kernel_rfl) (fun _ => run_move rfl rfl) ?_
       refine wat 6 3 rfl (by kernel_rfl) (fun _ _ _ hz Sz => Uq rfl rfl rfl rfl rfl cf60 Sz (U33 d ((k + 1 : Nat) : Int) true ((hdcrs.mono (Hp.Ua hz Sz.mx)).mono Sz.Uw) Sz.lend)) ?_
       refine wap 7 2 rfl (by kernel_rfl) (fun _ => U23 rfl rfl uT120 rfl uT3 rfl rfl) ?_
       refine wap 8 1 rfl (by kernel_rfl) (fun _ => run_assign rfl rfl) ?_
       refine wap 9 0 rfl (by kernel_rfl) (fun _ => run_assign rfl rfl) ?_
       refine Uu (by kernel_rfl) (fun w17 S17 => ?_)
       refine nmk [1, 3, 4, 6, 7, 8, 9] rfl (U4 (U2 Z9r Z9s rfl rfl rfl (ws_eq 8 (.int .i64 ((endC d k false : Nat) : Int)) rfl (int_eq rfl) (ws_eq 9 (.int .i64 ((endC d k true : Nat) : Int)) rfl (int_eq rfl) (Ux rfl (by kernel_rfl) S17 9 rfl ?_)))))
       clear S17
       refine wap 0 8 rfl (by kernel_rfl) (fun _ => run_move rfl rfl) ?_
       refine wap 1 7 rfl (by kernel_rfl) (fun _ => run_move rfl rfl) ?_
       refine wat 2 6 rfl (by kernel_rfl) (fun _ _ _ hz Sz => .inl (Ui (C := Uv) (i := 0) (endC d k false) rfl rfl rfl sl53 Sz.suf rfl (by first | rfl | omega) (by first | omega | (simp only [ls]; omega)))) ?_
       refine wat 3 5 rfl (by kernel_rfl) (fun _ _ _ hz Sz => .inl (U3 rfl rfl uT3 rfl (Sz.suf.rowc (i := 0) (e := endC d k false) (j := 0) rfl (by first | omega | (simp only [ls]; omega)) rfl rfl))) ?_
       refine wap 4 4 rfl (by kernel_rfl) (fun _ => run_move rfl rfl) ?_
       refine wap 5 3 rfl (by kernel_rfl) (fun _ => run_move rfl rfl) ?_
       refine wat 6 2 rfl (by kernel_rfl) (fun _ _ _ hz Sz => .inl (Ui (C := Uv) (i := 0) (endC d k true) rfl rfl rfl sl53 Sz.suf rfl (by first | rfl | omega) (by first | omega | (simp only [ls]; omega)))) ?_
       refine wat 7 1 rfl (by kernel_rfl) (fun _ _ _ hz Sz => .inl (U3 rfl rfl uT3 rfl (Sz.suf.rowc (i := 0) (e := endC d k true) (j := 0) rfl (by first | omega | (simp only [ls]; omega)) rfl rfl))) ?_
       refine wap 8 0 rfl (by kernel_rfl) (fun _ => U17 rfl rfl rfl) ?_
       refine Uu (by kernel_rfl) (fun w27 S27 => ?_)
       refine nmk [1, 3, 4, 6, 7, 8, 9, 51] rfl (U4 ?_)
       refine Ue Z9t Z9u rfl rfl rfl rfl (fun hb51 => ?_) (fun hb51 => ?_)
       ·refine U1 rfl (mvs 0 4 rfl rfl (wlr 4 rfl (Ui (C := Uv) (i := 0) (endC d k false) rfl rfl rfl sl53 S27 rfl (by first | rfl | omega) (by first | omega | (simp only [ls]; omega))) ?_))
        refine wlr 5 rfl (U3 rfl rfl uT3 rfl (S27.rowc (i := 0) (e := endC d k false) (j := 0) rfl (by first | omega | (simp only [ls]; omega)) rfl rfl)) ?_
        refine wlr 6 rfl (Ui (C := Uv) (i := 0) (endC d k true) rfl rfl rfl sl53 S27 rfl (by first | rfl | omega) (by first | omega | (simp only [ls]; omega))) ?_
        refine wlo 7 8 rfl rfl rfl (U1i (C := Uv) (i := 0) (e := endC d k true) (j := 0) (us := [_]) (H' := [_, _]) (ga ws3 (endC d k false)) rfl rfl S27 rfl (by first | omega | (simp only [ls]; omega)) rfl rfl rfl sz3 rfl rfl rfl rfl ?_)
        intro w28 S28; clear S27
        refine U5 rfl (U12 (nmk [1, 3, 4, 6, 7] rfl (U4 (U1 rfl (mvs 0 1 rfl rfl (wlr 1 rfl (Ug rfl rfl rfl (by first | omega | (simp only [ls]; omega))) ?_))))))
        refine mvs 2 1 rfl rfl (U5 rfl (U15 ?_))
        intro ax_ hax_
        refine ⟨_, ?hq5m, ⟨k + 1, _, _, rfl, hax_.sub ⟨rfl, rfl, rfl, rfl, rfl, trivial⟩, S28.pick [0, 1] [_, _] (by decide) ⟨rfl, rfl, trivial⟩, ?hq5f0, ?hq5f1⟩⟩
        case hq5f0 => omega
        case hq5f1 => (show _ = stepW _ _ _; rw [← hw3]; unfold stepW; first | rw [if_pos (by omega)] | rw [if_neg (by omega)])
        case hq5m => omega
       ·refine U1 rfl (mvs 0 4 rfl rfl (wlr 4 rfl (Ui (C := Uv) (i := 0) (endC d k true) rfl rfl rfl sl53 S27 rfl (by first | rfl | omega) (by first | omega | (simp only [ls]; omega))) ?_))
        refine wlr 5 rfl (U3 rfl rfl uT3 rfl (S27.rowc (i := 0) (e := endC d k true) (j := 0) rfl (by first | omega | (simp only [ls]; omega)) rfl rfl)) ?_
        refine wlr 6 rfl (Ui (C := Uv) (i := 0) (endC d k false) rfl rfl rfl sl53 S27 rfl (by first | rfl | omega) (by first | omega | (simp only [ls]; omega))) ?_
        refine wlo 7 8 rfl rfl rfl (U1i (C := Uv) (i := 0) (e := endC d k false) (j := 0) (us := [_]) (H' := [_, _]) (ga ws3 (endC d k true)) rfl rfl S27 rfl (by first | omega | (simp only [ls]; omega)) rfl rfl rfl sz3 rfl rfl rfl rfl ?_)
        intro w29 S29; clear S27
        refine U5 rfl (U12 (nmk [1, 3, 4, 6, 7] rfl (U4 (U1 rfl (mvs 0 1 rfl rfl (wlr 1 rfl (Ug rfl rfl rfl (by first | omega | (simp only [ls]; omega))) ?_))))))
        refine mvs 2 1 rfl rfl (U5 rfl (U15 ?_))
        intro ax_ hax_
        refine ⟨_, ?hq6m, ⟨k + 1, _, _, rfl, hax_.sub ⟨rfl, rfl, rfl, rfl, rfl, trivial⟩, S29.pick [0, 1] [_, _] (by decide) ⟨rfl, rfl, trivial⟩, ?hq6f0, ?hq6f1⟩⟩
        case hq6f0 => omega
        case hq6f1 => (show _ = stepW _ _ _; rw [← hw3]; unfold stepW; first | rw [if_pos (by omega)] | rw [if_neg (by omega)])
        case hq6m => omega
      ·refine U16 rfl rfl (U12 (nmk [1, 3, 4, 6] rfl (U4 (U1 rfl (mvs 0 1 rfl rfl (wlr 1 rfl (Ug rfl rfl rfl (by first | omega | (simp only [ls]; omega))) ?_))))))
       refine mvs 2 1 rfl rfl (U5 rfl (U15 ?_))
       intro ax_ hax_
       refine ⟨_, ?hq7m, ⟨j + 1, _, _, rfl, hax_.sub ⟨rfl, rfl, rfl, rfl, trivial⟩, S6.pick [0, 1] [_, _] (by decide) ⟨rfl, rfl, trivial⟩, ?hq7f0, ?hq7f1⟩⟩
       case hq7f0 => omega
       case hq7f1 => (obtain rfl : k = 2 * d.crs.length := (by omega); rw [hw3, hw2]; rfl)
       case hq7m => omega
    ·refine U16 rfl rfl (nmk [4] rfl (U4 (U2 Z9v Z9w rfl rfl rfl (U1 rfl (mvs 0 2 rfl rfl (U5 rfl (nmk [2] rfl (U4 ?_))))))))
     obtain ⟨M20, hle23, S30, ⟨A1, c1, e1, hr1⟩⟩ := S5.pubrow (i := 0) (H' := [_, _]) rfl rfl (by show _ * 8 ≤ _; first | omega | (simp only [ls]; omega))
     clear S5; subst e1
     replace hdcrs := hdcrs.mono (Hp.Ua hle23 S30.mx)
     refine Uk hC [_] rfl rfl ⟨rfl, trivial⟩ ?_
     refine ⟨_, rfl, _, hle23, (S30.pick [] [] (by decide) trivial), ?_⟩
     obtain rfl : j = d.crs.length := by omega
     subst hw2
     exact ⟨_, _, rfl, hr1⟩
end Go.Proofs.YthppkofceancjaaGreat
