/- Part 4 of the proof of the law BracketTells: the walks through its functions and the plain laws that they need. -/
import Derived.Test.YtlmcnpbkmihjkaaDoorBtZ3
set_option linter.unusedSimpArgs false
set_option linter.unusedVariables false
namespace Go.Proofs.YtlmcnpbkmihjkaaDoor
open Go.ChangeShapes Go.WideShapes Go.ChangeAt Go.RowKit
theorem SH.pubB {w : World} {M : Hp} {X : Fr} {H H' : List Rs} {i g : Nat} {T : TypeId} {l : List Value} (S : SH w M X H) (hi : nth H i = some (Rs.box g T l)) (hH : H.set i Rs.emp = H') : ∃ M', M.le M' ∧ SH w M' X H' ∧ BxM M' g T l := by
 obtain ⟨h1, h2, h3⟩ := S.pub hi hH
 refine ⟨_, h1, h2, ?_⟩
 show (M.put w _) g = _
 rw [h3 g (by simp [Rs.box])]
 exact S.get hi
theorem mk96 : MapK Tryd.prog 96 (fun x => Value.agg (cdDa.f x).toArray) := mapK_st se96 (fun x y => ⟨x.a = y.a ∧ x.b = y.b, ⟨_, _, _, _, rfl, rfl, ⟨_, _, rfl, rfl, rfl⟩, rfl⟩, ⟨fun h => by cases x; cases y; simp at h; simp [h], fun h => by rw [h]; exact ⟨rfl, rfl⟩⟩⟩) (fun k => by simp [Instr.sameBits, cdDa, daF])
/-- The k-th dart. -/
def dA (c : Nat) : Da := ⟨((c / 2 : Nat) : Int), decide (c % 2 = 1)⟩
def dartN (k : Nat) : Da := dA (k + 2)
def encD (k : Nat) : Value := .agg (daF (dartN k)).toArray
def DartsR (g : Nat) (u : Value) (M : Hp) : Prop := ∃ b, u = .func (.func 78) #[] [.pointer (some ⟨b, 0, none⟩)].toArray ∧ BxM M b 34 [.pointer (some ⟨g, 0, none⟩)]
theorem dart_eq (a i : Nat) (hi : i < 2) : (Value.agg [.int .i64 ((a : Int) + 1), .bool (ga [false, true] i)].toArray) = encD (2 * a + i) := by
 have e : i = 0 ∨ i = 1 := by omega
 unfold encD dartN dA
 rcases e with rfl | rfl
 ·rw [show (2 * a + 0 + 2) / 2 = a + 1 by omega, show (2 * a + 0 + 2) % 2 = 0 by omega]; rfl
 ·rw [show (2 * a + 1 + 2) / 2 = a + 1 by omega, show (2 * a + 1 + 2) % 2 = 1 by omega]; rfl
noncomputable def Darts_n0 : Code := Tryd.f63.body.getD .skip
noncomputable def Darts_n1 : Code := cL Darts_n0
noncomputable def Darts_n2 : Code := cR Darts_n0
noncomputable def Darts_n3 : Code := cL Darts_n2
noncomputable def Darts_n4 : Code := cR Darts_n2
set_option maxRecDepth 10000 in
theorem Darts_t {w : World} {M : Hp} {X : Fr} (d : Dg) {gsh : Nat} {cA iA oA : Option Addr} {cc ic oc : Nat} (hsb : BxM M gsh 53 [.slice cA d.crs.length cc, .int .i64 d.loops, .slice iA (tabL d false (4 * d.crs.length)).length ic, .slice oA (tabL d true (4 * d.crs.length)).length oc]) (hsc : RdA cdCr M cA cc d.crs) (hsi : RdA cdPl M iA ic (tabL d false (4 * d.crs.length))) (hso : RdA cdPl M oA oc (tabL d true (4 * d.crs.length))) (S : SH w M X []) : Ct Tryd.prog 63 [.pointer (some ⟨gsh, 0, none⟩)] w M X (DartsR gsh) := by
 unfold Ct
 refine calls_in (b := Darts_n0) Tryd.func63 rfl Tryd.ntmps63 rfl (fun C hC => ?_)
 refine ws_sub [(0, _)] ⟨rfl, trivial⟩ ?_
 refine ws_seqN Darts_n1 Darts_n2 rfl rfl rfl ?_
 refine ws_region rfl ?_
 refine wl_op (k := 0) (k' := 1) rfl rfl rfl (wo_box (l := [_]) rfl rfl rfl rfl rfl S ?_)
 intro gb1 w1 S1; clear S
 refine wl_op (k := 1) (k' := 2) rfl rfl rfl (wo_run rfl rfl (run_assign rfl rfl) ?_)
 refine wl_end rfl ?_
 refine nm_sub [(1, _)] ⟨rfl, trivial⟩ ?_
 refine nm_thn ?_
 refine ws_seqN Darts_n3 Darts_n4 rfl rfl rfl ?_
 refine ws_region rfl ?_
 refine wl_op (k := 0) (k' := 1) rfl rfl rfl (wo_run rfl rfl (run_makeFunc (vs := [_]) rfl rfl rfl rfl) ?_)
 refine wl_op (k := 1) (k' := 2) rfl rfl rfl (wo_run rfl rfl (run_assign rfl rfl) ?_)
 refine wl_end rfl ?_
 refine nm_sub [(2, _)] ⟨rfl, trivial⟩ ?_
 refine nm_thn ?_
 obtain ⟨M1, hle1, S2, hbx1⟩ := S1.pubB (i := 0) (H' := [_]) rfl rfl
 clear S1
 replace hsb := hsb.mono hle1
 replace hsc := hsc.mono hle1
 replace hsi := hsi.mono hle1
 replace hso := hso.mono hle1
 refine ws_ret hC [_] rfl rfl ⟨rfl, trivial⟩ ?_
 refine ⟨_, rfl, _, hle1, (S2.pick [] [] (by decide) trivial), ?_⟩
 exact ⟨_, rfl, hbx1⟩
namespace InF
noncomputable def Darts1_n0 : Code := Tryd.f78.body.getD .skip
noncomputable def Darts1_n1 : Code := cL Darts1_n0
noncomputable def Darts1_n2 : Code := cR Darts1_n0
noncomputable def Darts1_n3 : Code := cL Darts1_n2
noncomputable def Darts1_n4 : Code := cL Darts1_n3
noncomputable def Darts1_n5 : Code := cL Darts1_n4
noncomputable def Darts1_n6 : Code := cR Darts1_n4
noncomputable def Darts1_n7 : Code := cL Darts1_n5
noncomputable def Darts1_n8 : Code := cR Darts1_n5
noncomputable def Darts1_n9 : Code := cL Darts1_n8
noncomputable def Darts1_n10 : Code := cR Darts1_n8
noncomputable def Darts1_n11 : Code := cL Darts1_n6
noncomputable def Darts1_n12 : Code := cR Darts1_n6
noncomputable def Darts1_n13 : Code := cL Darts1_n11
noncomputable def Darts1_n14 : Code := cL Darts1_n13
noncomputable def Darts1_n15 : Code := cR Darts1_n13
noncomputable def Darts1_n16 : Code := cL Darts1_n15
noncomputable def Darts1_n17 : Code := cL Darts1_n16
noncomputable def Darts1_n18 : Code := cL Darts1_n17
noncomputable def Darts1_n19 : Code := cR Darts1_n17
noncomputable def Darts1_n20 : Code := cL Darts1_n19
noncomputable def Darts1_n21 : Code := cR Darts1_n19
noncomputable def Darts1_n22 : Code := cL Darts1_n20
noncomputable def Darts1_n23 : Code := cR Darts1_n20
noncomputable def Darts1_n24 : Code := cL Darts1_n21
noncomputable def Darts1_n25 : Code := cR Darts1_n21
noncomputable def Darts1_n26 : Code := cL Darts1_n24
noncomputable def Darts1_n27 : Code := cL Darts1_n26
noncomputable def Darts1_n28 : Code := cR Darts1_n26
noncomputable def Darts1_n29 : Code := cL Darts1_n28
noncomputable def Darts1_n30 : Code := cR Darts1_n28
noncomputable def Darts1_n32 : Code := cR Darts1_n30
set_option maxRecDepth 10000 in
theorem Darts1_iter {M : Hp} {X : Fr} (d : Dg) {gsh : Nat} {cA iA oA : Option Addr} {cc ic oc : Nat} {b : Nat} (hsb : BxM M gsh 53 [.slice cA d.crs.length cc, .int .i64 d.loops, .slice iA (tabL d false (4 * d.crs.length)).length ic, .slice oA (tabL d true (4 * d.crs.length)).length oc]) (hsc : RdA cdCr M cA cc d.crs) (hsi : RdA cdPl M iA ic (tabL d false (4 * d.crs.length))) (hso : RdA cdPl M oA oc (tabL d true (4 * d.crs.length))) (hbx : BxM M b 34 [.pointer (some ⟨gsh, 0, none⟩)]) (hn : d.crs.length ≤ 16) : Iter Tryd.prog 78 [.pointer (some ⟨b, 0, none⟩)] encD (4 * d.crs.length) M X := by
 intro l J w M1 B hle0 hY S hJ0
 replace hsb := hsb.mono hle0
 replace hsc := hsc.mono hle0
 replace hsi := hsi.mono hle0
 replace hso := hso.mono hle0
 replace hbx := hbx.mono hle0
 refine calls_in (b := Darts1_n0) Tryd.func78 rfl Tryd.ntmps78 rfl (fun C hCr hC => ?_)
 have hCF : C.F = Fence.wide := by unfold Ctx.F; rw [hCr]
 refine ws_sub [(0, _), (1, _)] ⟨rfl, rfl, trivial⟩ ?_
 refine ws_seqN Darts1_n1 Darts1_n2 rfl rfl rfl ?_
 refine ws_region rfl ?_
 refine wl_op (k := 0) (k' := 1) rfl rfl rfl (wo_run rfl rfl (run_assign rfl rfl) ?_)
 refine wl_end rfl ?_
 refine nm_thn ?_
 refine ws_blockN Darts1_n3 0 rfl rfl rfl ?_
 refine ws_loopE (fun mx_ ax_ wx_ => ∃ (a : Nat) (B1 : Rs) (M2 : Hp), M1.le M2 ∧ mx_ = 2 * d.crs.length - a ∧ Env 23 [(0, .func (.yield l) #[] #[]), (1, .pointer (some ⟨b, 0, none⟩)), (3, .int .i64 ((a : Int) + 1))] ax_ ∧ SH wx_ M2 X [B1] ∧ a ≤ 2 * d.crs.length ∧ J (2 * a) M2 B1) rfl ?_ ?_
 ·intro ax_ hax_
  refine ⟨_, ⟨0, _, _, Hp.le_refl _, rfl, hax_.sub ⟨rfl, rfl, rfl, trivial⟩, S.pick [0] [_] (by decide) ⟨rfl, trivial⟩, ?hq1f0, ?hq1f1⟩⟩
  case hq1f0 => omega
  case hq1f1 => exact hJ0
 ·rintro m1 a1 w1 ⟨a, B1, M2, hle1, rfl, he1, S1, ha, hJa⟩
  clear S
  refine ws_in he1 (c := Darts1_n4) rfl ?_
  clear he1 a1
  replace hsb := hsb.mono hle1
  replace hsc := hsc.mono hle1
  replace hsi := hsi.mono hle1
  replace hso := hso.mono hle1
  replace hbx := hbx.mono hle1
  refine ws_seqN Darts1_n5 Darts1_n6 rfl rfl rfl ?_
  refine ws_seqN Darts1_n7 Darts1_n8 rfl rfl rfl ?_
  refine ws_region rfl ?_
  refine wl_op (k := 0) (k' := 1) rfl rfl rfl (wo_run rfl rfl (run_move rfl rfl) ?_)
  refine wl_op (k := 1) (k' := 2) rfl rfl rfl (wo_run rfl rfl (run_load1 rfl rfl Tryd.underlying34 rfl (hbx.cell S1.m rfl)) ?_)
  refine wl_op (k := 2) (k' := 3) rfl rfl rfl (wo_cq rfl rfl rfl rfl rfl rfl rfl cf39 S1 (Arcs_q d  (hsb.mono (Hp.le_un _ _)) (hsc.mono (Hp.le_un _ _)) (hsi.mono (Hp.le_un _ _)) (hso.mono (Hp.le_un _ _)) (by omega) S1.lend) ?_)
  rintro _ w2 S2 rfl; clear S1
  refine wl_op (k := 3) (k' := 4) rfl rfl rfl (wo_run rfl rfl (run_leq rfl rfl rfl) ?_)
  refine wl_end rfl ?_
  refine nm_sub [(0, _), (1, _), (3, _), (9, _)] ⟨rfl, rfl, rfl, rfl, trivial⟩ ?_
  refine nm_thn ?_
  refine ws_condN Darts1_n9 Darts1_n10 rfl rfl rfl rfl (fun hb9 => ?_) (fun hb9 => ?_)
  ·replace hb9 := of_decide_eq_true hb9
   refine ws_skip rfl ?_
   refine nm_sub [(0, _), (1, _), (3, _)] ⟨rfl, rfl, rfl, trivial⟩ ?_
   refine nm_thn ?_
   refine ws_seqN Darts1_n11 Darts1_n12 rfl rfl rfl ?_
   refine ws_blockN Darts1_n13 1 rfl rfl rfl ?_
   refine ws_seqN Darts1_n14 Darts1_n15 rfl rfl rfl ?_
   refine ws_region rfl ?_
   refine wl_op (k := 0) (k' := 1) rfl rfl rfl (wo_run rfl rfl (run_buildA (l := [_, _]) (pl := [(0, 1), (1, 1)]) rfl rfl Tryd.underlying129 zr129 sz4 rfl rfl rfl) ?_)
   refine wl_op (k := 1) (k' := 2) rfl rfl rfl (wo_run rfl rfl (run_move rfl rfl) ?_)
   refine wl_end rfl ?_
   refine nm_thn ?_
   refine ws_blockN Darts1_n16 2 rfl rfl rfl ?_
   refine ws_loopE (fun mx_ ax_ wx_ => ∃ (i : Nat) (B2 : Rs) (M3 : Hp), M2.le M3 ∧ mx_ = 2 - i ∧ Env 23 [(0, .func (.yield l) #[] #[]), (1, .pointer (some ⟨b, 0, none⟩)), (3, .int .i64 ((a : Int) + 1)), (12, .agg [.bool false, .bool true].toArray), (13, .int .i64 (i : Int))] ax_ ∧ SH wx_ M3 X [B2] ∧ i ≤ 2 ∧ J (2 * a + i) M3 B2) rfl ?_ ?_
   ·intro ax_ hax_
    refine ⟨_, ⟨0, _, _, Hp.le_refl _, rfl, hax_.sub ⟨rfl, rfl, rfl, rfl, rfl, trivial⟩, S2.pick [0] [_] (by decide) ⟨rfl, trivial⟩, ?hq2f0, ?hq2f1⟩⟩
    case hq2f0 => omega
    case hq2f1 => exact hJa
   ·rintro m2 a2 w3 ⟨i, B2, M3, hle2, rfl, he2, S3, hi, hJi⟩
    clear S2
    refine ws_in he2 (c := Darts1_n17) rfl ?_
    clear he2 a2
    replace hsb := hsb.mono hle2
    replace hsc := hsc.mono hle2
    replace hsi := hsi.mono hle2
    replace hso := hso.mono hle2
    replace hbx := hbx.mono hle2
    refine ws_seqN Darts1_n18 Darts1_n19 rfl rfl rfl ?_
    refine ws_region rfl ?_
    refine wl_op (k := 0) (k' := 1) rfl rfl rfl (wo_run rfl rfl (run_lss rfl rfl rfl) ?_)
    refine wl_end rfl ?_
    refine nm_thn ?_
    refine ws_seqN Darts1_n20 Darts1_n21 rfl rfl rfl ?_
    refine ws_condN Darts1_n22 Darts1_n23 rfl rfl rfl rfl (fun hb14 => ?_) (fun hb14 => ?_)
    ·replace hb14 := of_decide_eq_true hb14
     refine ws_skip rfl ?_
     refine nm_sub [(0, _), (1, _), (3, _), (12, _), (13, _)] ⟨rfl, rfl, rfl, rfl, rfl, trivial⟩ ?_
     refine nm_thn ?_
     refine ws_seqN Darts1_n24 Darts1_n25 rfl rfl rfl ?_
     refine ws_blockN Darts1_n26 3 rfl rfl rfl ?_
     refine ws_seqN Darts1_n27 Darts1_n28 rfl rfl rfl ?_
     refine ws_region rfl ?_
     refine wl_op (k := 0) (k' := 1) rfl rfl rfl (wo_run rfl rfl (run_index1 (e := i) rfl rfl rfl Tryd.underlying129 Tryd.underlying4 rfl sz4 (by first | rfl | omega) (by first | omega | (simp only [lens]; omega)) (nth_bv [false, true] i (by simp; first | omega | (simp only [lens]; omega)))) ?_)
     refine wl_op (k := 1) (k' := 2) rfl rfl rfl (wo_run rfl rfl (run_assign rfl rfl) ?_)
     refine wl_end rfl ?_
     refine nm_sub [(0, _), (1, _), (3, _), (12, _), (13, _), (5, _)] ⟨rfl, rfl, rfl, rfl, rfl, rfl, trivial⟩ ?_
     refine nm_thn ?_
     refine ws_seqN Darts1_n29 Darts1_n30 rfl rfl rfl ?_
     refine ws_region rfl ?_
     refine wl_op (k := 0) (k' := 1) rfl rfl rfl (wo_run rfl rfl (run_move rfl rfl) ?_)
     refine wl_op (k := 1) (k' := 2) rfl rfl rfl (wo_run rfl rfl (run_move rfl rfl) ?_)
     refine wl_op (k := 2) (k' := 3) rfl rfl rfl (wo_run rfl rfl (run_move rfl rfl) ?_)
     refine wl_op (k := 3) (k' := 4) rfl rfl rfl (wo_run rfl rfl (run_build (l := [_, _]) rfl rfl st96 rfl rfl) ?_)
     have hlt4 : 2 * a + i < 4 * d.crs.length := by omega
     refine wl_yield (k := 4) (k' := 5) rfl rfl rfl rfl rfl rfl rfl rfl rfl rfl (by rw [hCF]; have h9 := hY (2 * a + i) _ _ _ (by omega) (hle1.trans hle2) S3 hJi; rw [← dart_eq a i (by omega)] at h9; exact h9) ?_
     rintro _ w4 ⟨rfl, M4, B6, hle3, S4, hJ1⟩; clear S3
     replace hsb := hsb.mono hle3
     replace hsc := hsc.mono hle3
     replace hsi := hsi.mono hle3
     replace hso := hso.mono hle3
     replace hbx := hbx.mono hle3
     refine wl_op (k := 5) (k' := 6) rfl rfl rfl (wo_run rfl rfl (run_not rfl rfl) ?_)
     refine wl_end rfl ?_
     refine nm_sub [(0, _), (1, _), (3, _), (12, _), (13, _), (21, _)] ⟨rfl, rfl, rfl, rfl, rfl, rfl, trivial⟩ ?_
     refine nm_thn ?_
     refine ws_condFN Darts1_n32 rfl rfl rfl ?_
     refine ws_skip rfl ?_
     refine nm_blk ?_
     refine nm_sub [(0, _), (1, _), (3, _), (12, _), (13, _)] ⟨rfl, rfl, rfl, rfl, rfl, trivial⟩ ?_
     refine nm_thn ?_
     refine ws_region rfl ?_
     refine wl_op (k := 0) (k' := 1) rfl rfl rfl (wo_run rfl rfl (run_add rfl rfl rfl (by first | omega | (simp only [lens]; omega))) ?_)
     refine wl_op (k := 1) (k' := 2) rfl rfl rfl (wo_run rfl rfl (run_move rfl rfl) ?_)
     refine wl_end rfl ?_
     refine nm_lp ?_
     intro ax_ hax_
     refine ⟨_, ?hq3m, ⟨i + 1, _, _, (hle2.trans hle3), rfl, hax_.sub ⟨rfl, rfl, rfl, rfl, rfl, trivial⟩, S4.pick [0] [_] (by decide) ⟨rfl, trivial⟩, ?hq3f0, ?hq3f1⟩⟩
     case hq3f0 => omega
     case hq3f1 => first | assumption | (rw [show 2 * a + (i + 1) = 2 * a + i + 1 by omega]; assumption)
     case hq3m => omega
    ·replace hb14 := of_decide_eq_false hb14
     refine ws_exit rfl rfl ?_
     refine nm_blk ?_
     refine nm_sub [(0, _), (1, _), (3, _)] ⟨rfl, rfl, rfl, trivial⟩ ?_
     refine nm_thn ?_
     refine ws_region rfl ?_
     refine wl_op (k := 0) (k' := 1) rfl rfl rfl (wo_run rfl rfl (run_move rfl rfl) ?_)
     refine wl_op (k := 1) (k' := 2) rfl rfl rfl (wo_run rfl rfl (run_add rfl rfl rfl (by first | omega | (simp only [lens]; omega))) ?_)
     refine wl_op (k := 2) (k' := 3) rfl rfl rfl (wo_run rfl rfl (run_assign rfl rfl) ?_)
     refine wl_end rfl ?_
     refine nm_lp ?_
     intro ax_ hax_
     refine ⟨_, ?hq4m, ⟨a + 1, _, _, (hle1.trans hle2), rfl, hax_.sub ⟨rfl, rfl, rfl, trivial⟩, S3.pick [0] [_] (by decide) ⟨rfl, trivial⟩, ?hq4f0, ?hq4f1⟩⟩
     case hq4f0 => omega
     case hq4f1 => (rw [show 2 * (a + 1) = 2 * a + i by omega]; exact hJi)
     case hq4m => omega
  ·replace hb9 := of_decide_eq_false hb9
   refine ws_exit rfl rfl ?_
   refine nm_end hC [] rfl trivial ?_
   refine ⟨⟨_, rfl⟩, _, _, hle1, S2, ?_⟩
   rw [show 4 * d.crs.length = 2 * a by omega]
   exact hJa
end InF
end Go.Proofs.YtlmcnpbkmihjkaaDoor
namespace Go.Proofs.YtlmcnpbkmihjkaaDoor
open Go.RowKit
/-- Marks to come. -/
def free (seen : List Bool) : Nat := seen.countP (fun b => !b)
theorem free_set {seen : List Bool} {x : Nat} (h : x < seen.length) (hx : ga seen x = false) : free (seen.set x true) + 1 = free seen := by
  induction seen generalizing x with
  | nil => simp at h
  | cons b seen ih =>
    cases x with
    | zero =>
      have : b = false := by simpa [ga] using hx
      subst this
      simp [free]
    | succ x =>
      have h1 : ga (b :: seen) (x + 1) = ga seen x := by simp [ga]
      rw [h1] at hx
      have h2 := ih (by simpa using h) hx
      unfold free at *
      rw [List.set_cons_succ, List.countP_cons, List.countP_cons]
      omega
/-- One ring: on by nx until a mark is met. -/
def ringF (nx : Nat → Nat) (seen : List Bool) (x : Nat) (acc : List Int) : List Bool × List Int :=
  if _h : x < seen.length ∧ ga seen x = false then ringF nx (seen.set x true) (nx x) (acc ++ [(x : Int)]) else (seen, acc)
termination_by free seen
decreasing_by have := free_set _h.1 _h.2; omega
theorem ringF_go {nx : Nat → Nat} {seen : List Bool} {x : Nat} {acc : List Int} (h : x < seen.length) (hx : ga seen x = false) : ringF nx seen x acc = ringF nx (seen.set x true) (nx x) (acc ++ [(x : Int)]) := by
  rw [ringF]; simp [h, hx]
theorem ringF_stop {nx : Nat → Nat} {seen : List Bool} {x : Nat} {acc : List Int} (hx : ga seen x = true) : ringF nx seen x acc = (seen, acc) := by
  rw [ringF]; simp [hx]
theorem ringF_len (nx : Nat → Nat) (seen : List Bool) (x : Nat) (acc : List Int) : (ringF nx seen x acc).1.length = seen.length := by
  induction hk : free seen using Nat.strongRecOn generalizing seen x acc with
  | _ k ih =>
    by_cases h : x < seen.length ∧ ga seen x = false
    · rw [ringF_go h.1 h.2]
      have := free_set h.1 h.2
      rw [ih (free (seen.set x true)) (by omega) _ _ _ rfl, List.length_set]
    · rw [ringF]; simp [h]
end Go.Proofs.YtlmcnpbkmihjkaaDoor
namespace Go.Proofs.YtlmcnpbkmihjkaaDoor
open Go.ChangeShapes Go.WideShapes Go.ChangeAt Go.RowKit
def dcN (x : Da) : Nat := (2 * x.a + (if x.b = true then 1 else 0)).toNat
theorem dA_dcN {x : Da} (h : 0 ≤ x.a) : dA (dcN x) = x := by
 obtain ⟨a, b⟩ := x
 simp only at h
 unfold dA dcN
 cases b
 ·simp only [Bool.false_eq_true, if_false, Int.add_zero]
  congr 1
  ·omega
  ·rw [decide_eq_false_iff_not]; omega
 ·simp only [if_true]
  congr 1
  ·omega
  ·rw [decide_eq_true_iff]; omega
theorem dcN_dA (c : Nat) : dcN (dA c) = c := by
 unfold dcN dA
 by_cases h : c % 2 = 1
 ·simp only [h, decide_true, if_true]; omega
 ·simp only [h, decide_false, Bool.false_eq_true, if_false]; omega
theorem dA_inj {c e : Nat} (h : dA c = dA e) : c = e := by rw [← dcN_dA c, h, dcN_dA]
theorem dA_ok {d : Dg} {c : Nat} (h : 2 ≤ c ∧ c < 4 * d.crs.length + 2) : okD d (dA c) := by
 show 1 ≤ ((c / 2 : Nat) : Int) ∧ ((c / 2 : Nat) : Int) ≤ 2 * (d.crs.length : Int)
 omega
def nxC (d : Dg) (c : Nat) : Nat := dcN (leftD d (dA c))
theorem dcN_rng {d : Dg} {x : Da} (h : okD d x) : 2 ≤ dcN x ∧ dcN x < 4 * d.crs.length + 2 := by
 unfold okD at h
 unfold dcN
 split <;> omega
theorem nxC_rng {d : Dg} (hab : arcsB d = true) {c : Nat} (h : 2 ≤ c ∧ c < 4 * d.crs.length + 2) : 2 ≤ nxC d c ∧ nxC d c < 4 * d.crs.length + 2 := dcN_rng (leftD_ok hab (dA_ok h))
theorem dA_nxC {d : Dg} (hab : arcsB d = true) {c : Nat} (h : 2 ≤ c ∧ c < 4 * d.crs.length + 2) : dA (nxC d c) = leftD d (dA c) := dA_dcN (by have := leftD_ok hab (dA_ok h); unfold okD at this; omega)
/-- The faces: the first k darts looked at. -/
def facesN (d : Dg) : Nat → List Bool × List (List Int)
 | 0 => (List.replicate (4 * d.crs.length + 2) false, [])
 | k + 1 =>
  let s := facesN d k
  if ga s.1 (k + 2) = true then s else ((ringF (nxC d) s.1 (k + 2) []).1, s.2 ++ [(ringF (nxC d) s.1 (k + 2) []).2])
theorem facesN_skip {d : Dg} {k : Nat} {s : List Bool × List (List Int)} (h : facesN d k = s) (hg : ga s.1 (k + 2) = true) : facesN d (k + 1) = s := by
 subst h
 show (if _ then _ else _) = _
 rw [if_pos hg]
theorem facesN_ring {d : Dg} {k : Nat} {s : List Bool × List (List Int)} {r : List Bool × List Int} (h : facesN d k = s) (hg : ga s.1 (k + 2) = false) (hr : ringF (nxC d) s.1 (k + 2) [] = r) : facesN d (k + 1) = (r.1, s.2 ++ [r.2]) := by
 subst h; subst hr
 show (if _ then _ else _) = _
 rw [if_neg (by rw [hg]; exact Bool.false_ne_true)]
theorem facesN_len (d : Dg) (k : Nat) : (facesN d k).1.length = 4 * d.crs.length + 2 := by
 induction k with
 | zero => simp [facesN]
 | succ k ih =>
  cases hg : ga (facesN d k).1 (k + 2) with
  | true => rw [facesN_skip rfl hg]; exact ih
  | false => rw [facesN_ring rfl hg rfl, ringF_len]; exact ih
theorem facesN_many (d : Dg) (k : Nat) : (facesN d k).2.length ≤ k := by
 induction k with
 | zero => simp [facesN]
 | succ k ih =>
  cases hg : ga (facesN d k).1 (k + 2) with
  | true => rw [facesN_skip rfl hg]; omega
  | false => rw [facesN_ring rfl hg rfl]; simp; omega
def dasL (r : List Int) : List Da := r.map fun c => dA c.toNat
theorem dasL_snoc (r : List Int) (c : Nat) : dasL (r ++ [(c : Int)]) = dasL r ++ [dA c] := by unfold dasL; rw [List.map_append]; rfl
def facesD (d : Dg) (k : Nat) : List (List Da) := (facesN d k).2.map dasL
def facesL (d : Dg) : List (List Da) := facesD d (4 * d.crs.length)
/-- The map tells what the marks tell. -/
def SeenM (d : Dg) (es : List (Da × Bool)) (seen : List Bool) : Prop := ∀ c, 2 ≤ c → c < 4 * d.crs.length + 2 → (mg (dA c) es).getD false = ga seen c
theorem SeenM.nil_ (d : Dg) : SeenM d [] (List.replicate (4 * d.crs.length + 2) false) := fun c _ hc => by rw [ga_rep _ _ _ hc]; rfl
theorem SeenM.put {d : Dg} {es : List (Da × Bool)} {seen : List Bool} (h : SeenM d es seen) {c : Nat} (hc : c < seen.length) : SeenM d (mp (dA c) true es) (seen.set c true) := fun e h1 h2 => by
 rw [mg_mp, ga_set _ _ _ _ hc]
 by_cases he : c = e
 ·subst he; rw [if_pos rfl, if_pos rfl]; rfl
 ·rw [if_neg (fun e' => he (dA_inj e').symm), if_neg he]; exact h e h1 h2
def rfA : Code → Code
 | .rangeFunc _ _ a _ => a
 | c => c
def rfB : Code → Code
 | .rangeFunc _ _ _ b => b
 | c => c
/-- What holds between two rounds of Faces. -/
def FacesI (d : Dg) (gsh g1 g3 g4 gm k : Nat) (M : Hp) (H : List Rs) : Prop := ∃ es vs outv seen outc,
 H = [Rs.mp (fun x => Value.agg (cdDa.f x).toArray) Value.bool gm es, Rs.box g4 92 [outv], Rs.row (cdV 97) outv vs, Rs.box g3 114 [.map (some gm)], Rs.box g1 34 [.pointer (some ⟨gsh, 0, none⟩)]] ∧ Rd2 cdDa M vs (outc.map dasL) ∧ facesN d k = (seen, outc) ∧ SeenM d es seen
def FacesI1 (d : Dg) (gsh g1 g3 g4 gm k : Nat) (a : Act) (M : Hp) (H : List Rs) : Prop := ∃ g5 H', Env 35 [(1, .pointer (some ⟨g1, 0, none⟩)), (3, .pointer (some ⟨g3, 0, none⟩)), (4, .pointer (some ⟨g4, 0, none⟩)), (5, .pointer (some ⟨g5, 0, none⟩))] a ∧ H = Rs.box g5 96 [.int .i64 (dartN k).a, .bool (dartN k).b] :: H' ∧ FacesI d gsh g1 g3 g4 gm k M H'
noncomputable def Faces_rf : Code := cL (cR (cL (cR (cR (cR (Tryd.f52.body.getD .skip))))))
namespace InF
set_option maxRecDepth 10000 in
theorem Faces_assign {w : World} {M : Hp} {X : Fr} {d : Dg} {gsh gq1 gq3 gq4 gm k : Nat} {C : Ctx} {R0 : Rs} {H : List Rs} {L : List (Nat × Value)} (hL : Sub L [(1, .pointer (some ⟨gq1, 0, none⟩)), (3, .pointer (some ⟨gq3, 0, none⟩)), (4, .pointer (some ⟨gq4, 0, none⟩)), (11, encD k)]) (S : SH w M X (R0 :: H)) (hI : FacesI d gsh gq1 gq3 gq4 gm k M H) :
  WS Tryd.prog 35 C (rfA Faces_rf) [.lp (fun a w2 => ∃ M2 H2, M.le M2 ∧ SH w2 M2 X (R0 :: H2) ∧ FacesI1 d gsh gq1 gq3 gq4 gm k a M2 H2)] L w := by
 obtain ⟨es, vs, vrout, seen, outc, rfl, hdo, hfn, hse⟩ := hI
 change SH w M X [R0, Rs.mp (fun x => Value.agg (cdDa.f x).toArray) Value.bool gm es, _, Rs.row (cdV 97) vrout vs, _, _] at S
 refine ws_sub _ hL ?_
 refine ws_region rfl ?_
 refine wl_op (k := 0) (k' := 1) rfl rfl rfl (wo_alloc (l := [_, _]) rfl rfl rfl zr96 rfl S ?_)
 intro gb1 w1 S1; clear S
 refine wl_op (k := 1) (k' := 2) rfl rfl rfl (wo_storeB (i := 0) (us := [_, _]) (l' := [_, _]) (H' := [_, _, _, _, _, _, _]) rfl rfl S1 rfl rfl rfl rfl sz96 rfl rfl rfl rfl ?_)
 intro w2 S2; clear S1
 refine wl_end rfl ?_
 refine nm_lp ?_
 intro ax_ hax_
 exact ⟨M, _, Hp.le_refl _, S2.pick [1, 0, 2, 3, 4, 5, 6] [_, _, _, _, _, _, _] (by decide) ⟨rfl, rfl, rfl, rfl, rfl, rfl, rfl, trivial⟩, _, _, hax_.sub ⟨rfl, rfl, rfl, rfl, trivial⟩, rfl, es, vs, vrout, seen, outc, rfl, hdo, hfn, hse⟩
noncomputable def FacesB_n1 : Code := rfB Faces_rf
noncomputable def FacesB_n2 : Code := cL FacesB_n1
noncomputable def FacesB_n3 : Code := cL FacesB_n2
noncomputable def FacesB_n4 : Code := cR FacesB_n2
noncomputable def FacesB_n5 : Code := cL FacesB_n3
noncomputable def FacesB_n6 : Code := cR FacesB_n3
noncomputable def FacesB_n7 : Code := cL FacesB_n6
noncomputable def FacesB_n8 : Code := cR FacesB_n6
noncomputable def FacesB_n9 : Code := cL FacesB_n4
noncomputable def FacesB_n10 : Code := cR FacesB_n4
noncomputable def FacesB_n11 : Code := cL FacesB_n10
noncomputable def FacesB_n12 : Code := cR FacesB_n10
noncomputable def FacesB_n13 : Code := cL FacesB_n11
noncomputable def FacesB_n14 : Code := cR FacesB_n11
noncomputable def FacesB_n15 : Code := cL FacesB_n14
noncomputable def FacesB_n16 : Code := cL FacesB_n15
noncomputable def FacesB_n17 : Code := cL FacesB_n16
noncomputable def FacesB_n18 : Code := cR FacesB_n16
noncomputable def FacesB_n19 : Code := cL FacesB_n17
noncomputable def FacesB_n20 : Code := cR FacesB_n17
noncomputable def FacesB_n21 : Code := cL FacesB_n20
noncomputable def FacesB_n22 : Code := cR FacesB_n20
noncomputable def FacesB_n23 : Code := cL FacesB_n18
noncomputable def FacesB_n24 : Code := cR FacesB_n18
noncomputable def FacesB_n25 : Code := cL FacesB_n23
noncomputable def FacesB_n26 : Code := cL FacesB_n25
noncomputable def FacesB_n27 : Code := cR FacesB_n25
noncomputable def FacesB_n28 : Code := cL FacesB_n24
noncomputable def FacesB_n29 : Code := cR FacesB_n24
noncomputable def FacesB_n30 : Code := cL FacesB_n28
noncomputable def FacesB_n31 : Code := cR FacesB_n28
set_option maxHeartbeats 1000000 in
set_option maxRecDepth 10000 in
theorem Faces_body {w : World} {M : Hp} {X : Fr} (d : Dg) {gsh gq1 gq3 gq4 gm k : Nat} {cA iA oA : Option Addr} {cc ic oc : Nat} (hsb : BxM M gsh 53 [.slice cA d.crs.length cc, .int .i64 d.loops, .slice iA (tabL d false (4 * d.crs.length)).length ic, .slice oA (tabL d true (4 * d.crs.length)).length oc]) (hsc : RdA cdCr M cA cc d.crs) (hsi : RdA cdPl M iA ic (tabL d false (4 * d.crs.length))) (hso : RdA cdPl M oA oc (tabL d true (4 * d.crs.length))) (hn : d.crs.length ≤ 16) (hab : arcsB d = true) (hk : k < 4 * d.crs.length) {C : Ctx} {R0 : Rs} {H : List Rs} {a : Act} (S : SH w M X (R0 :: H)) (hI1 : FacesI1 d gsh gq1 gq3 gq4 gm k a M H) :
  (rfB Faces_rf).wpIn C.F 0 Tryd.prog (post Tryd.prog C [.lp (fun _ w2 => ∃ M2 H2, M.le M2 ∧ SH w2 M2 X (R0 :: H2) ∧ FacesI d gsh gq1 gq3 gq4 gm (k + 1) M2 H2)]) a w := by
 obtain ⟨gq5, H1, ha, rfl, es, vs, vrout, seen, outc, rfl, hdo, hfn, hse⟩ := hI1
 change SH w M X [R0, Rs.box gq5 _ _, Rs.mp (fun x => Value.agg (cdDa.f x).toArray) Value.bool gm es, _, Rs.row (cdV 97) vrout vs, _, _] at S
 have hdn : okD d (dartN k) := dA_ok (by omega)
 have hvs := hdo.1
 have hmany := facesN_many d k
 rw [hfn] at hmany
 replace hmany : outc.length ≤ k := hmany
 rw [List.length_map] at hvs
 refine ws_in ha (c := rfB Faces_rf) rfl ?_
 refine ws_blockN FacesB_n2 1 rfl rfl rfl ?_
 refine ws_seqN FacesB_n3 FacesB_n4 rfl rfl rfl ?_
 refine ws_seqN FacesB_n5 FacesB_n6 rfl rfl rfl ?_
 refine ws_region rfl ?_
 refine wl_op (k := 0) (k' := 1) rfl rfl rfl (wo_run rfl rfl (run_load1 rfl rfl Tryd.underlying114 rfl (S.boxc (i := 5) rfl rfl)) ?_)
 refine wl_op (k := 1) (k' := 2) rfl rfl rfl (wo_run rfl rfl (run_loadN (us := [_, _]) rfl rfl Tryd.underlying96 rfl sz96 (S.boxcs (i := 1) rfl ⟨rfl, rfl, trivial⟩)) ?_)
 refine wl_op (k := 2) (k' := 3) rfl rfl rfl (wo_run rfl rfl (run_lookup (kc := (fun x => Value.agg (cdDa.f x).toArray)) (vc := Value.bool) (es := es) (k := (dartN k)) (zv := false) (i := 2) rfl rfl rfl Tryd.underlying114 mk96 zr4 S rfl) ?_)
 refine wl_end rfl ?_
 refine nm_sub [(1, _), (3, _), (4, _), (5, _), (14, _)] ⟨rfl, rfl, rfl, rfl, rfl, trivial⟩ ?_
 refine nm_thn ?_
 refine ws_condN FacesB_n7 FacesB_n8 rfl rfl rfl rfl (fun hb14 => ?_) (fun hb14 => ?_)
 ·refine ws_exit rfl rfl ?_
  refine nm_lp ?_
  intro ax_ hax_
  exact ⟨_, _, Hp.le_refl _, S.pick [0, 2, 3, 4, 5, 6] [_, _, _, _, _, _] (by decide) ⟨rfl, rfl, rfl, rfl, rfl, rfl, trivial⟩, es, vs, vrout, seen, outc, rfl, hdo, facesN_skip hfn (by rw [← hse (k + 2) (by omega) (by omega)]; exact hb14), hse⟩
 ·refine ws_skip rfl ?_
  refine nm_sub [(1, _), (3, _), (4, _), (5, _)] ⟨rfl, rfl, rfl, rfl, trivial⟩ ?_
  refine nm_thn ?_
  refine ws_seqN FacesB_n9 FacesB_n10 rfl rfl rfl ?_
  refine ws_region rfl ?_
  refine wl_op (k := 0) (k' := 1) rfl rfl rfl (wo_run rfl rfl (run_assign rfl rfl) ?_)
  refine wl_end rfl ?_
  refine nm_thn ?_
  refine ws_seqN FacesB_n11 FacesB_n12 rfl rfl rfl ?_
  refine ws_seqN FacesB_n13 FacesB_n14 rfl rfl rfl ?_
  refine ws_region rfl ?_
  refine wl_op (k := 0) (k' := 1) rfl rfl rfl (wo_run rfl rfl (run_loadN (us := [_, _]) rfl rfl Tryd.underlying96 rfl sz96 (S.boxcs (i := 1) rfl ⟨rfl, rfl, trivial⟩)) ?_)
  refine wl_op (k := 1) (k' := 2) rfl rfl rfl (wo_alloc (l := [_, _]) rfl rfl rfl zr96 rfl S ?_)
  intro gb1 w1 S1; clear S
  refine wl_op (k := 2) (k' := 3) rfl rfl rfl (wo_storeB (i := 0) (us := [_, _]) (l' := [_, _]) (H' := [_, _, _, _, _, _, _, _]) rfl rfl S1 rfl rfl rfl rfl sz96 rfl rfl rfl rfl ?_)
  intro w2 S2; clear S1
  refine wl_end rfl ?_
  refine nm_sub [(1, _), (3, _), (4, _), (6, _), (7, _)] ⟨rfl, rfl, rfl, rfl, rfl, trivial⟩ ?_
  refine nm_thn ?_
  refine ws_blockN FacesB_n15 2 rfl rfl rfl ?_
  have S3 := S2.nilrow cdDa; clear S2
  refine ws_loopE (fun mx_ ax_ wx_ => ∃ (es2 : List (Da × Bool)) (seen2 : List Bool) (x : Nat) (y : Da) (acc : List Int) (ringt : List Da) (vring : Value) (gbx : Nat), mx_ = free seen2 ∧ Env 35 [(1, .pointer (some ⟨gq1, 0, none⟩)), (3, .pointer (some ⟨gq3, 0, none⟩)), (4, .pointer (some ⟨gq4, 0, none⟩)), (6, vring), (7, .pointer (some ⟨gbx, 0, none⟩))] ax_ ∧ SH wx_ M X [Rs.row cdDa vring ringt, Rs.box gbx 96 [.int .i64 y.a, .bool y.b], R0, Rs.mp (fun x => Value.agg (cdDa.f x).toArray) Value.bool gm es2, Rs.box gq4 92 [vrout], Rs.row (cdV 97) vrout vs, Rs.box gq3 114 [.map (some gm)], Rs.box gq1 34 [.pointer (some ⟨gsh, 0, none⟩)]] ∧ ringF (nxC d) seen (k + 2) [] = ringF (nxC d) seen2 x acc ∧ ringt = dasL acc ∧ SeenM d es2 seen2 ∧ (2 ≤ x ∧ x < 4 * d.crs.length + 2) ∧ seen2.length = 4 * d.crs.length + 2 ∧ y = dA x ∧ acc.length + free seen2 ≤ 100) rfl ?_ ?_
  ·intro ax_ hax_
   refine ⟨_, ⟨es, seen, k + 2, dartN k, [], _, _, _, rfl, hax_.sub ⟨rfl, rfl, rfl, rfl, rfl, trivial⟩, S3.pick [0, 1, 2, 4, 5, 6, 7, 8] [_, _, _, _, _, _, _, _] (by decide) ⟨rfl, rfl, rfl, rfl, rfl, rfl, rfl, rfl, trivial⟩, ?hq1f0, ?hq1f1, ?hq1f2, ?hq1f3, ?hq1f4, ?hq1f5, ?hq1f6⟩⟩
   case hq1f0 => rfl
   case hq1f1 => rfl
   case hq1f2 => exact hse
   case hq1f3 => omega
   case hq1f4 => (have h9 := facesN_len d k; rw [hfn] at h9; exact h9)
   case hq1f5 => rfl
   case hq1f6 => (have h9 := facesN_len d k; rw [hfn] at h9; have h8 : free seen ≤ seen.length := List.countP_le_length; simp only [List.length_nil]; simp only at h9; omega)
  ·rintro m1 a1 w3 ⟨es2, seen2, x, y, acc, ringt, vring, gbx, rfl, he1, S4, hrg, hring, hse2, hx, hs2, hy, hroom⟩
   clear S3
   refine ws_in he1 (c := FacesB_n16) rfl ?_
   clear he1 a1
   have hyk : okD d y := by rw [hy]; exact dA_ok hx
   have hrl : ringt.length = acc.length := by rw [hring]; simp [dasL]
   have hgs := hse2 x hx.1 hx.2
   refine ws_seqN FacesB_n17 FacesB_n18 rfl rfl rfl ?_
   refine ws_seqN FacesB_n19 FacesB_n20 rfl rfl rfl ?_
   refine ws_region rfl ?_
   refine wl_op (k := 0) (k' := 1) rfl rfl rfl (wo_run rfl rfl (run_load1 rfl rfl Tryd.underlying114 rfl (S4.boxc (i := 6) rfl rfl)) ?_)
   refine wl_op (k := 1) (k' := 2) rfl rfl rfl (wo_run rfl rfl (run_loadN (us := [_, _]) rfl rfl Tryd.underlying96 rfl sz96 (S4.boxcs (i := 1) rfl ⟨rfl, rfl, trivial⟩)) ?_)
   refine wl_op (k := 2) (k' := 3) rfl rfl rfl (wo_run rfl rfl (run_lookup (kc := (fun x => Value.agg (cdDa.f x).toArray)) (vc := Value.bool) (es := es2) (k := y) (zv := false) (i := 3) rfl rfl rfl Tryd.underlying114 mk96 zr4 S4 rfl) ?_)
   refine wl_op (k := 3) (k' := 4) rfl rfl rfl (wo_run rfl rfl (run_not rfl rfl) ?_)
   refine wl_end rfl ?_
   refine nm_sub [(1, _), (3, _), (4, _), (6, _), (7, _), (19, _)] ⟨rfl, rfl, rfl, rfl, rfl, rfl, trivial⟩ ?_
   refine nm_thn ?_
   refine ws_condN FacesB_n21 FacesB_n22 rfl rfl rfl rfl (fun hb19 => ?_) (fun hb19 => ?_)
   ·simp only [Bool.and_eq_true, Bool.or_eq_true, Bool.and_eq_false_iff, Bool.or_eq_false_iff, decide_eq_true_eq, decide_eq_false_iff_not, Bool.not_eq_true', Bool.not_eq_false'] at hb19
    refine ws_skip rfl ?_
    refine nm_sub [(1, _), (3, _), (4, _), (6, _), (7, _)] ⟨rfl, rfl, rfl, rfl, rfl, trivial⟩ ?_
    refine nm_thn ?_
    refine ws_seqN FacesB_n23 FacesB_n24 rfl rfl rfl ?_
    refine ws_blockN FacesB_n25 3 rfl rfl rfl ?_
    refine ws_seqN FacesB_n26 FacesB_n27 rfl rfl rfl ?_
    refine ws_region rfl ?_
    refine wl_op (k := 0) (k' := 1) rfl rfl rfl (wo_run rfl rfl (run_load1 rfl rfl Tryd.underlying114 rfl (S4.boxc (i := 6) rfl rfl)) ?_)
    refine wl_op (k := 1) (k' := 2) rfl rfl rfl (wo_run rfl rfl (run_loadN (us := [_, _]) rfl rfl Tryd.underlying96 rfl sz96 (S4.boxcs (i := 1) rfl ⟨rfl, rfl, trivial⟩)) ?_)
    refine wl_op (k := 2) (k' := 3) rfl rfl rfl (wo_mapUpdate (kc := (fun x => Value.agg (cdDa.f x).toArray)) (vc := Value.bool) (es := es2) (k := y) (e := true) (i := 3) (H' := [_, _, _, _, _, _, _, _]) (.inl rfl) rfl S4 rfl rfl rfl rfl Tryd.underlying114 mk96 rfl ?_)
    intro w4 S5; clear S4
    refine wl_end rfl ?_
    refine nm_sub [(1, _), (3, _), (4, _), (6, _), (7, _)] ⟨rfl, rfl, rfl, rfl, rfl, trivial⟩ ?_
    refine nm_thn ?_
    refine ws_region rfl ?_
    refine wl_op (k := 0) (k' := 1) rfl rfl rfl (wo_run rfl rfl (run_move rfl rfl) ?_)
    refine wl_op (k := 1) (k' := 2) rfl rfl rfl (wo_run rfl rfl (run_loadN (us := [_, _]) rfl rfl Tryd.underlying96 rfl sz96 (S5.boxcs (i := 1) rfl ⟨rfl, rfl, trivial⟩)) ?_)
    refine wl_op (k := 2) (k' := 3) rfl rfl rfl (wo_buildSlice1 (C := cdDa) (l := [_, _]) rfl rfl rfl rfl sl97 rfl rfl rfl rfl S5 ?_)
    intro gb2 w5 S6; clear S5
    refine wl_op (k := 3) (k' := 4) rfl rfl rfl (wo_append1 (C := cdDa) (i := 1) (q := 0) (⟨y.a, y.b⟩ : Da) rfl rfl rfl rfl rfl rfl rfl rfl sl97 S6 rfl rfl rfl (by show (_ + 1) * 16 ≤ _; first | omega | (simp only [lens]; omega)) ?_)
    intro vring1 w6 S7; clear S6
    have S8 := S7.pick [1, 2, 3, 4, 5, 6, 7, 8] [_, _, _, _, _, _, _, _] (by decide) ⟨rfl, rfl, rfl, rfl, rfl, rfl, rfl, rfl, trivial⟩; clear S7
    refine wl_op (k := 4) (k' := 5) rfl rfl rfl (wo_run rfl rfl (run_assign rfl rfl) ?_)
    refine wl_end rfl ?_
    refine nm_blk ?_
    refine nm_sub [(1, _), (3, _), (4, _), (6, _), (7, _)] ⟨rfl, rfl, rfl, rfl, rfl, trivial⟩ ?_
    refine nm_thn ?_
    refine ws_seqN FacesB_n28 FacesB_n29 rfl rfl rfl ?_
    refine ws_seqN FacesB_n30 FacesB_n31 rfl rfl rfl ?_
    refine ws_region rfl ?_
    refine wl_op (k := 0) (k' := 1) rfl rfl rfl (wo_run rfl rfl (run_loadN (us := [_, _]) rfl rfl Tryd.underlying96 rfl sz96 (S8.boxcs (i := 1) rfl ⟨rfl, rfl, trivial⟩)) ?_)
    refine wl_end rfl ?_
    refine nm_sub [(1, _), (3, _), (4, _), (6, _), (29, _)] ⟨rfl, rfl, rfl, rfl, rfl, trivial⟩ ?_
    refine nm_thn ?_
    refine ws_region rfl ?_
    refine wl_op (k := 0) (k' := 1) rfl rfl rfl (wo_alloc (l := [_, _]) rfl rfl rfl zr96 rfl S8 ?_)
    intro gb3 w7 S9; clear S8
    refine wl_op (k := 1) (k' := 2) rfl rfl rfl (wo_storeB (i := 0) (us := [_, _]) (l' := [_, _]) (H' := [_, _, _, _, _, _, _, _, _]) rfl rfl S9 rfl rfl rfl rfl sz96 rfl rfl rfl rfl ?_)
    intro w8 S10; clear S9
    refine wl_end rfl ?_
    refine nm_sub [(1, _), (3, _), (4, _), (6, _), (7, _)] ⟨rfl, rfl, rfl, rfl, rfl, trivial⟩ ?_
    refine nm_thn ?_
    refine ws_region rfl ?_
    refine wl_op (k := 0) (k' := 1) rfl rfl rfl (wo_run rfl rfl (run_load1 rfl rfl Tryd.underlying34 rfl (S10.boxc (i := 8) rfl rfl)) ?_)
    refine wl_op (k := 1) (k' := 2) rfl rfl rfl (wo_run rfl rfl (run_loadN (us := [_, _]) rfl rfl Tryd.underlying96 rfl sz96 (S10.boxcs (i := 0) rfl ⟨rfl, rfl, trivial⟩)) ?_)
    refine wl_op (k := 2) (k' := 3) rfl rfl rfl (wo_cq rfl rfl rfl rfl rfl rfl rfl cf64 S10 (Left_q d y (hsb.mono (Hp.le_un _ _)) (hsc.mono (Hp.le_un _ _)) (hsi.mono (Hp.le_un _ _)) (hso.mono (Hp.le_un _ _)) (by first | assumption | omega) hab (by first | assumption | omega) S10.lend) ?_)
    rintro _ w9 S11 rfl; clear S10
    refine wl_op (k := 3) (k' := 4) rfl rfl rfl (wo_storeB (i := 0) (us := [_, _]) (l' := [_, _]) (H' := [_, _, _, _, _, _, _, _, _]) rfl rfl S11 rfl rfl rfl rfl sz96 rfl rfl rfl rfl ?_)
    intro w10 S12; clear S11
    refine wl_end rfl ?_
    refine nm_lp ?_
    have hga : ga seen2 x = false := by rw [← hgs, ← hy]; simpa using hb19
    have hfr := free_set (seen := seen2) (x := x) (by omega) hga
    intro ax_ hax_
    refine ⟨_, ?hq2m, ⟨_, seen2.set x true, nxC d x, leftD d y, acc ++ [(x : Int)], _, _, _, rfl, hax_.sub ⟨rfl, rfl, rfl, rfl, rfl, trivial⟩, S12.pick [1, 0, 3, 4, 5, 6, 7, 8] [_, _, _, _, _, _, _, _] (by decide) ⟨rfl, rfl, rfl, rfl, rfl, rfl, rfl, rfl, trivial⟩, ?hq2f0, ?hq2f1, ?hq2f2, ?hq2f3, ?hq2f4, ?hq2f5, ?hq2f6⟩⟩
    case hq2f0 => (rw [hrg]; exact ringF_go (by omega) hga)
    case hq2f1 => (rw [dasL_snoc, ← hring, hy])
    case hq2f2 => (rw [hy]; exact hse2.put (by omega))
    case hq2f3 => exact nxC_rng hab hx
    case hq2f4 => (rw [List.length_set]; exact hs2)
    case hq2f5 => (rw [hy, dA_nxC hab hx])
    case hq2f6 => (simp only [List.length_append, List.length_cons, List.length_nil]; omega)
    case hq2m => omega
   ·simp only [Bool.and_eq_true, Bool.or_eq_true, Bool.and_eq_false_iff, Bool.or_eq_false_iff, decide_eq_true_eq, decide_eq_false_iff_not, Bool.not_eq_true', Bool.not_eq_false'] at hb19
    refine ws_exit rfl rfl ?_
    refine nm_sub [(1, _), (3, _), (4, _), (6, _)] ⟨rfl, rfl, rfl, rfl, trivial⟩ ?_
    refine nm_thn ?_
    refine ws_region rfl ?_
    refine wl_op (k := 0) (k' := 1) rfl rfl rfl (wo_run rfl rfl (run_load1 rfl rfl Tryd.underlying92 rfl (S4.boxc (i := 4) rfl rfl)) ?_)
    refine wl_op (k := 1) (k' := 2) rfl rfl rfl (wo_run rfl rfl (run_move rfl rfl) ?_)
    obtain ⟨M1, hle2, S13, ⟨A1, c1, e1, hr1⟩⟩ := S4.pubrow (i := 0) (H' := [_, _, _, _, _, _, _, _]) rfl rfl (by show _ * 16 ≤ _; first | omega | (simp only [lens]; omega))
    clear S4; subst e1
    replace hsb := hsb.mono hle2
    replace hsc := hsc.mono hle2
    replace hsi := hsi.mono hle2
    replace hso := hso.mono hle2
    replace hdo := hdo.mono hle2
    refine wl_op (k := 2) (k' := 3) rfl rfl rfl (wo_buildSlice1 (C := (cdV 97)) (l := [_]) rfl rfl rfl rfl sl92 rfl rfl rfl rfl S13 ?_)
    intro gb4 w11 S14; clear S13
    refine wl_op (k := 3) (k' := 4) rfl rfl rfl (wo_append1 (C := (cdV 97)) (i := 6) (q := 0) (⟨A1, ringt.length, c1⟩ : SlV) rfl rfl rfl rfl rfl rfl rfl rfl sl92 S14 rfl rfl rfl (by show (_ + 1) * 24 ≤ _; first | omega | (simp only [lens]; omega)) ?_)
    intro vrout1 w12 S15; clear S14
    have S16 := S15.pick [1, 2, 3, 4, 5, 6, 7, 8] [_, _, _, _, _, _, _, _] (by decide) ⟨rfl, rfl, rfl, rfl, rfl, rfl, rfl, rfl, trivial⟩; clear S15
    have hd1 := hdo.snoc (c := c1) hr1
    refine wl_op (k := 4) (k' := 5) rfl rfl rfl (wo_storeB (i := 4) (us := [_]) (l' := [_]) (H' := [_, _, _, _, _, _, _, _]) rfl rfl S16 rfl rfl rfl (S16.cells1 (i := 5) rfl) sz92 rfl (ones_cons (S16.one (i := 5) rfl) rfl) rfl rfl ?_)
    intro w13 S17; clear S16
    refine wl_end rfl ?_
    refine nm_blk ?_
    refine nm_lp ?_
    intro ax_ hax_
    exact ⟨_, _, hle2, S17.pick [2, 3, 4, 5, 6, 7] [_, _, _, _, _, _] (by decide) ⟨rfl, rfl, rfl, rfl, rfl, rfl, trivial⟩, _, _, _, seen2, outc ++ [acc], rfl, by rw [List.map_append, show List.map dasL [acc] = [ringt] from by rw [hring]; rfl]; exact hd1, facesN_ring hfn (by rw [← hse (k + 2) (by omega) (by omega)]; exact hb14) (hrg.trans (ringF_stop (by rw [← hse2 x (by omega) (by omega), ← hy]; simpa using hb19))), hse2⟩
end InF
end Go.Proofs.YtlmcnpbkmihjkaaDoor
namespace Go.Proofs.YtlmcnpbkmihjkaaDoor
open Go.ChangeShapes Go.WideShapes Go.ChangeAt Go.RowKit
def FacesR (d : Dg) (u : Value) (M : Hp) : Prop := ∃ A c vs, u = .slice A vs.length c ∧ RdA (cdV 97) M A c vs ∧ Rd2 cdDa M vs (facesL d)
namespace InF
noncomputable def Faces_n0 : Code := Tryd.f52.body.getD .skip
noncomputable def Faces_n1 : Code := cL Faces_n0
noncomputable def Faces_n2 : Code := cR Faces_n0
noncomputable def Faces_n3 : Code := cL Faces_n2
noncomputable def Faces_n4 : Code := cR Faces_n2
noncomputable def Faces_n5 : Code := cL Faces_n4
noncomputable def Faces_n6 : Code := cR Faces_n4
noncomputable def Faces_n7 : Code := cL Faces_n6
noncomputable def Faces_n8 : Code := cR Faces_n6
noncomputable def Faces_n9 : Code := cL Faces_n7
noncomputable def Faces_n10 : Code := cR Faces_n7
noncomputable def Faces_n11 : Code := cL Faces_n10
set_option maxRecDepth 10000 in
theorem Faces_t {w : World} {M : Hp} {X : Fr} (d : Dg) {gsh : Nat} {cA iA oA : Option Addr} {cc ic oc : Nat} (hsb : BxM M gsh 53 [.slice cA d.crs.length cc, .int .i64 d.loops, .slice iA (tabL d false (4 * d.crs.length)).length ic, .slice oA (tabL d true (4 * d.crs.length)).length oc]) (hsc : RdA cdCr M cA cc d.crs) (hsi : RdA cdPl M iA ic (tabL d false (4 * d.crs.length))) (hso : RdA cdPl M oA oc (tabL d true (4 * d.crs.length))) (hn : d.crs.length ≤ 16) (hab : arcsB d = true) (S : SH w M X []) : Ct Tryd.prog 52 [.pointer (some ⟨gsh, 0, none⟩)] w M X (FacesR d) := by
 unfold Ct
 refine calls_marks (b := Faces_n0) Tryd.func52 rfl Tryd.ntmps52 rfl (fun C hCr hC => ?_)
 refine ws_sub [(0, _)] ⟨rfl, trivial⟩ ?_
 refine ws_seqN Faces_n1 Faces_n2 rfl rfl rfl ?_
 refine ws_region rfl ?_
 refine wl_op (k := 0) (k' := 1) rfl rfl rfl (wo_box (l := [_]) rfl rfl rfl rfl rfl S ?_)
 intro gb1 w1 S1; clear S
 refine wl_op (k := 1) (k' := 2) rfl rfl rfl (wo_run rfl rfl (run_assign rfl rfl) ?_)
 refine wl_end rfl ?_
 refine nm_sub [(1, _)] ⟨rfl, trivial⟩ ?_
 refine nm_thn ?_
 refine ws_seqN Faces_n3 Faces_n4 rfl rfl rfl ?_
 refine ws_region rfl ?_
 refine wl_op (k := 0) (k' := 1) rfl rfl rfl (wo_makeMap Da Bool (fun x => Value.agg (cdDa.f x).toArray) Value.bool rfl rfl rfl S1 ?_)
 intro gm1 w2 S2; clear S1
 refine wl_op (k := 1) (k' := 2) rfl rfl rfl (wo_alloc (l := [_]) rfl rfl rfl zr114 rfl S2 ?_)
 intro gb2 w3 S3; clear S2
 refine wl_op (k := 2) (k' := 3) rfl rfl rfl (wo_storeB (i := 0) (us := [_]) (l' := [_]) (H' := [_, _, _]) rfl rfl S3 rfl rfl rfl rfl sz114 rfl rfl rfl rfl ?_)
 intro w4 S4; clear S3
 refine wl_end rfl ?_
 refine nm_sub [(1, _), (3, _)] ⟨rfl, rfl, trivial⟩ ?_
 refine nm_thn ?_
 refine ws_seqN Faces_n5 Faces_n6 rfl rfl rfl ?_
 refine ws_region rfl ?_
 refine wl_op (k := 0) (k' := 1) rfl rfl rfl (wo_alloc (l := [_]) rfl rfl rfl zr92 rfl S4 ?_)
 intro gb3 w5 S5; clear S4
 refine wl_end rfl ?_
 refine nm_thn ?_
 refine ws_seqN Faces_n7 Faces_n8 rfl rfl rfl ?_
 refine ws_seqN Faces_n9 Faces_n10 rfl rfl rfl ?_
 refine ws_region rfl ?_
 refine wl_op (k := 0) (k' := 1) rfl rfl rfl (wo_run rfl rfl (run_load1 rfl rfl Tryd.underlying34 rfl (S5.boxc (i := 3) rfl rfl)) ?_)
 refine wl_op (k := 1) (k' := 2) rfl rfl rfl (wo_ct rfl rfl rfl rfl rfl rfl rfl cf63 S5 (Darts_t d hsb hsc hsi hso S5.lend) ?_)
 intro vw6 w6 M1 hle1 S6 hRw6; clear S5
 replace hsb := hsb.mono hle1
 replace hsc := hsc.mono hle1
 replace hsi := hsi.mono hle1
 replace hso := hso.mono hle1
 obtain ⟨bd1, rfl, hbx1⟩ := hRw6
 refine wl_end rfl ?_
 refine nm_sub [(1, _), (3, _), (4, _), (10, _)] ⟨rfl, rfl, rfl, rfl, trivial⟩ ?_
 refine nm_thn ?_
 refine ws_blockN Faces_n11 0 rfl rfl rfl ?_
 have S9 := (S6.nilrow (cdV 97)).pick [3, 1, 0, 2, 4] [_, _, _, _, _] (by decide) ⟨rfl, rfl, rfl, rfl, rfl, trivial⟩
 refine ws_rangeFunc (p := 11) (f := 78) (lb := [_]) (asg := rfA Faces_rf) (bd := rfB Faces_rf) (enc := encD) (N := 4 * d.crs.length) hCr rfl rfl rfl cf78 S9 (FacesI d gsh gb1 gb2 gb3 gm1) (FacesI1 d gsh gb1 gb2 gb3 gm1) ?_ (Darts1_iter d hsb hsc hsi hso hbx1 hn) ?_ ?_ ?_
 ·exact ⟨[], [], .slice none 0 0, _, [], rfl, Rd2.nil_, rfl, SeenM.nil_ d⟩
 ·intro k M' H' w' C' R0 hk hle S' hI
  exact Faces_assign ⟨rfl, rfl, rfl, rfl, trivial⟩ S' hI
 ·intro k M' H' w' C' R0 a hk hle S' hI1
  exact Faces_body d (hsb.mono hle) (hsc.mono hle) (hsi.mono hle) (hso.mono hle) hn hab hk S' hI1
 ·intro a M' H' w' D l rc ha hle S' hI
  obtain ⟨es, vs, vout, seen, outc, rfl, hdo, hfn, hse⟩ := hI
  change SH w' M' X [Rs.lr l D rc, _, _, Rs.row (cdV 97) vout vs, _, _] at S'
  refine tail_la (c := Faces_n8) (i := 15) (d1 := 34) (d2 := 2) (v := vout) hC rfl rfl rfl rfl rfl rfl rfl ha rfl Tryd.underlying92 rfl rfl rfl rfl S' (S'.boxc (i := 2) rfl rfl) (fun w2 S2 => ?_)
  have hvl := hdo.1
  rw [List.length_map] at hvl
  have hmany := facesN_many d (4 * d.crs.length)
  rw [hfn] at hmany
  replace hmany : outc.length ≤ 4 * d.crs.length := hmany
  obtain ⟨M3, hle3, S3, ⟨A, c, e, hr⟩⟩ := S2.pubrow (i := 2) (H' := [_, _, _, _, _]) rfl rfl (by show _ * 24 ≤ _; omega)
  subst e
  refine ⟨_, rfl, M3, (hle1).trans (hle.trans hle3), S3.pick [] [] (by decide) trivial, A, c, vs, rfl, hr, ?_⟩
  have e2 : facesL d = outc.map dasL := by unfold facesL facesD; rw [hfn]
  rw [e2]
  exact hdo.mono hle3
end InF
end Go.Proofs.YtlmcnpbkmihjkaaDoor
namespace Go.Proofs.YtlmcnpbkmihjkaaDoor
open Go.ChangeShapes Go.WideShapes Go.ChangeAt Go.RowKit
noncomputable def ArcAt_n0 : Code := Tryd.f45.body.getD .skip
noncomputable def ArcAt_n1 : Code := cL ArcAt_n0
noncomputable def ArcAt_n2 : Code := cR ArcAt_n0
noncomputable def ArcAt_n3 : Code := cL ArcAt_n2
noncomputable def ArcAt_n4 : Code := cR ArcAt_n2
noncomputable def ArcAt_n5 : Code := cL ArcAt_n4
noncomputable def ArcAt_n6 : Code := cR ArcAt_n4
noncomputable def ArcAt_n7 : Code := cL ArcAt_n5
noncomputable def ArcAt_n8 : Code := cR ArcAt_n5
noncomputable def ArcAt_n9 : Code := cL ArcAt_n8
noncomputable def ArcAt_n10 : Code := cL ArcAt_n9
noncomputable def ArcAt_n11 : Code := cR ArcAt_n9
noncomputable def ArcAt_n12 : Code := cL ArcAt_n11
noncomputable def ArcAt_n13 : Code := cR ArcAt_n11
noncomputable def ArcAt_n14 : Code := cL ArcAt_n12
noncomputable def ArcAt_n15 : Code := cR ArcAt_n12
noncomputable def ArcAt_n16 : Code := cL ArcAt_n13
noncomputable def ArcAt_n17 : Code := cR ArcAt_n13
noncomputable def ArcAt_n18 : Code := cL ArcAt_n17
noncomputable def ArcAt_n19 : Code := cR ArcAt_n17
noncomputable def ArcAt_n20 : Code := cL ArcAt_n18
noncomputable def ArcAt_n21 : Code := cR ArcAt_n18
noncomputable def ArcAt_n22 : Code := cL ArcAt_n19
noncomputable def ArcAt_n23 : Code := cR ArcAt_n19
noncomputable def ArcAt_n24 : Code := cL ArcAt_n23
noncomputable def ArcAt_n25 : Code := cR ArcAt_n23
noncomputable def ArcAt_n26 : Code := cL ArcAt_n24
noncomputable def ArcAt_n27 : Code := cR ArcAt_n24
noncomputable def ArcAt_n28 : Code := cL ArcAt_n6
noncomputable def ArcAt_n29 : Code := cR ArcAt_n6
set_option maxRecDepth 10000 in
theorem ArcAt_q {w : World} {M : Hp} {X : Fr} (d : Dg) {dcrsA : Option Addr} {dcrsc : Nat} (c k : Nat) (hdcrs : RdA cdCr (M.un X.h) dcrsA dcrsc d.crs) (hc : c < d.crs.length) (hk : k < 4) (S : SH w M X []) : Cq Tryd.prog 45 [.agg [.slice dcrsA d.crs.length dcrsc, .int .i64 d.loops].toArray, .agg [.int .i64 (c : Int), .int .i64 (k : Int)].toArray] w M X (fun u => u = .int .i64 (arcAt d c k)) := by
 unfold Cq
 have rmhdcrs : d.crs.length * 40 ≤ 140737488355328 := hdcrs.room
 refine calls_in (b := ArcAt_n0) Tryd.func45 rfl Tryd.ntmps45 rfl (fun C hC => ?_)
 refine ws_sub [(0, _), (1, _)] ⟨rfl, rfl, trivial⟩ ?_
 refine ws_seqN ArcAt_n1 ArcAt_n2 rfl rfl rfl ?_
 refine ws_region rfl ?_
 refine wlo 0 1 rfl rfl rfl (wo_box (l := [_, _]) rfl rfl rfl rfl rfl S ?_)
 intro gb1 w1 S1; clear S
 refine wlo 1 2 rfl rfl rfl (wo_box (l := [_, _]) rfl rfl rfl rfl rfl S1 ?_)
 intro gb2 w2 S2; clear S1
 refine wla 2 3 rfl rfl rfl rfl rfl rfl rfl ?_
 refine wl_end rfl ?_
 refine nm_sub [(2, _), (3, _)] ⟨rfl, rfl, trivial⟩ ?_
 refine nm_thn ?_
 refine ws_seqN ArcAt_n3 ArcAt_n4 rfl rfl rfl ?_
 refine ws_region rfl ?_
 refine wlo 0 1 rfl rfl rfl (wo_run rfl rfl (run_fieldAddr rfl rfl Tryd.underlying24 rfl (ce22) (nf22)) ?_)
 refine wlo 1 2 rfl rfl rfl (wo_run rfl rfl (run_load1 rfl rfl Tryd.underlying22 rfl (S2.boxc (i := 1) rfl rfl)) ?_)
 refine wlo 2 3 rfl rfl rfl (wo_run rfl rfl (run_fieldAddr rfl rfl Tryd.underlying88 rfl (ce3) (nf3)) ?_)
 refine wlo 3 4 rfl rfl rfl (wo_run rfl rfl (run_load1 rfl rfl Tryd.underlying3 rfl (S2.boxc (i := 0) rfl rfl)) ?_)
 refine wlo 4 5 rfl rfl rfl (wo_run rfl rfl (run_indexM (C := cdCr) c rfl rfl rfl sl22 (by first | rfl | omega) hdcrs (by first | omega | (simp only [lens]; omega))) ?_)
 refine wlo 5 6 rfl rfl rfl (wo_run rfl rfl (run_loadN (us := [_, _, _, _, _]) rfl rfl Tryd.underlying67 rfl sz67 (hdcrs.cellsAt S2.um (e := c) (by first | omega | (simp only [lens]; omega)) (j := 0) ⟨rfl, rfl, rfl, rfl, rfl, trivial⟩)) ?_)
 refine wlo 6 7 rfl rfl rfl (wo_alloc (l := [_, _, _, _, _]) rfl rfl rfl zr67 rfl S2 ?_)
 intro gb3 w3 S3; clear S2
 refine wlo 7 8 rfl rfl rfl (wo_storeB (i := 0) (us := [_, _, _, _, _]) (l' := [_, _, _, _, _]) (H' := [_, _, _]) rfl rfl S3 rfl rfl rfl rfl sz67 rfl rfl rfl rfl ?_)
 intro w4 S4; clear S3
 refine wl_end rfl ?_
 refine nm_sub [(3, _), (5, _)] ⟨rfl, rfl, trivial⟩ ?_
 refine nm_thn ?_
 refine ws_seqN ArcAt_n5 ArcAt_n6 rfl rfl rfl ?_
 refine ws_seqN ArcAt_n7 ArcAt_n8 rfl rfl rfl ?_
 refine ws_region rfl ?_
 refine wlo 0 1 rfl rfl rfl (wo_run rfl rfl (run_fieldAddr rfl rfl Tryd.underlying88 rfl (ce3) (nf3)) ?_)
 refine wlo 1 2 rfl rfl rfl (wo_run rfl rfl (run_load1 rfl rfl Tryd.underlying3 rfl (S4.boxc (i := 1) rfl rfl)) ?_)
 refine wl_end rfl ?_
 refine nm_sub [(5, _), (13, _)] ⟨rfl, rfl, trivial⟩ ?_
 refine nm_thn ?_
 refine ws_blockN ArcAt_n9 0 rfl rfl rfl ?_
 refine ws_seqN ArcAt_n10 ArcAt_n11 rfl rfl rfl ?_
 refine ws_region rfl ?_
 refine wlo 0 1 rfl rfl rfl (wo_run rfl rfl (run_eql rfl rfl rfl) ?_)
 refine wla 1 2 rfl rfl rfl rfl rfl rfl rfl ?_
 refine wl_end rfl ?_
 refine nm_sub [(5, _), (13, _), (14, _)] ⟨rfl, rfl, rfl, trivial⟩ ?_
 refine nm_thn ?_
 refine ws_condN ArcAt_n12 ArcAt_n13 rfl rfl rfl rfl (fun hb14 => ?_) (fun hb14 => ?_)
 ·replace hb14 := of_decide_eq_true hb14
  refine ws_seqN ArcAt_n14 ArcAt_n15 rfl rfl rfl ?_
  refine ws_region rfl ?_
  refine wlo 0 1 rfl rfl rfl (wo_run rfl rfl (run_fieldAddr rfl rfl Tryd.underlying67 rfl (ce3) (nf3)) ?_)
  refine wlo 1 2 rfl rfl rfl (wo_run rfl rfl (run_load1 rfl rfl Tryd.underlying3 rfl (S4.boxc (i := 0) rfl rfl)) ?_)
  refine wla 2 3 rfl rfl rfl rfl rfl rfl rfl ?_
  refine wl_end rfl ?_
  refine nm_sub [(4, _)] ⟨rfl, trivial⟩ ?_
  refine nm_thn ?_
  refine ws_ret hC [_] rfl rfl ⟨rfl, trivial⟩ ?_
  exact ⟨_, rfl, (S4.pick [] [] (by decide) trivial), (by first | (obtain rfl : k = 0 := (by omega); rfl) | (obtain rfl : k = 1 := (by omega); rfl) | (obtain rfl : k = 2 := (by omega); rfl) | (obtain rfl : k = 3 := (by omega); rfl))⟩
 ·replace hb14 := of_decide_eq_false hb14
  refine ws_seqN ArcAt_n16 ArcAt_n17 rfl rfl rfl ?_
  refine ws_region rfl ?_
  refine wlo 0 1 rfl rfl rfl (wo_run rfl rfl (run_eql rfl rfl rfl) ?_)
  refine wla 1 2 rfl rfl rfl rfl rfl rfl rfl ?_
  refine wl_end rfl ?_
  refine nm_sub [(5, _), (13, _), (18, _)] ⟨rfl, rfl, rfl, trivial⟩ ?_
  refine nm_thn ?_
  refine ws_condN ArcAt_n18 ArcAt_n19 rfl rfl rfl rfl (fun hb18 => ?_) (fun hb18 => ?_)
  ·replace hb18 := of_decide_eq_true hb18
   refine ws_seqN ArcAt_n20 ArcAt_n21 rfl rfl rfl ?_
   refine ws_region rfl ?_
   refine wlo 0 1 rfl rfl rfl (wo_run rfl rfl (run_fieldAddr rfl rfl Tryd.underlying67 rfl (ce3) (nf3)) ?_)
   refine wlo 1 2 rfl rfl rfl (wo_run rfl rfl (run_load1 rfl rfl Tryd.underlying3 rfl (S4.boxc (i := 0) rfl rfl)) ?_)
   refine wla 2 3 rfl rfl rfl rfl rfl rfl rfl ?_
   refine wl_end rfl ?_
   refine nm_sub [(4, _)] ⟨rfl, trivial⟩ ?_
   refine nm_thn ?_
   refine ws_ret hC [_] rfl rfl ⟨rfl, trivial⟩ ?_
   exact ⟨_, rfl, (S4.pick [] [] (by decide) trivial), (by first | (obtain rfl : k = 0 := (by omega); rfl) | (obtain rfl : k = 1 := (by omega); rfl) | (obtain rfl : k = 2 := (by omega); rfl) | (obtain rfl : k = 3 := (by omega); rfl))⟩
  ·replace hb18 := of_decide_eq_false hb18
   refine ws_seqN ArcAt_n22 ArcAt_n23 rfl rfl rfl ?_
   refine ws_region rfl ?_
   refine wlo 0 1 rfl rfl rfl (wo_run rfl rfl (run_eql rfl rfl rfl) ?_)
   refine wla 1 2 rfl rfl rfl rfl rfl rfl rfl ?_
   refine wl_end rfl ?_
   refine nm_sub [(5, _), (22, _)] ⟨rfl, rfl, trivial⟩ ?_
   refine nm_thn ?_
   refine ws_condN ArcAt_n24 ArcAt_n25 rfl rfl rfl rfl (fun hb22 => ?_) (fun hb22 => ?_)
   ·replace hb22 := of_decide_eq_true hb22
    refine ws_seqN ArcAt_n26 ArcAt_n27 rfl rfl rfl ?_
    refine ws_region rfl ?_
    refine wlo 0 1 rfl rfl rfl (wo_run rfl rfl (run_fieldAddr rfl rfl Tryd.underlying67 rfl (ce3) (nf3)) ?_)
    refine wlo 1 2 rfl rfl rfl (wo_run rfl rfl (run_load1 rfl rfl Tryd.underlying3 rfl (S4.boxc (i := 0) rfl rfl)) ?_)
    refine wla 2 3 rfl rfl rfl rfl rfl rfl rfl ?_
    refine wl_end rfl ?_
    refine nm_sub [(4, _)] ⟨rfl, trivial⟩ ?_
    refine nm_thn ?_
    refine ws_ret hC [_] rfl rfl ⟨rfl, trivial⟩ ?_
    exact ⟨_, rfl, (S4.pick [] [] (by decide) trivial), (by first | (obtain rfl : k = 0 := (by omega); rfl) | (obtain rfl : k = 1 := (by omega); rfl) | (obtain rfl : k = 2 := (by omega); rfl) | (obtain rfl : k = 3 := (by omega); rfl))⟩
   ·replace hb22 := of_decide_eq_false hb22
    refine ws_skip rfl ?_
    refine nm_blk ?_
    refine nm_sub [(5, _)] ⟨rfl, trivial⟩ ?_
    refine nm_thn ?_
    refine ws_seqN ArcAt_n28 ArcAt_n29 rfl rfl rfl ?_
    refine ws_region rfl ?_
    refine wlo 0 1 rfl rfl rfl (wo_run rfl rfl (run_fieldAddr rfl rfl Tryd.underlying67 rfl (ce3) (nf3)) ?_)
    refine wlo 1 2 rfl rfl rfl (wo_run rfl rfl (run_load1 rfl rfl Tryd.underlying3 rfl (S4.boxc (i := 0) rfl rfl)) ?_)
    refine wla 2 3 rfl rfl rfl rfl rfl rfl rfl ?_
    refine wl_end rfl ?_
    refine nm_sub [(4, _)] ⟨rfl, trivial⟩ ?_
    refine nm_thn ?_
    refine ws_ret hC [_] rfl rfl ⟨rfl, trivial⟩ ?_
    exact ⟨_, rfl, (S4.pick [] [] (by decide) trivial), (by first | (obtain rfl : k = 0 := (by omega); rfl) | (obtain rfl : k = 1 := (by omega); rfl) | (obtain rfl : k = 2 := (by omega); rfl) | (obtain rfl : k = 3 := (by omega); rfl))⟩
noncomputable def Entry_n0 : Code := Tryd.f46.body.getD .skip
noncomputable def Entry_n1 : Code := cL Entry_n0
noncomputable def Entry_n2 : Code := cR Entry_n0
noncomputable def Entry_n3 : Code := cL Entry_n2
noncomputable def Entry_n4 : Code := cR Entry_n2
set_option maxRecDepth 10000 in
theorem Entry_q {w : World} {M : Hp} {X : Fr} (d : Dg) {dcrsA : Option Addr} {dcrsc : Nat} (c k : Nat) (hdcrs : RdA cdCr (M.un X.h) dcrsA dcrsc d.crs) (hc : c < d.crs.length) (hk : k < 4) (S : SH w M X []) : Cq Tryd.prog 46 [.agg [.slice dcrsA d.crs.length dcrsc, .int .i64 d.loops].toArray, .agg [.int .i64 (c : Int), .int .i64 (k : Int)].toArray] w M X (fun u => u = .bool (entryB d c k)) := by
 unfold Cq
 have rmhdcrs : d.crs.length * 40 ≤ 140737488355328 := hdcrs.room
 refine calls_in (b := Entry_n0) Tryd.func46 rfl Tryd.ntmps46 rfl (fun C hC => ?_)
 refine ws_sub [(0, _), (1, _)] ⟨rfl, rfl, trivial⟩ ?_
 refine ws_seqN Entry_n1 Entry_n2 rfl rfl rfl ?_
 refine ws_region rfl ?_
 refine wlo 0 1 rfl rfl rfl (wo_box (l := [_, _]) rfl rfl rfl rfl rfl S ?_)
 intro gb1 w1 S1; clear S
 refine wlo 1 2 rfl rfl rfl (wo_box (l := [_, _]) rfl rfl rfl rfl rfl S1 ?_)
 intro gb2 w2 S2; clear S1
 refine wla 2 3 rfl rfl rfl rfl rfl rfl rfl ?_
 refine wl_end rfl ?_
 refine nm_sub [(2, _), (3, _)] ⟨rfl, rfl, trivial⟩ ?_
 refine nm_thn ?_
 refine ws_seqN Entry_n3 Entry_n4 rfl rfl rfl ?_
 refine ws_region rfl ?_
 refine wlo 0 1 rfl rfl rfl (wo_run rfl rfl (run_fieldAddr rfl rfl Tryd.underlying88 rfl (ce3) (nf3)) ?_)
 refine wlo 1 2 rfl rfl rfl (wo_run rfl rfl (run_load1 rfl rfl Tryd.underlying3 rfl (S2.boxc (i := 0) rfl rfl)) ?_)
 refine wlo 2 3 rfl rfl rfl (wo_run rfl rfl (run_eql rfl rfl rfl) ?_)
 refine wlm 3 4 rfl rfl rfl rfl rfl rfl rfl ?_
 refine wl_split (t := 8) rfl (fun hg8 => ?_) (fun hg8 => ?_)
 ·replace hg8 := of_decide_eq_true hg8
  refine wl_no (k := 4) (k' := 5) (d := 9) rfl rfl ⟨_, _, _, rfl, rfl, rfl, rfl⟩ rfl rfl ?_
  refine wl_no (k := 5) (k' := 6) (d := 10) rfl rfl ⟨_, _, _, rfl, rfl, rfl, rfl⟩ rfl rfl ?_
  refine wl_no (k := 6) (k' := 7) (d := 11) rfl rfl ⟨_, _, _, rfl, rfl, rfl, rfl⟩ rfl rfl ?_
  refine wl_no (k := 7) (k' := 8) (d := 12) rfl rfl ⟨_, _, _, rfl, rfl, rfl, rfl⟩ rfl rfl ?_
  refine wl_no (k := 8) (k' := 9) (d := 13) rfl rfl ⟨_, _, _, rfl, rfl, rfl, rfl⟩ rfl rfl ?_
  refine wl_no (k := 9) (k' := 10) (d := 14) rfl rfl ⟨_, _, _, rfl, rfl, rfl, rfl⟩ rfl rfl ?_
  refine wl_no (k := 10) (k' := 11) (d := 15) rfl rfl ⟨_, _, _, rfl, rfl, rfl, rfl⟩ rfl rfl ?_
  refine wl_no (k := 11) (k' := 12) (d := 16) rfl rfl ⟨_, _, _, rfl, rfl, rfl, rfl⟩ rfl rfl ?_
  refine wl_no (k := 12) (k' := 13) (d := 17) rfl rfl ⟨_, _, _, rfl, rfl, rfl, rfl⟩ rfl rfl ?_
  refine wl_no (k := 13) (k' := 14) (d := 18) rfl rfl ⟨_, _, _, rfl, rfl, rfl, rfl⟩ rfl rfl ?_
  refine wl_no (k := 14) (k' := 15) (d := 19) rfl rfl ⟨_, _, _, rfl, rfl, rfl, rfl⟩ rfl rfl ?_
  refine wl_no (k := 15) (k' := 16) (d := 20) rfl rfl ⟨_, _, _, rfl, rfl, rfl, rfl⟩ rfl rfl ?_
  refine wl_no (k := 16) (k' := 17) (d := 21) rfl rfl ⟨_, _, _, rfl, rfl, rfl, rfl⟩ rfl rfl ?_
  refine wlo 17 18 rfl rfl rfl (wo_run rfl rfl (run_pickT rfl rfl rfl) ?_)
  refine wlm 18 19 rfl rfl rfl rfl rfl rfl rfl ?_
  refine wl_no (k := 19) (k' := 20) (d := 24) rfl rfl ⟨_, _, _, rfl, rfl, rfl, rfl⟩ rfl rfl ?_
  refine wl_no (k := 20) (k' := 21) (d := 25) rfl rfl ⟨_, _, _, rfl, rfl, rfl, rfl⟩ rfl rfl ?_
  refine wl_no (k := 21) (k' := 22) (d := 26) rfl rfl ⟨_, _, _, rfl, rfl, rfl, rfl⟩ rfl rfl ?_
  refine wl_no (k := 22) (k' := 23) (d := 27) rfl rfl ⟨_, _, _, rfl, rfl, rfl, rfl⟩ rfl rfl ?_
  refine wl_no (k := 23) (k' := 24) (d := 28) rfl rfl ⟨_, _, _, rfl, rfl, rfl, rfl⟩ rfl rfl ?_
  refine wl_no (k := 24) (k' := 25) (d := 29) rfl rfl ⟨_, _, _, rfl, rfl, rfl, rfl⟩ rfl rfl ?_
  refine wl_no (k := 25) (k' := 26) (d := 30) rfl rfl ⟨_, _, _, rfl, rfl, rfl, rfl⟩ rfl rfl ?_
  refine wl_no (k := 26) (k' := 27) (d := 31) rfl rfl ⟨_, _, _, rfl, rfl, rfl, rfl⟩ rfl rfl ?_
  refine wl_no (k := 27) (k' := 28) (d := 32) rfl rfl ⟨_, _, _, rfl, rfl, rfl, rfl⟩ rfl rfl ?_
  refine wl_no (k := 28) (k' := 29) (d := 33) rfl rfl ⟨_, _, _, rfl, rfl, rfl, rfl⟩ rfl rfl ?_
  refine wl_no (k := 29) (k' := 30) (d := 34) rfl rfl ⟨_, _, _, rfl, rfl, rfl, rfl⟩ rfl rfl ?_
  refine wl_no (k := 30) (k' := 31) (d := 35) rfl rfl ⟨_, _, _, rfl, rfl, rfl, rfl⟩ rfl rfl ?_
  refine wlo 31 32 rfl rfl rfl (wo_run rfl rfl (run_pickT rfl rfl rfl) ?_)
  refine wla 32 33 rfl rfl rfl rfl rfl rfl rfl ?_
  refine wl_end rfl ?_
  refine nm_sub [(4, _)] ⟨rfl, trivial⟩ ?_
  refine nm_thn ?_
  refine ws_ret hC [_] rfl rfl ⟨rfl, trivial⟩ ?_
  exact ⟨_, rfl, (S2.pick [] [] (by decide) trivial), (by have e0 : k = 0 ∨ k = 1 ∨ k = 2 ∨ k = 3 := (by omega); rcases e0 with rfl | rfl | rfl | rfl <;> first | (exfalso; omega) | (show Value.bool _ = _; unfold entryB crIn; simp [*]))⟩
 ·replace hg8 := of_decide_eq_false hg8
  refine wl_opG (k := 4) (k' := 5) rfl rfl ⟨_, _, _, rfl, rfl, rfl, rfl⟩ rfl (wo_run rfl rfl (run_fieldAddr rfl rfl Tryd.underlying88 rfl (ce3) (nf3)) ?_)
  refine wl_opG (k := 5) (k' := 6) rfl rfl ⟨_, _, _, rfl, rfl, rfl, rfl⟩ rfl (wo_run rfl rfl (run_load1 rfl rfl Tryd.underlying3 rfl (S2.boxc (i := 0) rfl rfl)) ?_)
  refine wl_opG (k := 6) (k' := 7) rfl rfl ⟨_, _, _, rfl, rfl, rfl, rfl⟩ rfl (wo_run rfl rfl (run_eql rfl rfl rfl) ?_)
  refine wl_opG (k := 7) (k' := 8) rfl rfl ⟨_, _, _, rfl, rfl, rfl, rfl⟩ rfl (wo_run rfl rfl (run_move rfl rfl) ?_)
  refine wl_split (t := 12) rfl (fun hg12 => ?_) (fun hg12 => ?_)
  ·replace hg12 := of_decide_eq_true hg12
   refine wl_opG (k := 8) (k' := 9) rfl rfl ⟨_, _, _, rfl, rfl, rfl, rfl⟩ rfl (wo_run rfl rfl (run_fieldAddr rfl rfl Tryd.underlying24 rfl (ce22) (nf22)) ?_)
   refine wl_opG (k := 9) (k' := 10) rfl rfl ⟨_, _, _, rfl, rfl, rfl, rfl⟩ rfl (wo_run rfl rfl (run_load1 rfl rfl Tryd.underlying22 rfl (S2.boxc (i := 1) rfl rfl)) ?_)
   refine wl_opG (k := 10) (k' := 11) rfl rfl ⟨_, _, _, rfl, rfl, rfl, rfl⟩ rfl (wo_run rfl rfl (run_fieldAddr rfl rfl Tryd.underlying88 rfl (ce3) (nf3)) ?_)
   refine wl_opG (k := 11) (k' := 12) rfl rfl ⟨_, _, _, rfl, rfl, rfl, rfl⟩ rfl (wo_run rfl rfl (run_load1 rfl rfl Tryd.underlying3 rfl (S2.boxc (i := 0) rfl rfl)) ?_)
   refine wl_opG (k := 12) (k' := 13) rfl rfl ⟨_, _, _, rfl, rfl, rfl, rfl⟩ rfl (wo_run rfl rfl (run_indexM (C := cdCr) c rfl rfl rfl sl22 (by first | rfl | omega) hdcrs (by first | omega | (simp only [lens]; omega))) ?_)
   refine wl_opG (k := 13) (k' := 14) rfl rfl ⟨_, _, _, rfl, rfl, rfl, rfl⟩ rfl (wo_run rfl rfl (run_fieldAddr rfl rfl Tryd.underlying67 rfl (ce4) (nf4)) ?_)
   refine wl_opG (k := 14) (k' := 15) rfl rfl ⟨_, _, _, rfl, rfl, rfl, rfl⟩ rfl (wo_run rfl rfl (run_load1 rfl rfl Tryd.underlying4 rfl (hdcrs.cell S2.um (i := c) (by first | omega | (simp only [lens]; omega)) 4 rfl rfl)) ?_)
   refine wl_opG (k := 15) (k' := 16) rfl rfl ⟨_, _, _, rfl, rfl, rfl, rfl⟩ rfl (wo_run rfl rfl (run_not rfl rfl) ?_)
   refine wl_opG (k := 16) (k' := 17) rfl rfl ⟨_, _, _, rfl, rfl, rfl, rfl⟩ rfl (wo_run rfl rfl (run_pickT rfl rfl rfl) ?_)
   refine wlo 17 18 rfl rfl rfl (wo_run rfl rfl (run_pickF rfl rfl rfl) ?_)
   refine wlm 18 19 rfl rfl rfl rfl rfl rfl rfl ?_
   refine wl_split (t := 23) rfl (fun hg23 => ?_) (fun hg23 => ?_)
   ·simp only [Bool.and_eq_true, Bool.or_eq_true, Bool.and_eq_false_iff, Bool.or_eq_false_iff, decide_eq_true_eq, decide_eq_false_iff_not, Bool.not_eq_true', Bool.not_eq_false'] at hg23
    refine wl_no (k := 19) (k' := 20) (d := 24) rfl rfl ⟨_, _, _, rfl, rfl, rfl, rfl⟩ rfl rfl ?_
    refine wl_no (k := 20) (k' := 21) (d := 25) rfl rfl ⟨_, _, _, rfl, rfl, rfl, rfl⟩ rfl rfl ?_
    refine wl_no (k := 21) (k' := 22) (d := 26) rfl rfl ⟨_, _, _, rfl, rfl, rfl, rfl⟩ rfl rfl ?_
    refine wl_no (k := 22) (k' := 23) (d := 27) rfl rfl ⟨_, _, _, rfl, rfl, rfl, rfl⟩ rfl rfl ?_
    refine wl_no (k := 23) (k' := 24) (d := 28) rfl rfl ⟨_, _, _, rfl, rfl, rfl, rfl⟩ rfl rfl ?_
    refine wl_no (k := 24) (k' := 25) (d := 29) rfl rfl ⟨_, _, _, rfl, rfl, rfl, rfl⟩ rfl rfl ?_
    refine wl_no (k := 25) (k' := 26) (d := 30) rfl rfl ⟨_, _, _, rfl, rfl, rfl, rfl⟩ rfl rfl ?_
    refine wl_no (k := 26) (k' := 27) (d := 31) rfl rfl ⟨_, _, _, rfl, rfl, rfl, rfl⟩ rfl rfl ?_
    refine wl_no (k := 27) (k' := 28) (d := 32) rfl rfl ⟨_, _, _, rfl, rfl, rfl, rfl⟩ rfl rfl ?_
    refine wl_no (k := 28) (k' := 29) (d := 33) rfl rfl ⟨_, _, _, rfl, rfl, rfl, rfl⟩ rfl rfl ?_
    refine wl_no (k := 29) (k' := 30) (d := 34) rfl rfl ⟨_, _, _, rfl, rfl, rfl, rfl⟩ rfl rfl ?_
    refine wl_no (k := 30) (k' := 31) (d := 35) rfl rfl ⟨_, _, _, rfl, rfl, rfl, rfl⟩ rfl rfl ?_
    refine wlo 31 32 rfl rfl rfl (wo_run rfl rfl (run_pickT rfl rfl rfl) ?_)
    refine wla 32 33 rfl rfl rfl rfl rfl rfl rfl ?_
    refine wl_end rfl ?_
    refine nm_sub [(4, _)] ⟨rfl, trivial⟩ ?_
    refine nm_thn ?_
    refine ws_ret hC [_] rfl rfl ⟨rfl, trivial⟩ ?_
    exact ⟨_, rfl, (S2.pick [] [] (by decide) trivial), (by have e0 : k = 0 ∨ k = 1 ∨ k = 2 ∨ k = 3 := (by omega); rcases e0 with rfl | rfl | rfl | rfl <;> first | (exfalso; omega) | (show Value.bool _ = _; unfold entryB crIn; simp [*]))⟩
   ·simp only [Bool.and_eq_true, Bool.or_eq_true, Bool.and_eq_false_iff, Bool.or_eq_false_iff, decide_eq_true_eq, decide_eq_false_iff_not, Bool.not_eq_true', Bool.not_eq_false'] at hg23
    refine wl_opG (k := 19) (k' := 20) rfl rfl ⟨_, _, _, rfl, rfl, rfl, rfl⟩ rfl (wo_run rfl rfl (run_fieldAddr rfl rfl Tryd.underlying88 rfl (ce3) (nf3)) ?_)
    refine wl_opG (k := 20) (k' := 21) rfl rfl ⟨_, _, _, rfl, rfl, rfl, rfl⟩ rfl (wo_run rfl rfl (run_load1 rfl rfl Tryd.underlying3 rfl (S2.boxc (i := 0) rfl rfl)) ?_)
    refine wl_opG (k := 21) (k' := 22) rfl rfl ⟨_, _, _, rfl, rfl, rfl, rfl⟩ rfl (wo_run rfl rfl (run_eql rfl rfl rfl) ?_)
    refine wl_opG (k := 22) (k' := 23) rfl rfl ⟨_, _, _, rfl, rfl, rfl, rfl⟩ rfl (wo_run rfl rfl (run_move rfl rfl) ?_)
    refine wl_split (t := 27) rfl (fun hg27 => ?_) (fun hg27 => ?_)
    ·replace hg27 := of_decide_eq_true hg27
     refine wl_opG (k := 23) (k' := 24) rfl rfl ⟨_, _, _, rfl, rfl, rfl, rfl⟩ rfl (wo_run rfl rfl (run_fieldAddr rfl rfl Tryd.underlying24 rfl (ce22) (nf22)) ?_)
     refine wl_opG (k := 24) (k' := 25) rfl rfl ⟨_, _, _, rfl, rfl, rfl, rfl⟩ rfl (wo_run rfl rfl (run_load1 rfl rfl Tryd.underlying22 rfl (S2.boxc (i := 1) rfl rfl)) ?_)
     refine wl_opG (k := 25) (k' := 26) rfl rfl ⟨_, _, _, rfl, rfl, rfl, rfl⟩ rfl (wo_run rfl rfl (run_fieldAddr rfl rfl Tryd.underlying88 rfl (ce3) (nf3)) ?_)
     refine wl_opG (k := 26) (k' := 27) rfl rfl ⟨_, _, _, rfl, rfl, rfl, rfl⟩ rfl (wo_run rfl rfl (run_load1 rfl rfl Tryd.underlying3 rfl (S2.boxc (i := 0) rfl rfl)) ?_)
     refine wl_opG (k := 27) (k' := 28) rfl rfl ⟨_, _, _, rfl, rfl, rfl, rfl⟩ rfl (wo_run rfl rfl (run_indexM (C := cdCr) c rfl rfl rfl sl22 (by first | rfl | omega) hdcrs (by first | omega | (simp only [lens]; omega))) ?_)
     refine wl_opG (k := 28) (k' := 29) rfl rfl ⟨_, _, _, rfl, rfl, rfl, rfl⟩ rfl (wo_run rfl rfl (run_fieldAddr rfl rfl Tryd.underlying67 rfl (ce4) (nf4)) ?_)
     refine wl_opG (k := 29) (k' := 30) rfl rfl ⟨_, _, _, rfl, rfl, rfl, rfl⟩ rfl (wo_run rfl rfl (run_load1 rfl rfl Tryd.underlying4 rfl (hdcrs.cell S2.um (i := c) (by first | omega | (simp only [lens]; omega)) 4 rfl rfl)) ?_)
     refine wl_opG (k := 30) (k' := 31) rfl rfl ⟨_, _, _, rfl, rfl, rfl, rfl⟩ rfl (wo_run rfl rfl (run_pickT rfl rfl rfl) ?_)
     refine wlo 31 32 rfl rfl rfl (wo_run rfl rfl (run_pickF rfl rfl rfl) ?_)
     refine wla 32 33 rfl rfl rfl rfl rfl rfl rfl ?_
     refine wl_end rfl ?_
     refine nm_sub [(4, _)] ⟨rfl, trivial⟩ ?_
     refine nm_thn ?_
     refine ws_ret hC [_] rfl rfl ⟨rfl, trivial⟩ ?_
     exact ⟨_, rfl, (S2.pick [] [] (by decide) trivial), (by have e0 : k = 0 ∨ k = 1 ∨ k = 2 ∨ k = 3 := (by omega); rcases e0 with rfl | rfl | rfl | rfl <;> first | (exfalso; omega) | (show Value.bool _ = _; unfold entryB crIn; simp [*]))⟩
    ·replace hg27 := of_decide_eq_false hg27
     refine wl_no (k := 23) (k' := 24) (d := 28) rfl rfl ⟨_, _, _, rfl, rfl, rfl, rfl⟩ rfl rfl ?_
     refine wl_no (k := 24) (k' := 25) (d := 29) rfl rfl ⟨_, _, _, rfl, rfl, rfl, rfl⟩ rfl rfl ?_
     refine wl_no (k := 25) (k' := 26) (d := 30) rfl rfl ⟨_, _, _, rfl, rfl, rfl, rfl⟩ rfl rfl ?_
     refine wl_no (k := 26) (k' := 27) (d := 31) rfl rfl ⟨_, _, _, rfl, rfl, rfl, rfl⟩ rfl rfl ?_
     refine wl_no (k := 27) (k' := 28) (d := 32) rfl rfl ⟨_, _, _, rfl, rfl, rfl, rfl⟩ rfl rfl ?_
     refine wl_no (k := 28) (k' := 29) (d := 33) rfl rfl ⟨_, _, _, rfl, rfl, rfl, rfl⟩ rfl rfl ?_
     refine wl_no (k := 29) (k' := 30) (d := 34) rfl rfl ⟨_, _, _, rfl, rfl, rfl, rfl⟩ rfl rfl ?_
     refine wl_opG (k := 30) (k' := 31) rfl rfl ⟨_, _, _, rfl, rfl, rfl, rfl⟩ rfl (wo_run rfl rfl (run_pickF rfl rfl rfl) ?_)
     refine wlo 31 32 rfl rfl rfl (wo_run rfl rfl (run_pickF rfl rfl rfl) ?_)
     refine wla 32 33 rfl rfl rfl rfl rfl rfl rfl ?_
     refine wl_end rfl ?_
     refine nm_sub [(4, _)] ⟨rfl, trivial⟩ ?_
     refine nm_thn ?_
     refine ws_ret hC [_] rfl rfl ⟨rfl, trivial⟩ ?_
     exact ⟨_, rfl, (S2.pick [] [] (by decide) trivial), (by have e0 : k = 0 ∨ k = 1 ∨ k = 2 ∨ k = 3 := (by omega); rcases e0 with rfl | rfl | rfl | rfl <;> first | (exfalso; omega) | (show Value.bool _ = _; unfold entryB crIn; simp [*]))⟩
  ·replace hg12 := of_decide_eq_false hg12
   refine wl_no (k := 8) (k' := 9) (d := 13) rfl rfl ⟨_, _, _, rfl, rfl, rfl, rfl⟩ rfl rfl ?_
   refine wl_no (k := 9) (k' := 10) (d := 14) rfl rfl ⟨_, _, _, rfl, rfl, rfl, rfl⟩ rfl rfl ?_
   refine wl_no (k := 10) (k' := 11) (d := 15) rfl rfl ⟨_, _, _, rfl, rfl, rfl, rfl⟩ rfl rfl ?_
   refine wl_no (k := 11) (k' := 12) (d := 16) rfl rfl ⟨_, _, _, rfl, rfl, rfl, rfl⟩ rfl rfl ?_
   refine wl_no (k := 12) (k' := 13) (d := 17) rfl rfl ⟨_, _, _, rfl, rfl, rfl, rfl⟩ rfl rfl ?_
   refine wl_no (k := 13) (k' := 14) (d := 18) rfl rfl ⟨_, _, _, rfl, rfl, rfl, rfl⟩ rfl rfl ?_
   refine wl_no (k := 14) (k' := 15) (d := 19) rfl rfl ⟨_, _, _, rfl, rfl, rfl, rfl⟩ rfl rfl ?_
   refine wl_no (k := 15) (k' := 16) (d := 20) rfl rfl ⟨_, _, _, rfl, rfl, rfl, rfl⟩ rfl rfl ?_
   refine wl_opG (k := 16) (k' := 17) rfl rfl ⟨_, _, _, rfl, rfl, rfl, rfl⟩ rfl (wo_run rfl rfl (run_pickF rfl rfl rfl) ?_)
   refine wlo 17 18 rfl rfl rfl (wo_run rfl rfl (run_pickF rfl rfl rfl) ?_)
   refine wlm 18 19 rfl rfl rfl rfl rfl rfl rfl ?_
   refine wl_opG (k := 19) (k' := 20) rfl rfl ⟨_, _, _, rfl, rfl, rfl, rfl⟩ rfl (wo_run rfl rfl (run_fieldAddr rfl rfl Tryd.underlying88 rfl (ce3) (nf3)) ?_)
   refine wl_opG (k := 20) (k' := 21) rfl rfl ⟨_, _, _, rfl, rfl, rfl, rfl⟩ rfl (wo_run rfl rfl (run_load1 rfl rfl Tryd.underlying3 rfl (S2.boxc (i := 0) rfl rfl)) ?_)
   refine wl_opG (k := 21) (k' := 22) rfl rfl ⟨_, _, _, rfl, rfl, rfl, rfl⟩ rfl (wo_run rfl rfl (run_eql rfl rfl rfl) ?_)
   refine wl_opG (k := 22) (k' := 23) rfl rfl ⟨_, _, _, rfl, rfl, rfl, rfl⟩ rfl (wo_run rfl rfl (run_move rfl rfl) ?_)
   refine wl_split (t := 27) rfl (fun hg27 => ?_) (fun hg27 => ?_)
   ·replace hg27 := of_decide_eq_true hg27
    refine wl_opG (k := 23) (k' := 24) rfl rfl ⟨_, _, _, rfl, rfl, rfl, rfl⟩ rfl (wo_run rfl rfl (run_fieldAddr rfl rfl Tryd.underlying24 rfl (ce22) (nf22)) ?_)
    refine wl_opG (k := 24) (k' := 25) rfl rfl ⟨_, _, _, rfl, rfl, rfl, rfl⟩ rfl (wo_run rfl rfl (run_load1 rfl rfl Tryd.underlying22 rfl (S2.boxc (i := 1) rfl rfl)) ?_)
    refine wl_opG (k := 25) (k' := 26) rfl rfl ⟨_, _, _, rfl, rfl, rfl, rfl⟩ rfl (wo_run rfl rfl (run_fieldAddr rfl rfl Tryd.underlying88 rfl (ce3) (nf3)) ?_)
    refine wl_opG (k := 26) (k' := 27) rfl rfl ⟨_, _, _, rfl, rfl, rfl, rfl⟩ rfl (wo_run rfl rfl (run_load1 rfl rfl Tryd.underlying3 rfl (S2.boxc (i := 0) rfl rfl)) ?_)
    refine wl_opG (k := 27) (k' := 28) rfl rfl ⟨_, _, _, rfl, rfl, rfl, rfl⟩ rfl (wo_run rfl rfl (run_indexM (C := cdCr) c rfl rfl rfl sl22 (by first | rfl | omega) hdcrs (by first | omega | (simp only [lens]; omega))) ?_)
    refine wl_opG (k := 28) (k' := 29) rfl rfl ⟨_, _, _, rfl, rfl, rfl, rfl⟩ rfl (wo_run rfl rfl (run_fieldAddr rfl rfl Tryd.underlying67 rfl (ce4) (nf4)) ?_)
    refine wl_opG (k := 29) (k' := 30) rfl rfl ⟨_, _, _, rfl, rfl, rfl, rfl⟩ rfl (wo_run rfl rfl (run_load1 rfl rfl Tryd.underlying4 rfl (hdcrs.cell S2.um (i := c) (by first | omega | (simp only [lens]; omega)) 4 rfl rfl)) ?_)
    refine wl_opG (k := 30) (k' := 31) rfl rfl ⟨_, _, _, rfl, rfl, rfl, rfl⟩ rfl (wo_run rfl rfl (run_pickT rfl rfl rfl) ?_)
    refine wlo 31 32 rfl rfl rfl (wo_run rfl rfl (run_pickF rfl rfl rfl) ?_)
    refine wla 32 33 rfl rfl rfl rfl rfl rfl rfl ?_
    refine wl_end rfl ?_
    refine nm_sub [(4, _)] ⟨rfl, trivial⟩ ?_
    refine nm_thn ?_
    refine ws_ret hC [_] rfl rfl ⟨rfl, trivial⟩ ?_
    exact ⟨_, rfl, (S2.pick [] [] (by decide) trivial), (by have e0 : k = 0 ∨ k = 1 ∨ k = 2 ∨ k = 3 := (by omega); rcases e0 with rfl | rfl | rfl | rfl <;> first | (exfalso; omega) | (show Value.bool _ = _; unfold entryB crIn; simp [*]))⟩
   ·replace hg27 := of_decide_eq_false hg27
    refine wl_no (k := 23) (k' := 24) (d := 28) rfl rfl ⟨_, _, _, rfl, rfl, rfl, rfl⟩ rfl rfl ?_
    refine wl_no (k := 24) (k' := 25) (d := 29) rfl rfl ⟨_, _, _, rfl, rfl, rfl, rfl⟩ rfl rfl ?_
    refine wl_no (k := 25) (k' := 26) (d := 30) rfl rfl ⟨_, _, _, rfl, rfl, rfl, rfl⟩ rfl rfl ?_
    refine wl_no (k := 26) (k' := 27) (d := 31) rfl rfl ⟨_, _, _, rfl, rfl, rfl, rfl⟩ rfl rfl ?_
    refine wl_no (k := 27) (k' := 28) (d := 32) rfl rfl ⟨_, _, _, rfl, rfl, rfl, rfl⟩ rfl rfl ?_
    refine wl_no (k := 28) (k' := 29) (d := 33) rfl rfl ⟨_, _, _, rfl, rfl, rfl, rfl⟩ rfl rfl ?_
    refine wl_no (k := 29) (k' := 30) (d := 34) rfl rfl ⟨_, _, _, rfl, rfl, rfl, rfl⟩ rfl rfl ?_
    refine wl_opG (k := 30) (k' := 31) rfl rfl ⟨_, _, _, rfl, rfl, rfl, rfl⟩ rfl (wo_run rfl rfl (run_pickF rfl rfl rfl) ?_)
    refine wlo 31 32 rfl rfl rfl (wo_run rfl rfl (run_pickF rfl rfl rfl) ?_)
    refine wla 32 33 rfl rfl rfl rfl rfl rfl rfl ?_
    refine wl_end rfl ?_
    refine nm_sub [(4, _)] ⟨rfl, trivial⟩ ?_
    refine nm_thn ?_
    refine ws_ret hC [_] rfl rfl ⟨rfl, trivial⟩ ?_
    exact ⟨_, rfl, (S2.pick [] [] (by decide) trivial), (by have e0 : k = 0 ∨ k = 1 ∨ k = 2 ∨ k = 3 := (by omega); rcases e0 with rfl | rfl | rfl | rfl <;> first | (exfalso; omega) | (show Value.bool _ = _; unfold entryB crIn; simp [*]))⟩
noncomputable def EndOf_n0 : Code := Tryd.f49.body.getD .skip
noncomputable def EndOf_n1 : Code := cL EndOf_n0
noncomputable def EndOf_n2 : Code := cR EndOf_n0
noncomputable def EndOf_n3 : Code := cL EndOf_n2
noncomputable def EndOf_n4 : Code := cR EndOf_n2
noncomputable def EndOf_n5 : Code := cL EndOf_n3
noncomputable def EndOf_n6 : Code := cR EndOf_n3
noncomputable def EndOf_n7 : Code := cL EndOf_n6
noncomputable def EndOf_n8 : Code := cL EndOf_n7
noncomputable def EndOf_n9 : Code := cL EndOf_n8
noncomputable def EndOf_n10 : Code := cR EndOf_n8
noncomputable def EndOf_n11 : Code := cL EndOf_n9
noncomputable def EndOf_n12 : Code := cR EndOf_n9
noncomputable def EndOf_n13 : Code := cL EndOf_n12
noncomputable def EndOf_n14 : Code := cR EndOf_n12
noncomputable def EndOf_n15 : Code := cL EndOf_n10
noncomputable def EndOf_n16 : Code := cR EndOf_n10
noncomputable def EndOf_n17 : Code := cL EndOf_n15
noncomputable def EndOf_n18 : Code := cL EndOf_n17
noncomputable def EndOf_n19 : Code := cR EndOf_n17
noncomputable def EndOf_n20 : Code := cL EndOf_n19
noncomputable def EndOf_n21 : Code := cL EndOf_n20
noncomputable def EndOf_n22 : Code := cL EndOf_n21
noncomputable def EndOf_n23 : Code := cR EndOf_n21
noncomputable def EndOf_n24 : Code := cL EndOf_n22
noncomputable def EndOf_n25 : Code := cR EndOf_n22
noncomputable def EndOf_n26 : Code := cL EndOf_n25
noncomputable def EndOf_n27 : Code := cR EndOf_n25
noncomputable def EndOf_n28 : Code := cL EndOf_n23
noncomputable def EndOf_n29 : Code := cR EndOf_n23
noncomputable def EndOf_n30 : Code := cL EndOf_n28
noncomputable def EndOf_n31 : Code := cL EndOf_n30
noncomputable def EndOf_n32 : Code := cR EndOf_n30
noncomputable def EndOf_n33 : Code := cL EndOf_n32
noncomputable def EndOf_n34 : Code := cR EndOf_n32
noncomputable def EndOf_n35 : Code := cL EndOf_n34
noncomputable def EndOf_n36 : Code := cR EndOf_n34
noncomputable def EndOf_n37 : Code := cL EndOf_n35
noncomputable def EndOf_n38 : Code := cR EndOf_n35
noncomputable def EndOf_n39 : Code := cL EndOf_n4
noncomputable def EndOf_n40 : Code := cR EndOf_n4
set_option maxHeartbeats 1000000 in
set_option maxRecDepth 10000 in
theorem EndOf_q {w : World} {M : Hp} {X : Fr} (d : Dg) {dcrsA : Option Addr} {dcrsc : Nat} (a : Int) (back : Bool) (hdcrs : RdA cdCr (M.un X.h) dcrsA dcrsc d.crs) (S : SH w M X []) : Cq Tryd.prog 49 [.agg [.slice dcrsA d.crs.length dcrsc, .int .i64 d.loops].toArray, .int .i64 a, .bool back] w M X (fun u => u = .agg (plF (endOf d a back)).toArray) := by
 unfold Cq
 have rmhdcrs : d.crs.length * 40 ≤ 140737488355328 := hdcrs.room
 refine calls_in (b := EndOf_n0) Tryd.func49 rfl Tryd.ntmps49 rfl (fun C hC => ?_)
 refine ws_sub [(0, _), (1, _), (2, _)] ⟨rfl, rfl, rfl, trivial⟩ ?_
 refine ws_seqN EndOf_n1 EndOf_n2 rfl rfl rfl ?_
 refine ws_region rfl ?_
 refine wlo 0 1 rfl rfl rfl (wo_box (l := [_, _]) rfl rfl rfl rfl rfl S ?_)
 intro gb1 w1 S1; clear S
 refine wlo 1 2 rfl rfl rfl (wo_alloc (l := [_, _]) rfl rfl rfl zr88 rfl S1 ?_)
 intro gb2 w2 S2; clear S1
 refine wl_end rfl ?_
 refine nm_sub [(1, _), (2, _), (3, _), (6, _)] ⟨rfl, rfl, rfl, rfl, trivial⟩ ?_
 refine nm_thn ?_
 refine ws_seqN EndOf_n3 EndOf_n4 rfl rfl rfl ?_
 refine ws_seqN EndOf_n5 EndOf_n6 rfl rfl rfl ?_
 refine ws_region rfl ?_
 refine wla 0 1 rfl rfl rfl rfl rfl rfl rfl ?_
 refine wl_end rfl ?_
 refine nm_thn ?_
 refine ws_blockN EndOf_n7 0 rfl rfl rfl ?_
 refine ws_loopE (fun mx_ ax_ wx_ => ∃ (i : Nat), mx_ = d.crs.length - i ∧ Env 38 [(1, .int .i64 a), (2, .bool back), (3, .pointer (some ⟨gb1, 0, none⟩)), (6, .pointer (some ⟨gb2, 0, none⟩)), (7, .int .i64 (i : Int))] ax_ ∧ SH wx_ M X [Rs.box gb2 88 [.int .i64 0, .int .i64 0], Rs.box gb1 24 [.slice dcrsA d.crs.length dcrsc, .int .i64 d.loops]] ∧ i ≤ d.crs.length ∧ (∀ j, j < 4 * i → endP d a back j = false)) rfl ?_ ?_
 ·intro ax_ hax_
  refine ⟨_, ⟨0, rfl, hax_.sub ⟨rfl, rfl, rfl, rfl, rfl, trivial⟩, S2.pick [0, 1] [_, _] (by decide) ⟨rfl, rfl, trivial⟩, ?hq1f0, ?hq1f1⟩⟩
  case hq1f0 => omega
  case hq1f1 => (intro j hj; omega)
 ·rintro m1 a1 w3 ⟨i, rfl, he1, S3, hi, hno⟩
  clear S2
  refine ws_in he1 (c := EndOf_n8) rfl ?_
  clear he1 a1
  refine ws_seqN EndOf_n9 EndOf_n10 rfl rfl rfl ?_
  refine ws_seqN EndOf_n11 EndOf_n12 rfl rfl rfl ?_
  refine ws_region rfl ?_
  refine wlm 0 1 rfl rfl rfl rfl rfl rfl rfl ?_
  refine wlo 1 2 rfl rfl rfl (wo_run rfl rfl (run_fieldAddr rfl rfl Tryd.underlying24 rfl (ce22) (nf22)) ?_)
  refine wlo 2 3 rfl rfl rfl (wo_run rfl rfl (run_load1 rfl rfl Tryd.underlying22 rfl (S3.boxc (i := 1) rfl rfl)) ?_)
  refine wlo 3 4 rfl rfl rfl (wo_run rfl rfl (run_len rfl rfl rfl rfl rfl rfl Tryd.underlying22) ?_)
  refine wlo 4 5 rfl rfl rfl (wo_run rfl rfl (run_lss rfl rfl rfl) ?_)
  refine wl_end rfl ?_
  refine nm_sub [(1, _), (2, _), (3, _), (6, _), (7, _), (14, _)] ⟨rfl, rfl, rfl, rfl, rfl, rfl, trivial⟩ ?_
  refine nm_thn ?_
  refine ws_condN EndOf_n13 EndOf_n14 rfl rfl rfl rfl (fun hb14 => ?_) (fun hb14 => ?_)
  ·replace hb14 := of_decide_eq_true hb14
   refine ws_skip rfl ?_
   refine nm_sub [(1, _), (2, _), (3, _), (6, _), (7, _)] ⟨rfl, rfl, rfl, rfl, rfl, trivial⟩ ?_
   refine nm_thn ?_
   refine ws_seqN EndOf_n15 EndOf_n16 rfl rfl rfl ?_
   refine ws_blockN EndOf_n17 1 rfl rfl rfl ?_
   refine ws_seqN EndOf_n18 EndOf_n19 rfl rfl rfl ?_
   refine ws_region rfl ?_
   refine wla 0 1 rfl rfl rfl rfl rfl rfl rfl ?_
   refine wl_end rfl ?_
   refine nm_thn ?_
   refine ws_blockN EndOf_n20 2 rfl rfl rfl ?_
   refine ws_loopE (fun mx_ ax_ wx_ => ∃ (k : Nat), mx_ = 4 - k ∧ Env 38 [(1, .int .i64 a), (2, .bool back), (3, .pointer (some ⟨gb1, 0, none⟩)), (6, .pointer (some ⟨gb2, 0, none⟩)), (7, .int .i64 (i : Int)), (8, .int .i64 (k : Int))] ax_ ∧ SH wx_ M X [Rs.box gb2 88 [.int .i64 0, .int .i64 0], Rs.box gb1 24 [.slice dcrsA d.crs.length dcrsc, .int .i64 d.loops]] ∧ k ≤ 4 ∧ (∀ j, j < 4 * i + k → endP d a back j = false)) rfl ?_ ?_
   ·intro ax_ hax_
    refine ⟨_, ⟨0, rfl, hax_.sub ⟨rfl, rfl, rfl, rfl, rfl, rfl, trivial⟩, S3.pick [0, 1] [_, _] (by decide) ⟨rfl, rfl, trivial⟩, ?hq2f0, ?hq2f1⟩⟩
    case hq2f0 => omega
    case hq2f1 => (intro j hj; exact hno j (by omega))
   ·rintro m2 a2 w4 ⟨k, rfl, he2, S4, hk, hno2⟩
    clear S3
    refine ws_in he2 (c := EndOf_n21) rfl ?_
    clear he2 a2
    refine ws_seqN EndOf_n22 EndOf_n23 rfl rfl rfl ?_
    refine ws_seqN EndOf_n24 EndOf_n25 rfl rfl rfl ?_
    refine ws_region rfl ?_
    refine wlm 0 1 rfl rfl rfl rfl rfl rfl rfl ?_
    refine wlo 1 2 rfl rfl rfl (wo_run rfl rfl (run_lss rfl rfl rfl) ?_)
    refine wl_end rfl ?_
    refine nm_sub [(1, _), (2, _), (3, _), (6, _), (7, _), (8, _), (18, _)] ⟨rfl, rfl, rfl, rfl, rfl, rfl, rfl, trivial⟩ ?_
    refine nm_thn ?_
    refine ws_condN EndOf_n26 EndOf_n27 rfl rfl rfl rfl (fun hb18 => ?_) (fun hb18 => ?_)
    ·replace hb18 := of_decide_eq_true hb18
     refine ws_skip rfl ?_
     refine nm_sub [(1, _), (2, _), (3, _), (6, _), (7, _), (8, _)] ⟨rfl, rfl, rfl, rfl, rfl, rfl, trivial⟩ ?_
     refine nm_thn ?_
     refine ws_seqN EndOf_n28 EndOf_n29 rfl rfl rfl ?_
     refine ws_blockN EndOf_n30 3 rfl rfl rfl ?_
     refine ws_seqN EndOf_n31 EndOf_n32 rfl rfl rfl ?_
     refine ws_region rfl ?_
     refine wlm 0 1 rfl rfl rfl rfl rfl rfl rfl ?_
     refine wlm 1 2 rfl rfl rfl rfl rfl rfl rfl ?_
     refine wlo 2 3 rfl rfl rfl (wo_run rfl rfl (run_build (l := [_, _]) rfl rfl st88 rfl rfl) ?_)
     refine wlo 3 4 rfl rfl rfl (wo_alloc (l := [_, _]) rfl rfl rfl zr88 rfl S4 ?_)
     intro gb3 w5 S5; clear S4
     refine wlo 4 5 rfl rfl rfl (wo_storeB (i := 0) (us := [_, _]) (l' := [_, _]) (H' := [_, _, _]) rfl rfl S5 rfl rfl rfl rfl sz88 rfl rfl rfl rfl ?_)
     intro w6 S6; clear S5
     refine wl_end rfl ?_
     refine nm_sub [(1, _), (2, _), (3, _), (6, _), (7, _), (8, _), (9, _)] ⟨rfl, rfl, rfl, rfl, rfl, rfl, rfl, trivial⟩ ?_
     refine nm_thn ?_
     refine ws_seqN EndOf_n33 EndOf_n34 rfl rfl rfl ?_
     refine ws_region rfl ?_
     refine wlo 0 1 rfl rfl rfl (wo_run rfl rfl (run_loadN (us := [_, _]) rfl rfl Tryd.underlying24 rfl sz24 (S6.boxcs (i := 2) rfl ⟨rfl, rfl, trivial⟩)) ?_)
     refine wlo 1 2 rfl rfl rfl (wo_run rfl rfl (run_loadN (us := [_, _]) rfl rfl Tryd.underlying88 rfl sz88 (S6.boxcs (i := 0) rfl ⟨rfl, rfl, trivial⟩)) ?_)
     refine wlo 2 3 rfl rfl rfl (wo_cq rfl rfl rfl rfl rfl rfl rfl cf45 S6 (ArcAt_q d i k (hdcrs.mono S6.un_XH) (by omega) (by omega) S6.lend) ?_)
     rintro _ w7 S7 rfl; clear S6
     refine wlm 3 4 rfl rfl rfl rfl rfl rfl rfl ?_
     refine wlo 4 5 rfl rfl rfl (wo_run rfl rfl (run_eql rfl rfl rfl) ?_)
     refine wlm 5 6 rfl rfl rfl rfl rfl rfl rfl ?_
     refine wl_split (t := 29) rfl (fun hg29 => ?_) (fun hg29 => ?_)
     ·replace hg29 := of_decide_eq_true hg29
      refine wl_opG (k := 6) (k' := 7) rfl rfl ⟨_, _, _, rfl, rfl, rfl, rfl⟩ rfl (wo_run rfl rfl (run_loadN (us := [_, _]) rfl rfl Tryd.underlying24 rfl sz24 (S7.boxcs (i := 2) rfl ⟨rfl, rfl, trivial⟩)) ?_)
      refine wl_opG (k := 7) (k' := 8) rfl rfl ⟨_, _, _, rfl, rfl, rfl, rfl⟩ rfl (wo_run rfl rfl (run_loadN (us := [_, _]) rfl rfl Tryd.underlying88 rfl sz88 (S7.boxcs (i := 0) rfl ⟨rfl, rfl, trivial⟩)) ?_)
      refine wl_opG (k := 8) (k' := 9) rfl rfl ⟨_, _, _, rfl, rfl, rfl, rfl⟩ rfl (wo_cq rfl rfl rfl rfl rfl rfl rfl cf46 S7 (Entry_q d i k (hdcrs.mono S7.un_XH) (by omega) (by omega) S7.lend) ?_)
      rintro _ w8 S8 rfl; clear S7
      refine wl_opG (k := 9) (k' := 10) rfl rfl ⟨_, _, _, rfl, rfl, rfl, rfl⟩ rfl (wo_run rfl rfl (run_move rfl rfl) ?_)
      refine wl_opG (k := 10) (k' := 11) rfl rfl ⟨_, _, _, rfl, rfl, rfl, rfl⟩ rfl (wo_run rfl rfl (run_bne rfl rfl rfl Tryd.underlying4) ?_)
      refine wlo 11 12 rfl rfl rfl (wo_run rfl rfl (run_pickT rfl rfl rfl) ?_)
      refine wl_end rfl ?_
      refine nm_sub [(1, _), (2, _), (3, _), (6, _), (7, _), (8, _), (9, _), (35, _)] ⟨rfl, rfl, rfl, rfl, rfl, rfl, rfl, rfl, trivial⟩ ?_
      refine nm_thn ?_
      refine ws_condN EndOf_n35 EndOf_n36 rfl rfl rfl rfl (fun hb35 => ?_) (fun hb35 => ?_)
      ·refine ws_seqN EndOf_n37 EndOf_n38 rfl rfl rfl ?_
       refine ws_region rfl ?_
       refine wlo 0 1 rfl rfl rfl (wo_run rfl rfl (run_loadN (us := [_, _]) rfl rfl Tryd.underlying88 rfl sz88 (S8.boxcs (i := 0) rfl ⟨rfl, rfl, trivial⟩)) ?_)
       refine wlo 1 2 rfl rfl rfl (wo_storeB (i := 1) (us := [_, _]) (l' := [_, _]) (H' := [_, _, _]) rfl rfl S8 rfl rfl rfl rfl sz88 rfl rfl rfl rfl ?_)
       intro w9 S9; clear S8
       refine wl_end rfl ?_
       refine nm_sub [(6, _)] ⟨rfl, trivial⟩ ?_
       refine nm_thn ?_
       refine ws_ret hC [_] rfl rfl ⟨⟨_, rfl, loadVarN (us := [_, _]) Tryd.underlying88 rfl sz88 (S9.boxcs (i := 1) rfl ⟨rfl, rfl, trivial⟩)⟩, trivial⟩ ?_
       exact ⟨_, rfl, (S9.pick [] [] (by decide) trivial), (by first | (rw [endOf_miss (fun j hj => hno j (by omega))]; rfl) | (rw [endOf_hit (j := 4 * i + k) (by omega) (by rw [endP_at (by omega), decide_eq_true (by omega)]; simpa using hb35) hno2, show (4 * i + k) / 4 = i by omega, show (4 * i + k) % 4 = k by omega]; rfl))⟩
      ·refine ws_skip rfl ?_
       refine nm_blk ?_
       refine nm_sub [(1, _), (2, _), (3, _), (6, _), (7, _), (8, _)] ⟨rfl, rfl, rfl, rfl, rfl, rfl, trivial⟩ ?_
       refine nm_thn ?_
       refine ws_region rfl ?_
       refine wlm 0 1 rfl rfl rfl rfl rfl rfl rfl ?_
       refine wlo 1 2 rfl rfl rfl (wo_run rfl rfl (run_add rfl rfl rfl (by first | omega | (simp only [lens]; omega))) ?_)
       refine wla 2 3 rfl rfl rfl rfl rfl rfl rfl ?_
       refine wl_end rfl ?_
       refine nm_lp ?_
       intro ax_ hax_
       refine ⟨_, ?hq3m, ⟨k + 1, rfl, hax_.sub ⟨rfl, rfl, rfl, rfl, rfl, rfl, trivial⟩, S8.pick [1, 2] [_, _] (by decide) ⟨rfl, rfl, trivial⟩, ?hq3f0, ?hq3f1⟩⟩
       case hq3f0 => omega
       case hq3f1 => (intro j hj; by_cases h : j = 4 * i + k; (subst h; rw [endP_at (by omega)]; first | (rw [decide_eq_false (by omega)]; rfl) | (rw [Bool.and_eq_false_iff]; right; simpa using hb35)); exact hno2 j (by omega))
       case hq3m => omega
     ·replace hg29 := of_decide_eq_false hg29
      refine wl_no (k := 6) (k' := 7) (d := 30) rfl rfl ⟨_, _, _, rfl, rfl, rfl, rfl⟩ rfl rfl ?_
      refine wl_no (k := 7) (k' := 8) (d := 31) rfl rfl ⟨_, _, _, rfl, rfl, rfl, rfl⟩ rfl rfl ?_
      refine wl_no (k := 8) (k' := 9) (d := 32) rfl rfl ⟨_, _, _, rfl, rfl, rfl, rfl⟩ rfl rfl ?_
      refine wl_no (k := 9) (k' := 10) (d := 33) rfl rfl ⟨_, _, _, rfl, rfl, rfl, rfl⟩ rfl rfl ?_
      refine wl_no (k := 10) (k' := 11) (d := 34) rfl rfl ⟨_, _, _, rfl, rfl, rfl, rfl⟩ rfl rfl ?_
      refine wlo 11 12 rfl rfl rfl (wo_run rfl rfl (run_pickF rfl rfl rfl) ?_)
      refine wl_end rfl ?_
      refine nm_sub [(1, _), (2, _), (3, _), (6, _), (7, _), (8, _), (9, _), (35, _)] ⟨rfl, rfl, rfl, rfl, rfl, rfl, rfl, rfl, trivial⟩ ?_
      refine nm_thn ?_
      refine ws_condFN EndOf_n36 rfl rfl rfl ?_
      refine ws_skip rfl ?_
      refine nm_blk ?_
      refine nm_sub [(1, _), (2, _), (3, _), (6, _), (7, _), (8, _)] ⟨rfl, rfl, rfl, rfl, rfl, rfl, trivial⟩ ?_
      refine nm_thn ?_
      refine ws_region rfl ?_
      refine wlm 0 1 rfl rfl rfl rfl rfl rfl rfl ?_
      refine wlo 1 2 rfl rfl rfl (wo_run rfl rfl (run_add rfl rfl rfl (by first | omega | (simp only [lens]; omega))) ?_)
      refine wla 2 3 rfl rfl rfl rfl rfl rfl rfl ?_
      refine wl_end rfl ?_
      refine nm_lp ?_
      intro ax_ hax_
      refine ⟨_, ?hq4m, ⟨k + 1, rfl, hax_.sub ⟨rfl, rfl, rfl, rfl, rfl, rfl, trivial⟩, S7.pick [1, 2] [_, _] (by decide) ⟨rfl, rfl, trivial⟩, ?hq4f0, ?hq4f1⟩⟩
      case hq4f0 => omega
      case hq4f1 => (intro j hj; by_cases h : j = 4 * i + k; (subst h; rw [endP_at (by omega)]; first | (rw [decide_eq_false (by omega)]; rfl) | (rw [Bool.and_eq_false_iff]; right; simpa using hb35)); exact hno2 j (by omega))
      case hq4m => omega
    ·replace hb18 := of_decide_eq_false hb18
     refine ws_exit rfl rfl ?_
     refine nm_blk ?_
     refine nm_sub [(1, _), (2, _), (3, _), (6, _), (7, _)] ⟨rfl, rfl, rfl, rfl, rfl, trivial⟩ ?_
     refine nm_thn ?_
     refine ws_region rfl ?_
     refine wlm 0 1 rfl rfl rfl rfl rfl rfl rfl ?_
     refine wlo 1 2 rfl rfl rfl (wo_run rfl rfl (run_add rfl rfl rfl (by first | omega | (simp only [lens]; omega))) ?_)
     refine wla 2 3 rfl rfl rfl rfl rfl rfl rfl ?_
     refine wl_end rfl ?_
     refine nm_lp ?_
     intro ax_ hax_
     refine ⟨_, ?hq5m, ⟨i + 1, rfl, hax_.sub ⟨rfl, rfl, rfl, rfl, rfl, trivial⟩, S4.pick [0, 1] [_, _] (by decide) ⟨rfl, rfl, trivial⟩, ?hq5f0, ?hq5f1⟩⟩
     case hq5f0 => omega
     case hq5f1 => (intro j hj; exact hno2 j (by omega))
     case hq5m => omega
  ·replace hb14 := of_decide_eq_false hb14
   refine ws_exit rfl rfl ?_
   refine nm_sub [(6, _)] ⟨rfl, trivial⟩ ?_
   refine nm_thn ?_
   refine ws_seqN EndOf_n39 EndOf_n40 rfl rfl rfl ?_
   refine ws_region rfl ?_
   refine wlo 0 1 rfl rfl rfl (wo_run rfl rfl (run_build (l := [_, _]) rfl rfl st88 rfl rfl) ?_)
   refine wlo 1 2 rfl rfl rfl (wo_storeB (i := 0) (us := [_, _]) (l' := [_, _]) (H' := [_, _]) rfl rfl S3 rfl rfl rfl rfl sz88 rfl rfl rfl rfl ?_)
   intro w10 S10; clear S3
   refine wl_end rfl ?_
   refine nm_sub [(6, _)] ⟨rfl, trivial⟩ ?_
   refine nm_thn ?_
   refine ws_ret hC [_] rfl rfl ⟨⟨_, rfl, loadVarN (us := [_, _]) Tryd.underlying88 rfl sz88 (S10.boxcs (i := 0) rfl ⟨rfl, rfl, trivial⟩)⟩, trivial⟩ ?_
   exact ⟨_, rfl, (S10.pick [] [] (by decide) trivial), (by first | (rw [endOf_miss (fun j hj => hno j (by omega))]; rfl) | (rw [endOf_hit (j := 4 * i + k) (by omega) (by rw [endP_at (by omega), decide_eq_true (by omega)]; simpa using hb35) hno2, show (4 * i + k) / 4 = i by omega, show (4 * i + k) % 4 = k by omega]; rfl))⟩
noncomputable def NextDart_n0 : Code := Tryd.f59.body.getD .skip
noncomputable def NextDart_n1 : Code := cL NextDart_n0
noncomputable def NextDart_n2 : Code := cR NextDart_n0
noncomputable def NextDart_n3 : Code := cL NextDart_n2
noncomputable def NextDart_n4 : Code := cR NextDart_n2
noncomputable def NextDart_n5 : Code := cL NextDart_n4
noncomputable def NextDart_n6 : Code := cR NextDart_n4
noncomputable def NextDart_n7 : Code := cL NextDart_n6
noncomputable def NextDart_n8 : Code := cR NextDart_n6
set_option maxRecDepth 10000 in
theorem NextDart_q {w : World} {M : Hp} {X : Fr} (d : Dg) {dcrsA : Option Addr} {dcrsc : Nat} (x : Da) (hdcrs : RdA cdCr (M.un X.h) dcrsA dcrsc d.crs) (hab : arcsB d = true) (hx : okD d x) (S : SH w M X []) : Cq Tryd.prog 59 [.agg [.slice dcrsA d.crs.length dcrsc, .int .i64 d.loops].toArray, .agg [.int .i64 x.a, .bool x.b].toArray] w M X (fun u => u = .agg (daF (leftD d x)).toArray) := by
 unfold Cq
 have rmhdcrs : d.crs.length * 40 ≤ 140737488355328 := hdcrs.room
 obtain ⟨hE1, hE2, hE3, hE4, hE5⟩ := endD hab hx x.b
 have hlt4 : ((endOf d x.a x.b).2 + 3) % 4 < 4 := Nat.mod_lt _ (by decide)
 refine calls_in (b := NextDart_n0) Tryd.func59 rfl Tryd.ntmps59 rfl (fun C hC => ?_)
 refine ws_sub [(0, _), (1, _)] ⟨rfl, rfl, trivial⟩ ?_
 refine ws_seqN NextDart_n1 NextDart_n2 rfl rfl rfl ?_
 refine ws_region rfl ?_
 refine wlo 0 1 rfl rfl rfl (wo_box (l := [_, _]) rfl rfl rfl rfl rfl S ?_)
 intro gb1 w1 S1; clear S
 refine wlo 1 2 rfl rfl rfl (wo_box (l := [_, _]) rfl rfl rfl rfl rfl S1 ?_)
 intro gb2 w2 S2; clear S1
 refine wlo 2 3 rfl rfl rfl (wo_alloc (l := [_, _]) rfl rfl rfl zr96 rfl S2 ?_)
 intro gb3 w3 S3; clear S2
 refine wl_end rfl ?_
 refine nm_sub [(2, _), (3, _), (4, _)] ⟨rfl, rfl, rfl, trivial⟩ ?_
 refine nm_thn ?_
 refine ws_seqN NextDart_n3 NextDart_n4 rfl rfl rfl ?_
 refine ws_region rfl ?_
 refine wlo 0 1 rfl rfl rfl (wo_run rfl rfl (run_loadN (us := [_, _]) rfl rfl Tryd.underlying24 rfl sz24 (S3.boxcs (i := 2) rfl ⟨rfl, rfl, trivial⟩)) ?_)
 refine wlo 1 2 rfl rfl rfl (wo_run rfl rfl (run_fieldAddr rfl rfl Tryd.underlying96 rfl (ce3) (nf3)) ?_)
 refine wlo 2 3 rfl rfl rfl (wo_run rfl rfl (run_load1 rfl rfl Tryd.underlying3 rfl (S3.boxc (i := 1) rfl rfl)) ?_)
 refine wlo 3 4 rfl rfl rfl (wo_run rfl rfl (run_fieldAddr rfl rfl Tryd.underlying96 rfl (ce4) (nf4)) ?_)
 refine wlo 4 5 rfl rfl rfl (wo_run rfl rfl (run_load1 rfl rfl Tryd.underlying4 rfl (S3.boxc (i := 1) rfl rfl)) ?_)
 refine wlo 5 6 rfl rfl rfl (wo_cq rfl rfl rfl rfl rfl rfl rfl cf49 S3 (EndOf_q d x.a x.b (hdcrs.mono S3.un_XH) S3.lend) ?_)
 rintro _ w4 S4 rfl; clear S3
 refine wlo 6 7 rfl rfl rfl (wo_alloc (l := [_, _]) rfl rfl rfl zr88 rfl S4 ?_)
 intro gb4 w5 S5; clear S4
 refine wlo 7 8 rfl rfl rfl (wo_storeB (i := 0) (us := [_, _]) (l' := [_, _]) (H' := [_, _, _, _]) rfl rfl S5 rfl rfl rfl rfl sz88 rfl rfl rfl rfl ?_)
 intro w6 S6; clear S5
 refine wl_end rfl ?_
 refine nm_sub [(2, _), (4, _), (5, _)] ⟨rfl, rfl, rfl, trivial⟩ ?_
 refine nm_thn ?_
 refine ws_seqN NextDart_n5 NextDart_n6 rfl rfl rfl ?_
 refine ws_region rfl ?_
 refine wlo 0 1 rfl rfl rfl (wo_run rfl rfl (run_fieldAddr rfl rfl Tryd.underlying88 rfl (ce3) (nf3)) ?_)
 refine wlo 1 2 rfl rfl rfl (wo_run rfl rfl (run_load1 rfl rfl Tryd.underlying3 rfl (S6.boxc (i := 0) rfl rfl)) ?_)
 refine wlo 2 3 rfl rfl rfl (wo_run rfl rfl (run_fieldAddr rfl rfl Tryd.underlying88 rfl (ce3) (nf3)) ?_)
 refine wlo 3 4 rfl rfl rfl (wo_run rfl rfl (run_load1 rfl rfl Tryd.underlying3 rfl (S6.boxc (i := 0) rfl rfl)) ?_)
 refine wlo 4 5 rfl rfl rfl (wo_run rfl rfl (run_add rfl rfl rfl (by first | omega | (simp only [lens]; omega))) ?_)
 refine wlo 5 6 rfl rfl rfl (wo_run rfl rfl (run_rem rfl rfl rfl (by first | omega | (simp only [lens]; omega))) ?_)
 refine wl_eq 18 (.int .i64 ((((endOf d x.a x.b).2 + 3) % 4 : Nat) : Int)) rfl (int_eq (by omega)) ?_
 refine wlo 6 7 rfl rfl rfl (wo_run rfl rfl (run_build (l := [_, _]) rfl rfl st88 rfl rfl) ?_)
 refine wlo 7 8 rfl rfl rfl (wo_alloc (l := [_, _]) rfl rfl rfl zr88 rfl S6 ?_)
 intro gb5 w7 S7; clear S6
 refine wlo 8 9 rfl rfl rfl (wo_storeB (i := 0) (us := [_, _]) (l' := [_, _]) (H' := [_, _, _, _, _]) rfl rfl S7 rfl rfl rfl rfl sz88 rfl rfl rfl rfl ?_)
 intro w8 S8; clear S7
 refine wl_end rfl ?_
 refine nm_sub [(2, _), (4, _), (6, _)] ⟨rfl, rfl, rfl, trivial⟩ ?_
 refine nm_thn ?_
 refine ws_seqN NextDart_n7 NextDart_n8 rfl rfl rfl ?_
 refine ws_draw rfl (by kernel_rfl) S8 8 rfl ?_
 clear S8
 refine wa_take (i := 0) (d := 20) 7 rfl (by kernel_rfl) (by kernel_rfl) (by kernel_rfl) rfl rfl rfl (fun M1 N1 w9 hle1 S9 => .inl (run_loadN (us := [_, _]) rfl rfl Tryd.underlying24 rfl sz24 (S9.suf.boxcs (i := 4) rfl ⟨rfl, rfl, trivial⟩))) ?_
 refine wa_take (i := 1) (d := 21) 6 rfl (by kernel_rfl) (by kernel_rfl) (by kernel_rfl) rfl rfl rfl (fun M2 N2 w10 hle2 S10 => .inl (run_loadN (us := [_, _]) rfl rfl Tryd.underlying88 rfl sz88 (S10.suf.boxcs (i := 0) rfl ⟨rfl, rfl, trivial⟩))) ?_
 refine wa_take (i := 2) (d := 22) 5 rfl (by kernel_rfl) (by kernel_rfl) (by kernel_rfl) rfl rfl rfl (fun M3 N3 w11 hle3 S11 => yield_cq rfl rfl rfl rfl rfl cf45 S11 (ArcAt_q d ((endOf d x.a x.b).1) (((endOf d x.a x.b).2 + 3) % 4) ((hdcrs.mono (Hp.un_mono hle3 S11.mx)).mono S11.un_XH) (by omega) (by omega) S11.lend)) ?_
 refine wa_take (i := 3) (d := 23) 4 rfl (by kernel_rfl) (by kernel_rfl) (by kernel_rfl) rfl rfl rfl (fun M4 N4 w12 hle4 S12 => .inl (run_loadN (us := [_, _]) rfl rfl Tryd.underlying24 rfl sz24 (S12.suf.boxcs (i := 4) rfl ⟨rfl, rfl, trivial⟩))) ?_
 refine wa_take (i := 4) (d := 24) 3 rfl (by kernel_rfl) (by kernel_rfl) (by kernel_rfl) rfl rfl rfl (fun M5 N5 w13 hle5 S13 => .inl (run_loadN (us := [_, _]) rfl rfl Tryd.underlying88 rfl sz88 (S13.suf.boxcs (i := 0) rfl ⟨rfl, rfl, trivial⟩))) ?_
 refine wa_take (i := 5) (d := 25) 2 rfl (by kernel_rfl) (by kernel_rfl) (by kernel_rfl) rfl rfl rfl (fun M6 N6 w14 hle6 S14 => yield_cq rfl rfl rfl rfl rfl cf46 S14 (Entry_q d ((endOf d x.a x.b).1) (((endOf d x.a x.b).2 + 3) % 4) ((hdcrs.mono (Hp.un_mono hle6 S14.mx)).mono S14.un_XH) (by omega) (by omega) S14.lend)) ?_
 refine wa_take (i := 6) (d := 26) 1 rfl (by kernel_rfl) (by kernel_rfl) (by kernel_rfl) rfl rfl rfl (fun M7 N7 w15 hle7 S15 => .inl (run_build (l := [_, _]) rfl rfl st96 rfl rfl)) ?_
 refine wa_only (i := 7) 0 rfl (by kernel_rfl) rfl rfl (fun w17 S17 => ?_)
 refine (wo_storeB (i := 2) (us := [_, _]) (l' := [_, _]) (H' := [_, _, _, _, _]) rfl rfl S17 rfl rfl rfl rfl sz96 rfl rfl rfl rfl ?_)
 intro w18 S18; clear S17
 refine LeftW.turn (by kernel_rfl) S18 ?_; clear S18
 change WA _ _ _ _ _ _ _ _ _ _ _ _ [_, _, _, _, _]
 refine wa_end (by kernel_rfl) (fun w19 S19 => ?_)
 refine nm_sub [(4, _)] ⟨rfl, trivial⟩ ?_
 refine nm_thn ?_
 refine ws_ret hC [_] rfl rfl ⟨⟨_, rfl, loadVarN (us := [_, _]) Tryd.underlying96 rfl sz96 (S19.boxcs (i := 2) rfl ⟨rfl, rfl, trivial⟩)⟩, trivial⟩ ?_
 exact ⟨_, rfl, (S19.pick [] [] (by decide) trivial), rfl⟩
noncomputable def dartCode_n0 : Code := Tryd.f58.body.getD .skip
noncomputable def dartCode_n1 : Code := cL dartCode_n0
noncomputable def dartCode_n2 : Code := cR dartCode_n0
noncomputable def dartCode_n3 : Code := cL dartCode_n2
noncomputable def dartCode_n4 : Code := cR dartCode_n2
noncomputable def dartCode_n5 : Code := cL dartCode_n3
noncomputable def dartCode_n6 : Code := cR dartCode_n3
noncomputable def dartCode_n7 : Code := cL dartCode_n6
noncomputable def dartCode_n8 : Code := cR dartCode_n6
noncomputable def dartCode_n9 : Code := cL dartCode_n7
noncomputable def dartCode_n10 : Code := cR dartCode_n7
noncomputable def dartCode_n11 : Code := cL dartCode_n4
noncomputable def dartCode_n12 : Code := cR dartCode_n4
set_option maxRecDepth 10000 in
theorem dartCode_q {w : World} {M : Hp} {X : Fr} (x : Da) (hx : 1 ≤ x.a ∧ x.a ≤ 1000) (S : SH w M X []) : Cq Tryd.prog 58 [.agg [.int .i64 x.a, .bool x.b].toArray] w M X (fun u => u = .int .i64 (dcN x : Int)) := by
 unfold Cq
 refine calls_in (b := dartCode_n0) Tryd.func58 rfl Tryd.ntmps58 rfl (fun C hC => ?_)
 refine ws_sub [(0, _)] ⟨rfl, trivial⟩ ?_
 refine ws_seqN dartCode_n1 dartCode_n2 rfl rfl rfl ?_
 refine ws_region rfl ?_
 refine wlo 0 1 rfl rfl rfl (wo_box (l := [_, _]) rfl rfl rfl rfl rfl S ?_)
 intro gb1 w1 S1; clear S
 refine wla 1 2 rfl rfl rfl rfl rfl rfl rfl ?_
 refine wl_end rfl ?_
 refine nm_sub [(1, _)] ⟨rfl, trivial⟩ ?_
 refine nm_thn ?_
 refine ws_seqN dartCode_n3 dartCode_n4 rfl rfl rfl ?_
 refine ws_seqN dartCode_n5 dartCode_n6 rfl rfl rfl ?_
 refine ws_region rfl ?_
 refine wlo 0 1 rfl rfl rfl (wo_run rfl rfl (run_fieldAddr rfl rfl Tryd.underlying96 rfl (ce4) (nf4)) ?_)
 refine wlo 1 2 rfl rfl rfl (wo_run rfl rfl (run_load1 rfl rfl Tryd.underlying4 rfl (S1.boxc (i := 0) rfl rfl)) ?_)
 refine wl_end rfl ?_
 refine nm_sub [(1, _), (4, _)] ⟨rfl, rfl, trivial⟩ ?_
 refine nm_thn ?_
 refine ws_condN dartCode_n7 dartCode_n8 rfl rfl rfl rfl (fun hb4 => ?_) (fun hb4 => ?_)
 ·refine ws_seqN dartCode_n9 dartCode_n10 rfl rfl rfl ?_
  refine ws_region rfl ?_
  refine wlo 0 1 rfl rfl rfl (wo_run rfl rfl (run_fieldAddr rfl rfl Tryd.underlying96 rfl (ce3) (nf3)) ?_)
  refine wlo 1 2 rfl rfl rfl (wo_run rfl rfl (run_load1 rfl rfl Tryd.underlying3 rfl (S1.boxc (i := 0) rfl rfl)) ?_)
  refine wlo 2 3 rfl rfl rfl (wo_run rfl rfl (run_mul rfl rfl rfl (by first | omega | (simp only [lens]; omega))) ?_)
  refine wlo 3 4 rfl rfl rfl (wo_run rfl rfl (run_add rfl rfl rfl (by first | omega | (simp only [lens]; omega))) ?_)
  refine wla 4 5 rfl rfl rfl rfl rfl rfl rfl ?_
  refine wl_end rfl ?_
  refine nm_sub [(2, _)] ⟨rfl, trivial⟩ ?_
  refine nm_thn ?_
  refine ws_ret hC [_] rfl rfl ⟨rfl, trivial⟩ ?_
  exact ⟨_, rfl, (S1.pick [] [] (by decide) trivial), (by show Value.int _ _ = _; refine congrArg (Value.int .i64) ?_; unfold dcN; rw [hb4]; first | (rw [if_pos rfl]; omega) | (rw [if_neg Bool.false_ne_true]; omega))⟩
 ·refine ws_skip rfl ?_
  refine nm_sub [(1, _)] ⟨rfl, trivial⟩ ?_
  refine nm_thn ?_
  refine ws_seqN dartCode_n11 dartCode_n12 rfl rfl rfl ?_
  refine ws_region rfl ?_
  refine wlo 0 1 rfl rfl rfl (wo_run rfl rfl (run_fieldAddr rfl rfl Tryd.underlying96 rfl (ce3) (nf3)) ?_)
  refine wlo 1 2 rfl rfl rfl (wo_run rfl rfl (run_load1 rfl rfl Tryd.underlying3 rfl (S1.boxc (i := 0) rfl rfl)) ?_)
  refine wlo 2 3 rfl rfl rfl (wo_run rfl rfl (run_mul rfl rfl rfl (by first | omega | (simp only [lens]; omega))) ?_)
  refine wla 3 4 rfl rfl rfl rfl rfl rfl rfl ?_
  refine wl_end rfl ?_
  refine nm_sub [(2, _)] ⟨rfl, trivial⟩ ?_
  refine nm_thn ?_
  refine ws_ret hC [_] rfl rfl ⟨rfl, trivial⟩ ?_
  exact ⟨_, rfl, (S1.pick [] [] (by decide) trivial), (by show Value.int _ _ = _; refine congrArg (Value.int .i64) ?_; unfold dcN; rw [hb4]; first | (rw [if_pos rfl]; omega) | (rw [if_neg Bool.false_ne_true]; omega))⟩
noncomputable def FacesOf_n0 : Code := Tryd.f48.body.getD .skip
noncomputable def FacesOf_n1 : Code := cL FacesOf_n0
noncomputable def FacesOf_n2 : Code := cR FacesOf_n0
noncomputable def FacesOf_n3 : Code := cL FacesOf_n2
noncomputable def FacesOf_n4 : Code := cR FacesOf_n2
noncomputable def FacesOf_n5 : Code := cL FacesOf_n4
noncomputable def FacesOf_n6 : Code := cR FacesOf_n4
noncomputable def FacesOf_n7 : Code := cL FacesOf_n6
noncomputable def FacesOf_n8 : Code := cR FacesOf_n6
noncomputable def FacesOf_n9 : Code := cL FacesOf_n8
noncomputable def FacesOf_n10 : Code := cR FacesOf_n8
noncomputable def FacesOf_n11 : Code := cL FacesOf_n9
noncomputable def FacesOf_n12 : Code := cR FacesOf_n9
noncomputable def FacesOf_n13 : Code := cL FacesOf_n12
noncomputable def FacesOf_n14 : Code := cL FacesOf_n13
noncomputable def FacesOf_n15 : Code := cL FacesOf_n14
noncomputable def FacesOf_n16 : Code := cR FacesOf_n14
noncomputable def FacesOf_n17 : Code := cL FacesOf_n15
noncomputable def FacesOf_n18 : Code := cR FacesOf_n15
noncomputable def FacesOf_n19 : Code := cL FacesOf_n18
noncomputable def FacesOf_n20 : Code := cR FacesOf_n18
noncomputable def FacesOf_n21 : Code := cL FacesOf_n16
noncomputable def FacesOf_n22 : Code := cR FacesOf_n16
noncomputable def FacesOf_n23 : Code := cL FacesOf_n21
noncomputable def FacesOf_n24 : Code := cL FacesOf_n23
noncomputable def FacesOf_n25 : Code := cR FacesOf_n23
noncomputable def FacesOf_n26 : Code := cL FacesOf_n24
noncomputable def FacesOf_n27 : Code := cR FacesOf_n24
noncomputable def FacesOf_n28 : Code := cL FacesOf_n27
noncomputable def FacesOf_n29 : Code := cR FacesOf_n27
noncomputable def FacesOf_n30 : Code := cL FacesOf_n25
noncomputable def FacesOf_n31 : Code := cR FacesOf_n25
noncomputable def FacesOf_n32 : Code := cL FacesOf_n31
noncomputable def FacesOf_n33 : Code := cR FacesOf_n31
noncomputable def FacesOf_n34 : Code := cL FacesOf_n33
noncomputable def FacesOf_n35 : Code := cR FacesOf_n33
noncomputable def FacesOf_n36 : Code := cL FacesOf_n34
noncomputable def FacesOf_n37 : Code := cL FacesOf_n36
noncomputable def FacesOf_n38 : Code := cL FacesOf_n37
noncomputable def FacesOf_n39 : Code := cR FacesOf_n37
noncomputable def FacesOf_n40 : Code := cL FacesOf_n38
noncomputable def FacesOf_n41 : Code := cR FacesOf_n38
noncomputable def FacesOf_n42 : Code := cL FacesOf_n41
noncomputable def FacesOf_n43 : Code := cR FacesOf_n41
noncomputable def FacesOf_n44 : Code := cL FacesOf_n39
noncomputable def FacesOf_n45 : Code := cL FacesOf_n44
noncomputable def FacesOf_n46 : Code := cR FacesOf_n44
noncomputable def FacesOf_n47 : Code := cL FacesOf_n46
noncomputable def FacesOf_n48 : Code := cR FacesOf_n46
noncomputable def FacesOf_n49 : Code := cL FacesOf_n10
noncomputable def FacesOf_n50 : Code := cR FacesOf_n10
set_option maxHeartbeats 1000000 in
set_option maxRecDepth 10000 in
theorem FacesOf_t {w : World} {M : Hp} {X : Fr} (d : Dg) {dcrsA : Option Addr} {dcrsc : Nat} (hdcrs : RdA cdCr (M.un X.h) dcrsA dcrsc d.crs) (hn : d.crs.length ≤ 16) (hab : arcsB d = true) (S : SH w M X []) : Ct Tryd.prog 48 [.agg [.slice dcrsA d.crs.length dcrsc, .int .i64 d.loops].toArray] w M X (FacesR d) := by
 unfold Ct
 have rmhdcrs : d.crs.length * 40 ≤ 140737488355328 := hdcrs.room
 refine calls_in (b := FacesOf_n0) Tryd.func48 rfl Tryd.ntmps48 rfl (fun C hC => ?_)
 refine ws_sub [(0, _)] ⟨rfl, trivial⟩ ?_
 refine ws_seqN FacesOf_n1 FacesOf_n2 rfl rfl rfl ?_
 refine ws_region rfl ?_
 refine wlo 0 1 rfl rfl rfl (wo_box (l := [_, _]) rfl rfl rfl rfl rfl S ?_)
 intro gb1 w1 S1; clear S
 refine wla 1 2 rfl rfl rfl rfl rfl rfl rfl ?_
 refine wl_end rfl ?_
 refine nm_sub [(1, _)] ⟨rfl, trivial⟩ ?_
 refine nm_thn ?_
 refine ws_seqN FacesOf_n3 FacesOf_n4 rfl rfl rfl ?_
 refine ws_region rfl ?_
 refine wlo 0 1 rfl rfl rfl (wo_run rfl rfl (run_fieldAddr rfl rfl Tryd.underlying24 rfl (ce22) (nf22)) ?_)
 refine wlo 1 2 rfl rfl rfl (wo_run rfl rfl (run_load1 rfl rfl Tryd.underlying22 rfl (S1.boxc (i := 0) rfl rfl)) ?_)
 refine wlo 2 3 rfl rfl rfl (wo_run rfl rfl (run_len rfl rfl rfl rfl rfl rfl Tryd.underlying22) ?_)
 refine wlo 3 4 rfl rfl rfl (wo_run rfl rfl (run_mul rfl rfl rfl (by first | omega | (simp only [lens]; omega))) ?_)
 refine wlo 4 5 rfl rfl rfl (wo_run rfl rfl (run_add rfl rfl rfl (by first | omega | (simp only [lens]; omega))) ?_)
 refine wla 5 6 rfl rfl rfl rfl rfl rfl rfl ?_
 refine wl_end rfl ?_
 refine nm_sub [(1, _), (3, _)] ⟨rfl, rfl, trivial⟩ ?_
 refine nm_thn ?_
 refine ws_seqN FacesOf_n5 FacesOf_n6 rfl rfl rfl ?_
 refine ws_region rfl ?_
 refine wlm 0 1 rfl rfl rfl rfl rfl rfl rfl ?_
 refine wlo 1 2 rfl rfl rfl (wo_make (C := cdBool) ((4 * (d.crs.length : Int)).toNat + 2) rfl rfl rfl rfl rfl sl108 (by first | rfl | omega) (by show _ * 1 ≤ _; first | omega | (simp only [lens]; omega)) S1 ?_)
 intro vr1 w2 S2; clear S1
 refine wla 2 3 rfl rfl rfl rfl rfl rfl rfl ?_
 refine wl_end rfl ?_
 refine nm_sub [(1, _), (3, _), (4, _)] ⟨rfl, rfl, rfl, trivial⟩ ?_
 refine nm_thn ?_
 refine ws_seqN FacesOf_n7 FacesOf_n8 rfl rfl rfl ?_
 refine ws_region rfl ?_
 refine wla 0 1 rfl rfl rfl rfl rfl rfl rfl ?_
 refine wl_end rfl ?_
 refine nm_thn ?_
 refine ws_seqN FacesOf_n9 FacesOf_n10 rfl rfl rfl ?_
 refine ws_seqN FacesOf_n11 FacesOf_n12 rfl rfl rfl ?_
 refine ws_region rfl ?_
 refine wla 0 1 rfl rfl rfl rfl rfl rfl rfl ?_
 refine wl_end rfl ?_
 refine nm_thn ?_
 refine ws_blockN FacesOf_n13 0 rfl rfl rfl ?_
 have S3 := S2.nilrow (cdV 97); clear S2
 refine ws_loopE (fun mx_ ax_ wx_ => ∃ (k : Nat) (seen : List Bool) (outc : List (List Int)) (vs : List SlV) (vrs : Value) (vro : Value) (M1 : Hp), M.le M1 ∧ mx_ = 4 * d.crs.length - k ∧ Env 53 [(1, .pointer (some ⟨gb1, 0, none⟩)), (3, .int .i64 ((4 * (d.crs.length : Int)) + 2)), (4, vrs), (5, vro), (6, .int .i64 ((k + 2 : Nat) : Int))] ax_ ∧ SH wx_ M1 X [Rs.row (cdV 97) vro vs, Rs.row cdBool vrs seen, Rs.box gb1 24 [.slice dcrsA d.crs.length dcrsc, .int .i64 d.loops]] ∧ k ≤ 4 * d.crs.length ∧ facesN d k = (seen, outc) ∧ Rd2 cdDa M1 vs (outc.map dasL)) rfl ?_ ?_
 ·intro ax_ hax_
  refine ⟨_, ⟨0, _, [], _, _, _, _, Hp.le_refl _, rfl, hax_.sub ⟨rfl, rfl, rfl, rfl, rfl, trivial⟩, S3.pick [0, 1, 2] [_, _, _] (by decide) ⟨rfl, rfl, rfl, trivial⟩, ?hq1f0, ?hq1f1, ?hq1f2⟩⟩
  case hq1f0 => omega
  case hq1f1 => (unfold facesN; first | rfl | (congr 1))
  case hq1f2 => first | exact Rd2.nil_ | (rw [e9]; exact Rd2.nil_)
 ·rintro m1 a1 w3 ⟨k, seen, outc, vs, vrs, vro, M1, hle1, rfl, he1, S4, hk, hfn, hdo⟩
  clear S3
  refine ws_in he1 (c := FacesOf_n14) rfl ?_
  clear he1 a1
  replace hdcrs := hdcrs.mono (Hp.un_mono hle1 S4.mx)
  have hvs := hdo.1
  rw [List.length_map] at hvs
  have hmany := facesN_many d k
  rw [hfn] at hmany
  replace hmany : outc.length ≤ k := hmany
  have hsl : seen.length = 4 * d.crs.length + 2 := by have h9 := facesN_len d k; rw [hfn] at h9; exact h9
  refine ws_seqN FacesOf_n15 FacesOf_n16 rfl rfl rfl ?_
  refine ws_seqN FacesOf_n17 FacesOf_n18 rfl rfl rfl ?_
  refine ws_region rfl ?_
  refine wlm 0 1 rfl rfl rfl rfl rfl rfl rfl ?_
  refine wlm 1 2 rfl rfl rfl rfl rfl rfl rfl ?_
  refine wlo 2 3 rfl rfl rfl (wo_run rfl rfl (run_lss rfl rfl rfl) ?_)
  refine wl_end rfl ?_
  refine nm_sub [(1, _), (3, _), (4, _), (5, _), (6, _), (18, _)] ⟨rfl, rfl, rfl, rfl, rfl, rfl, trivial⟩ ?_
  refine nm_thn ?_
  refine ws_condN FacesOf_n19 FacesOf_n20 rfl rfl rfl rfl (fun hb18 => ?_) (fun hb18 => ?_)
  ·replace hb18 := of_decide_eq_true hb18
   refine ws_skip rfl ?_
   refine nm_sub [(1, _), (3, _), (4, _), (5, _), (6, _)] ⟨rfl, rfl, rfl, rfl, rfl, trivial⟩ ?_
   refine nm_thn ?_
   refine ws_seqN FacesOf_n21 FacesOf_n22 rfl rfl rfl ?_
   refine ws_blockN FacesOf_n23 1 rfl rfl rfl ?_
   refine ws_seqN FacesOf_n24 FacesOf_n25 rfl rfl rfl ?_
   refine ws_seqN FacesOf_n26 FacesOf_n27 rfl rfl rfl ?_
   refine ws_region rfl ?_
   refine wlm 0 1 rfl rfl rfl rfl rfl rfl rfl ?_
   refine wlm 1 2 rfl rfl rfl rfl rfl rfl rfl ?_
   refine wlo 2 3 rfl rfl rfl (wo_run rfl rfl (run_indexR (C := cdBool) (i := 1) (k + 2) rfl rfl rfl sl108 S4 rfl (by first | rfl | omega) (by first | omega | (simp only [lens]; omega))) ?_)
   refine wlo 3 4 rfl rfl rfl (wo_run rfl rfl (run_load1 rfl rfl Tryd.underlying4 rfl (S4.rowc (i := 1) (e := k + 2) (j := 0) rfl (by first | omega | (simp only [lens]; omega)) rfl rfl)) ?_)
   refine wl_end rfl ?_
   refine nm_sub [(1, _), (3, _), (4, _), (5, _), (6, _), (24, _)] ⟨rfl, rfl, rfl, rfl, rfl, rfl, trivial⟩ ?_
   refine nm_thn ?_
   refine ws_condN FacesOf_n28 FacesOf_n29 rfl rfl rfl rfl (fun hb24 => ?_) (fun hb24 => ?_)
   ·refine ws_exit rfl rfl ?_
    refine nm_sub [(1, _), (3, _), (4, _), (5, _), (6, _)] ⟨rfl, rfl, rfl, rfl, rfl, trivial⟩ ?_
    refine nm_thn ?_
    refine ws_region rfl ?_
    refine wlm 0 1 rfl rfl rfl rfl rfl rfl rfl ?_
    refine wlo 1 2 rfl rfl rfl (wo_run rfl rfl (run_add rfl rfl rfl (by first | omega | (simp only [lens]; omega))) ?_)
    refine wla 2 3 rfl rfl rfl rfl rfl rfl rfl ?_
    refine wl_end rfl ?_
    refine nm_lp ?_
    intro ax_ hax_
    refine ⟨_, ?hq2m, ⟨k + 1, _, outc, _, _, _, _, (hle1), rfl, hax_.sub ⟨rfl, rfl, rfl, rfl, rfl, trivial⟩, S4.pick [0, 1, 2] [_, _, _] (by decide) ⟨rfl, rfl, rfl, trivial⟩, ?hq2f0, ?hq2f1, ?hq2f2⟩⟩
    case hq2f0 => omega
    case hq2f1 => first | exact facesN_skip hfn hb24 | exact facesN_ring hfn (by simpa using hb24) (hrg.trans (ringF_stop (by simpa using hb36)))
    case hq2f2 => first | exact hdo | (rw [e9]; exact hdo)
    case hq2m => omega
   ·refine ws_skip rfl ?_
    refine nm_sub [(1, _), (3, _), (4, _), (5, _), (6, _)] ⟨rfl, rfl, rfl, rfl, rfl, trivial⟩ ?_
    refine nm_thn ?_
    refine ws_seqN FacesOf_n30 FacesOf_n31 rfl rfl rfl ?_
    refine ws_region rfl ?_
    refine wla 0 1 rfl rfl rfl rfl rfl rfl rfl ?_
    refine wl_end rfl ?_
    refine nm_thn ?_
    refine ws_seqN FacesOf_n32 FacesOf_n33 rfl rfl rfl ?_
    refine ws_region rfl ?_
    refine wlm 0 1 rfl rfl rfl rfl rfl rfl rfl ?_
    refine wlo 1 2 rfl rfl rfl (wo_run rfl rfl (run_quo rfl rfl rfl (by first | omega | (simp only [lens]; omega))) ?_)
    refine wlm 2 3 rfl rfl rfl rfl rfl rfl rfl ?_
    refine wlo 3 4 rfl rfl rfl (wo_run rfl rfl (run_rem rfl rfl rfl (by first | omega | (simp only [lens]; omega))) ?_)
    refine wlo 4 5 rfl rfl rfl (wo_run rfl rfl (run_eql rfl rfl rfl) ?_)
    refine wl_eq 26 (.int .i64 ((dA (k + 2)).a)) rfl (int_eq (by show _ = (((k + 2) / 2 : Nat) : Int); omega)) ?_
    refine wl_eq 29 (.bool ((dA (k + 2)).b)) rfl (congrArg Value.bool (by show _ = decide _; exact decide_eq_decide.2 (by omega))) ?_
    refine wlo 5 6 rfl rfl rfl (wo_run rfl rfl (run_build (l := [_, _]) rfl rfl st96 rfl rfl) ?_)
    refine wlo 6 7 rfl rfl rfl (wo_alloc (l := [_, _]) rfl rfl rfl zr96 rfl S4 ?_)
    intro gb2 w4 S5; clear S4
    refine wlo 7 8 rfl rfl rfl (wo_storeB (i := 0) (us := [_, _]) (l' := [_, _]) (H' := [_, _, _, _]) rfl rfl S5 rfl rfl rfl rfl sz96 rfl rfl rfl rfl ?_)
    intro w5 S6; clear S5
    refine wl_end rfl ?_
    refine nm_sub [(1, _), (3, _), (4, _), (5, _), (6, _), (7, _), (8, _)] ⟨rfl, rfl, rfl, rfl, rfl, rfl, rfl, trivial⟩ ?_
    refine nm_thn ?_
    refine ws_seqN FacesOf_n34 FacesOf_n35 rfl rfl rfl ?_
    refine ws_blockN FacesOf_n36 2 rfl rfl rfl ?_
    have S7 := S6.nilrow cdDa; clear S6
    refine ws_loopE (fun mx_ ax_ wx_ => ∃ (seen2 : List Bool) (x : Nat) (y : Da) (acc : List Int) (ringt : List Da) (vrs2 : Value) (vring : Value), mx_ = free seen2 ∧ Env 53 [(1, .pointer (some ⟨gb1, 0, none⟩)), (3, .int .i64 ((4 * (d.crs.length : Int)) + 2)), (4, vrs2), (5, vro), (6, .int .i64 ((k + 2 : Nat) : Int)), (7, vring), (8, .pointer (some ⟨gb2, 0, none⟩))] ax_ ∧ SH wx_ M1 X [Rs.row cdDa vring ringt, Rs.box gb2 96 [.int .i64 y.a, .bool y.b], Rs.row (cdV 97) vro vs, Rs.row cdBool vrs2 seen2, Rs.box gb1 24 [.slice dcrsA d.crs.length dcrsc, .int .i64 d.loops]] ∧ ringF (nxC d) seen (k + 2) [] = ringF (nxC d) seen2 x acc ∧ ringt = dasL acc ∧ (2 ≤ x ∧ x < 4 * d.crs.length + 2) ∧ seen2.length = 4 * d.crs.length + 2 ∧ y = dA x ∧ acc.length + free seen2 ≤ 100) rfl ?_ ?_
    ·intro ax_ hax_
     refine ⟨_, ⟨seen, k + 2, (dA (k + 2)), [], _, _, _, rfl, hax_.sub ⟨rfl, rfl, rfl, rfl, rfl, rfl, rfl, trivial⟩, S7.pick [0, 1, 2, 3, 4] [_, _, _, _, _] (by decide) ⟨rfl, rfl, rfl, rfl, rfl, trivial⟩, ?hq3f0, ?hq3f1, ?hq3f2, ?hq3f3, ?hq3f4, ?hq3f5⟩⟩
     case hq3f0 => rfl
     case hq3f1 => rfl
     case hq3f2 => omega
     case hq3f3 => exact hsl
     case hq3f4 => rfl
     case hq3f5 => (have h8 : free seen ≤ seen.length := List.countP_le_length; simp only [List.length_nil]; omega)
    ·rintro m2 a2 w6 ⟨seen2, x, y, acc, ringt, vrs2, vring, rfl, he2, S8, hrg, hring, hx, hs2, hy, hroom⟩
     clear S7
     refine ws_in he2 (c := FacesOf_n37) rfl ?_
     clear he2 a2
     have hyk : okD d y := by rw [hy]; exact dA_ok hx
     have hyk1 := hyk.1
     have hyk2 := hyk.2
     have hrl : ringt.length = acc.length := by rw [hring]; simp [dasL]
     have hdc : dcN y = x := by rw [hy]; exact dcN_dA x
     refine ws_seqN FacesOf_n38 FacesOf_n39 rfl rfl rfl ?_
     refine ws_seqN FacesOf_n40 FacesOf_n41 rfl rfl rfl ?_
     refine ws_region rfl ?_
     refine wlm 0 1 rfl rfl rfl rfl rfl rfl rfl ?_
     refine wlo 1 2 rfl rfl rfl (wo_run rfl rfl (run_loadN (us := [_, _]) rfl rfl Tryd.underlying96 rfl sz96 (S8.boxcs (i := 1) rfl ⟨rfl, rfl, trivial⟩)) ?_)
     refine wlo 2 3 rfl rfl rfl (wo_cq rfl rfl rfl rfl rfl rfl rfl cf58 S8 (dartCode_q y ((by omega)) S8.lend) ?_)
     rintro _ w7 S9 rfl; clear S8
     refine wl_eq 33 (.int .i64 (x : Int)) rfl (int_eq (by rw [hdc])) ?_
     refine wlo 3 4 rfl rfl rfl (wo_run rfl rfl (run_indexR (C := cdBool) (i := 3) x rfl rfl rfl sl108 S9 rfl (by first | rfl | omega) (by first | omega | (simp only [lens]; omega))) ?_)
     refine wlo 4 5 rfl rfl rfl (wo_run rfl rfl (run_load1 rfl rfl Tryd.underlying4 rfl (S9.rowc (i := 3) (e := x) (j := 0) rfl (by first | omega | (simp only [lens]; omega)) rfl rfl)) ?_)
     refine wlo 5 6 rfl rfl rfl (wo_run rfl rfl (run_not rfl rfl) ?_)
     refine wl_end rfl ?_
     refine nm_sub [(1, _), (3, _), (4, _), (5, _), (6, _), (7, _), (8, _), (36, _)] ⟨rfl, rfl, rfl, rfl, rfl, rfl, rfl, rfl, trivial⟩ ?_
     refine nm_thn ?_
     refine ws_condN FacesOf_n42 FacesOf_n43 rfl rfl rfl rfl (fun hb36 => ?_) (fun hb36 => ?_)
     ·simp only [Bool.and_eq_true, Bool.or_eq_true, Bool.and_eq_false_iff, Bool.or_eq_false_iff, decide_eq_true_eq, decide_eq_false_iff_not, Bool.not_eq_true', Bool.not_eq_false'] at hb36
      refine ws_skip rfl ?_
      refine nm_sub [(1, _), (3, _), (4, _), (5, _), (6, _), (7, _), (8, _)] ⟨rfl, rfl, rfl, rfl, rfl, rfl, rfl, trivial⟩ ?_
      refine nm_thn ?_
      refine ws_blockN FacesOf_n44 3 rfl rfl rfl ?_
      refine ws_seqN FacesOf_n45 FacesOf_n46 rfl rfl rfl ?_
      refine ws_region rfl ?_
      refine wlm 0 1 rfl rfl rfl rfl rfl rfl rfl ?_
      refine wlo 1 2 rfl rfl rfl (wo_run rfl rfl (run_loadN (us := [_, _]) rfl rfl Tryd.underlying96 rfl sz96 (S9.boxcs (i := 1) rfl ⟨rfl, rfl, trivial⟩)) ?_)
      refine wlo 2 3 rfl rfl rfl (wo_cq rfl rfl rfl rfl rfl rfl rfl cf58 S9 (dartCode_q y ((by omega)) S9.lend) ?_)
      rintro _ w8 S10 rfl; clear S9
      refine wl_eq 39 (.int .i64 (x : Int)) rfl (int_eq (by rw [hdc])) ?_
      refine wlo 3 4 rfl rfl rfl (wo_run rfl rfl (run_indexR (C := cdBool) (i := 3) x rfl rfl rfl sl108 S10 rfl (by first | rfl | omega) (by first | omega | (simp only [lens]; omega))) ?_)
      refine wlo 4 5 rfl rfl rfl (wo_storeR (C := cdBool) (i := 3) (e := x) (j := 0) (us := [_]) (H' := [_, _, _, _, _]) true rfl rfl S10 rfl (by first | omega | (simp only [lens]; omega)) rfl rfl rfl sz4 rfl rfl rfl rfl ?_)
      intro w9 S11; clear S10
      refine wl_end rfl ?_
      refine nm_sub [(1, _), (3, _), (4, _), (5, _), (6, _), (7, _), (8, _)] ⟨rfl, rfl, rfl, rfl, rfl, rfl, rfl, trivial⟩ ?_
      refine nm_thn ?_
      refine ws_seqN FacesOf_n47 FacesOf_n48 rfl rfl rfl ?_
      refine ws_region rfl ?_
      refine wlm 0 1 rfl rfl rfl rfl rfl rfl rfl ?_
      refine wlo 1 2 rfl rfl rfl (wo_run rfl rfl (run_loadN (us := [_, _]) rfl rfl Tryd.underlying96 rfl sz96 (S11.boxcs (i := 1) rfl ⟨rfl, rfl, trivial⟩)) ?_)
      refine wlo 2 3 rfl rfl rfl (wo_buildSlice1 (C := cdDa) (l := [_, _]) rfl rfl rfl rfl sl97 rfl rfl rfl rfl S11 ?_)
      intro gb3 w10 S12; clear S11
      refine wlo 3 4 rfl rfl rfl (wo_append1 (C := cdDa) (i := 1) (q := 0) (⟨y.a, y.b⟩ : Da) rfl rfl rfl rfl rfl rfl rfl rfl sl97 S12 rfl rfl rfl (by show (_ + 1) * 16 ≤ _; first | omega | (simp only [lens]; omega)) ?_)
      intro vring1 w11 S13; clear S12
      have S14 := S13.pick [1, 2, 3, 4, 5] [_, _, _, _, _] (by decide) ⟨rfl, rfl, rfl, rfl, rfl, trivial⟩; clear S13
      refine wla 4 5 rfl rfl rfl rfl rfl rfl rfl ?_
      refine wl_end rfl ?_
      refine nm_sub [(1, _), (3, _), (4, _), (5, _), (6, _), (7, _), (8, _)] ⟨rfl, rfl, rfl, rfl, rfl, rfl, rfl, trivial⟩ ?_
      refine nm_thn ?_
      refine ws_region rfl ?_
      refine wlo 0 1 rfl rfl rfl (wo_run rfl rfl (run_loadN (us := [_, _]) rfl rfl Tryd.underlying24 rfl sz24 (S14.boxcs (i := 4) rfl ⟨rfl, rfl, trivial⟩)) ?_)
      refine wlo 1 2 rfl rfl rfl (wo_run rfl rfl (run_loadN (us := [_, _]) rfl rfl Tryd.underlying96 rfl sz96 (S14.boxcs (i := 1) rfl ⟨rfl, rfl, trivial⟩)) ?_)
      refine wlo 2 3 rfl rfl rfl (wo_cq rfl rfl rfl rfl rfl rfl rfl cf59 S14 (NextDart_q d y (hdcrs.mono S14.un_XH) (hab) ((by first | assumption | omega)) S14.lend) ?_)
      rintro _ w12 S15 rfl; clear S14
      refine wlo 3 4 rfl rfl rfl (wo_storeB (i := 1) (us := [_, _]) (l' := [_, _]) (H' := [_, _, _, _, _]) rfl rfl S15 rfl rfl rfl rfl sz96 rfl rfl rfl rfl ?_)
      intro w13 S16; clear S15
      refine wl_end rfl ?_
      refine nm_blk ?_
      refine nm_lp ?_
      have hga : ga seen2 x = false := by simpa using hb36
      have hfr := free_set (seen := seen2) (x := x) (by omega) hga
      intro ax_ hax_
      refine ⟨_, ?hq4m, ⟨seen2.set x true, nxC d x, leftD d y, acc ++ [(x : Int)], _, _, _, rfl, hax_.sub ⟨rfl, rfl, rfl, rfl, rfl, rfl, rfl, trivial⟩, S16.pick [0, 1, 2, 3, 4] [_, _, _, _, _] (by decide) ⟨rfl, rfl, rfl, rfl, rfl, trivial⟩, ?hq4f0, ?hq4f1, ?hq4f2, ?hq4f3, ?hq4f4, ?hq4f5⟩⟩
      case hq4f0 => (rw [hrg]; exact ringF_go (by omega) hga)
      case hq4f1 => (rw [dasL_snoc, ← hring, hy])
      case hq4f2 => exact nxC_rng hab hx
      case hq4f3 => (rw [List.length_set]; exact hs2)
      case hq4f4 => (rw [hy, dA_nxC hab hx])
      case hq4f5 => (simp only [List.length_append, List.length_cons, List.length_nil]; omega)
      case hq4m => omega
     ·simp only [Bool.and_eq_true, Bool.or_eq_true, Bool.and_eq_false_iff, Bool.or_eq_false_iff, decide_eq_true_eq, decide_eq_false_iff_not, Bool.not_eq_true', Bool.not_eq_false'] at hb36
      refine ws_exit rfl rfl ?_
      refine nm_sub [(1, _), (3, _), (4, _), (5, _), (6, _), (7, _)] ⟨rfl, rfl, rfl, rfl, rfl, rfl, trivial⟩ ?_
      refine nm_thn ?_
      refine ws_region rfl ?_
      refine wlm 0 1 rfl rfl rfl rfl rfl rfl rfl ?_
      refine wlm 1 2 rfl rfl rfl rfl rfl rfl rfl ?_
      obtain ⟨M2, hle3, S17, ⟨A1, c1, e1, hr1⟩⟩ := S9.pubrow (i := 0) (H' := [_, _, _, _, _]) rfl rfl (by show _ * 16 ≤ _; first | omega | (simp only [lens]; omega))
      clear S9; subst e1
      replace hdcrs := hdcrs.mono (Hp.un_mono hle3 S17.mx)
      replace hdo := hdo.mono hle3
      refine wlo 2 3 rfl rfl rfl (wo_buildSlice1 (C := (cdV 97)) (l := [_]) rfl rfl rfl rfl sl92 rfl rfl rfl rfl S17 ?_)
      intro gb4 w14 S18; clear S17
      refine wlo 3 4 rfl rfl rfl (wo_append1 (C := (cdV 97)) (i := 3) (q := 0) (⟨A1, ringt.length, c1⟩ : SlV) rfl rfl rfl rfl rfl rfl rfl rfl sl92 S18 rfl rfl rfl (by show (_ + 1) * 24 ≤ _; first | omega | (simp only [lens]; omega)) ?_)
      intro vro1 w15 S19; clear S18
      have S20 := S19.pick [1, 2, 3, 4, 5] [_, _, _, _, _] (by decide) ⟨rfl, rfl, rfl, rfl, rfl, trivial⟩; clear S19
      have hd1 := hdo.snoc (c := c1) hr1
      refine wla 4 5 rfl rfl rfl rfl rfl rfl rfl ?_
      refine wl_end rfl ?_
      refine nm_blk ?_
      refine nm_sub [(1, _), (3, _), (4, _), (5, _), (6, _)] ⟨rfl, rfl, rfl, rfl, rfl, trivial⟩ ?_
      refine nm_thn ?_
      refine ws_region rfl ?_
      refine wlm 0 1 rfl rfl rfl rfl rfl rfl rfl ?_
      refine wlo 1 2 rfl rfl rfl (wo_run rfl rfl (run_add rfl rfl rfl (by first | omega | (simp only [lens]; omega))) ?_)
      refine wla 2 3 rfl rfl rfl rfl rfl rfl rfl ?_
      refine wl_end rfl ?_
      refine nm_lp ?_
      have hdx : dcN y = x := by rw [hy]; exact dcN_dA x
      have e9 : List.map dasL (outc ++ [acc]) = List.map dasL outc ++ [ringt] := by rw [List.map_append, show List.map dasL [acc] = [ringt] from by rw [hring]; rfl]
      intro ax_ hax_
      refine ⟨_, ?hq5m, ⟨k + 1, _, (outc ++ [acc]), _, _, _, _, (hle1.trans hle3), rfl, hax_.sub ⟨rfl, rfl, rfl, rfl, rfl, trivial⟩, S20.pick [2, 3, 4] [_, _, _] (by decide) ⟨rfl, rfl, rfl, trivial⟩, ?hq5f0, ?hq5f1, ?hq5f2⟩⟩
      case hq5f0 => omega
      case hq5f1 => first | exact facesN_skip hfn hb24 | exact facesN_ring hfn (by simpa using hb24) (hrg.trans (ringF_stop (by simpa using hb36)))
      case hq5f2 => first | exact hd1 | (rw [e9]; exact hd1)
      case hq5m => omega
  ·replace hb18 := of_decide_eq_false hb18
   refine ws_exit rfl rfl ?_
   refine nm_sub [(5, _)] ⟨rfl, trivial⟩ ?_
   refine nm_thn ?_
   refine ws_seqN FacesOf_n49 FacesOf_n50 rfl rfl rfl ?_
   refine ws_region rfl ?_
   refine wlm 0 1 rfl rfl rfl rfl rfl rfl rfl ?_
   refine wla 1 2 rfl rfl rfl rfl rfl rfl rfl ?_
   refine wl_end rfl ?_
   refine nm_sub [(2, _)] ⟨rfl, trivial⟩ ?_
   refine nm_thn ?_
   obtain ⟨M3, hle4, S21, ⟨A2, c2, e2, hr2⟩⟩ := S4.pubrow (i := 0) (H' := [_, _, _]) rfl rfl (by show _ * 24 ≤ _; first | omega | (simp only [lens]; omega))
   clear S4; subst e2
   replace hdcrs := hdcrs.mono (Hp.un_mono hle4 S21.mx)
   replace hdo := hdo.mono hle4
   refine ws_ret hC [_] rfl rfl ⟨rfl, trivial⟩ ?_
   refine ⟨_, rfl, _, hle1.trans hle4, (S21.pick [] [] (by decide) trivial), ?_⟩
   obtain rfl : k = 4 * d.crs.length := by omega
   have e2 : facesL d = outc.map dasL := by unfold facesL facesD; rw [hfn]
   unfold FacesR
   rw [e2]
   exact ⟨_, _, _, rfl, hr2, hdo⟩
end Go.Proofs.YtlmcnpbkmihjkaaDoor
