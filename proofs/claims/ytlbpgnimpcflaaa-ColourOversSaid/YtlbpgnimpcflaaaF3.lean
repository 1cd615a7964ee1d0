/- Walks printed by eng.py. -/
import Derived.Test.YtlbpgnimpcflaaaF2
set_option linter.unusedSimpArgs false
set_option linter.unusedVariables false
namespace Go.Proofs.Ytlbpgnimpcflaaa
open Go.ChangeShapes Go.WideShapes Go.ChangeAt Go.RowKit
theorem SH.pubB {w : World} {M : Hp} {X : Fr} {H H' : List Rs} {i g : Nat} {T : TypeId} {l : List Value} (S : SH w M X H) (hi : nth H i = some (Rs.box g T l)) (hH : H.set i Rs.emp = H') : ∃ M', M.le M' ∧ SH w M' X H' ∧ BxM M' g T l := by
  obtain ⟨h1, h2, h3⟩ := S.pub hi hH
  refine ⟨_, h1, h2, ?_⟩
  show (M.put w _) g = _
  rw [h3 g (by simp [Rs.box])]
  exact S.get hi
theorem mk3 : MapK Try.prog 3 (Value.int .i64) := mapK_int Try.underlying3
theorem mk102 : MapK Try.prog 102 (fun x => Value.agg (cdDa.f x).toArray) := mapK_st se102 (fun x y => ⟨x.a = y.a ∧ x.b = y.b, ⟨_, _, _, _, rfl, rfl, ⟨_, _, rfl, rfl, rfl⟩, rfl⟩, ⟨fun h => by cases x; cases y; simp at h; simp [h], fun h => by rw [h]; exact ⟨rfl, rfl⟩⟩⟩) (fun k => by simp [Instr.sameBits, cdDa, daF])
/-- The k-th dart. -/
def dA (c : Nat) : Da := ⟨((c / 2 : Nat) : Int), decide (c % 2 = 1)⟩
def dartN (k : Nat) : Da := dA (k + 2)
def encD (k : Nat) : Value := .agg (daF (dartN k)).toArray
def DartsR (g : Nat) (u : Value) (M : Hp) : Prop := ∃ b, u = .func (.func 97) #[] [.pointer (some ⟨b, 0, none⟩)].toArray ∧ BxM M b 75 [.pointer (some ⟨g, 0, none⟩)]
theorem dart_eq (a i : Nat) (hi : i < 2) : (Value.agg [.int .i64 ((a : Int) + 1), .bool (ga [false, true] i)].toArray) = encD (2 * a + i) := by
  have e : i = 0 ∨ i = 1 := by omega
  unfold encD dartN dA
  rcases e with rfl | rfl
  · rw [show (2 * a + 0 + 2) / 2 = a + 1 by omega, show (2 * a + 0 + 2) % 2 = 0 by omega]; rfl
  · rw [show (2 * a + 1 + 2) / 2 = a + 1 by omega, show (2 * a + 1 + 2) % 2 = 1 by omega]; rfl

noncomputable def Darts_n0 : Code := Try.f86.body.getD .skip
noncomputable def Darts_n1 : Code := cL Darts_n0
noncomputable def Darts_n2 : Code := cR Darts_n0
noncomputable def Darts_n3 : Code := cL Darts_n2
noncomputable def Darts_n4 : Code := cR Darts_n2
set_option maxRecDepth 10000 in
theorem Darts_t {w : World} {M : Hp} {X : Fr} (d : Dg) {gsh : Nat} {cA iA oA : Option Addr} {cc ic oc : Nat} (hsb : BxM M gsh 81 [.slice cA d.crs.length cc, .int .i64 d.loops, .slice iA (tabL d false (4 * d.crs.length)).length ic, .slice oA (tabL d true (4 * d.crs.length)).length oc]) (hsc : RdA cdCr M cA cc d.crs) (hsi : RdA cdPl M iA ic (tabL d false (4 * d.crs.length))) (hso : RdA cdPl M oA oc (tabL d true (4 * d.crs.length))) (S : SH w M X []) : Ct Try.prog 86 [.pointer (some ⟨gsh, 0, none⟩)] w M X (DartsR gsh) := by
  unfold Ct
  refine calls_in (b := Darts_n0) Try.func86 rfl Try.ntmps86 rfl (fun C hC => ?_)
  refine ws_sub [(0, _)] ⟨rfl, trivial⟩ ?_
  refine ws_seqN Darts_n1 Darts_n2 rfl rfl rfl ?_
  refine ws_region rfl ?_
  refine wl_op (k := 0) (k' := 1) rfl rfl rfl (wo_box (l := [_]) rfl rfl rfl rfl rfl S ?_)
  intro gb1 w1 S1; clear S
  refine wl_op (k := 1) (k' := 2) rfl rfl rfl (wo_run rfl rfl (run_assign rfl rfl) ?_)
  refine wl_end rfl ?_
  refine nm_sub [(1, _)] ⟨rfl, trivial⟩ ?_
  refine nm_thn ?_
  refine ws_seqN Darts_n3 Darts_n4 rfl rfl rfl ?_
  refine ws_region rfl ?_
  refine wl_op (k := 0) (k' := 1) rfl rfl rfl (wo_run rfl rfl (run_makeFunc (vs := [_]) rfl rfl rfl rfl) ?_)
  refine wl_op (k := 1) (k' := 2) rfl rfl rfl (wo_run rfl rfl (run_assign rfl rfl) ?_)
  refine wl_end rfl ?_
  refine nm_sub [(2, _)] ⟨rfl, trivial⟩ ?_
  refine nm_thn ?_
  obtain ⟨M1, hle1, S2, hbx1⟩ := S1.pubB (i := 0) (H' := [_]) rfl rfl
  clear S1
  replace hsb := hsb.mono hle1
  replace hsc := hsc.mono hle1
  replace hsi := hsi.mono hle1
  replace hso := hso.mono hle1
  refine ws_ret hC [_] rfl rfl ⟨rfl, trivial⟩ ?_
  refine ⟨_, rfl, _, hle1, (S2.pick [] [] (by decide) trivial), ?_⟩
  exact ⟨_, rfl, hbx1⟩

namespace InF

noncomputable def Darts1_n0 : Code := Try.f97.body.getD .skip
noncomputable def Darts1_n1 : Code := cL Darts1_n0
noncomputable def Darts1_n2 : Code := cR Darts1_n0
noncomputable def Darts1_n3 : Code := cL Darts1_n2
noncomputable def Darts1_n4 : Code := cL Darts1_n3
noncomputable def Darts1_n5 : Code := cL Darts1_n4
noncomputable def Darts1_n6 : Code := cR Darts1_n4
noncomputable def Darts1_n7 : Code := cL Darts1_n5
noncomputable def Darts1_n8 : Code := cR Darts1_n5
noncomputable def Darts1_n9 : Code := cL Darts1_n8
noncomputable def Darts1_n10 : Code := cR Darts1_n8
noncomputable def Darts1_n11 : Code := cL Darts1_n6
noncomputable def Darts1_n12 : Code := cR Darts1_n6
noncomputable def Darts1_n13 : Code := cL Darts1_n11
noncomputable def Darts1_n14 : Code := cL Darts1_n13
noncomputable def Darts1_n15 : Code := cR Darts1_n13
noncomputable def Darts1_n16 : Code := cL Darts1_n15
noncomputable def Darts1_n17 : Code := cL Darts1_n16
noncomputable def Darts1_n18 : Code := cL Darts1_n17
noncomputable def Darts1_n19 : Code := cR Darts1_n17
noncomputable def Darts1_n20 : Code := cL Darts1_n19
noncomputable def Darts1_n21 : Code := cR Darts1_n19
noncomputable def Darts1_n22 : Code := cL Darts1_n20
noncomputable def Darts1_n23 : Code := cR Darts1_n20
noncomputable def Darts1_n24 : Code := cL Darts1_n21
noncomputable def Darts1_n25 : Code := cR Darts1_n21
noncomputable def Darts1_n26 : Code := cL Darts1_n24
noncomputable def Darts1_n27 : Code := cL Darts1_n26
noncomputable def Darts1_n28 : Code := cR Darts1_n26
noncomputable def Darts1_n29 : Code := cL Darts1_n28
noncomputable def Darts1_n30 : Code := cR Darts1_n28
noncomputable def Darts1_n31 : Code := cL Darts1_n30
noncomputable def Darts1_n32 : Code := cR Darts1_n30
set_option maxRecDepth 10000 in
theorem Darts1_iter {M : Hp} {X : Fr} (d : Dg) {gsh : Nat} {cA iA oA : Option Addr} {cc ic oc : Nat} {b : Nat} (hsb : BxM M gsh 81 [.slice cA d.crs.length cc, .int .i64 d.loops, .slice iA (tabL d false (4 * d.crs.length)).length ic, .slice oA (tabL d true (4 * d.crs.length)).length oc]) (hsc : RdA cdCr M cA cc d.crs) (hsi : RdA cdPl M iA ic (tabL d false (4 * d.crs.length))) (hso : RdA cdPl M oA oc (tabL d true (4 * d.crs.length))) (hbx : BxM M b 75 [.pointer (some ⟨gsh, 0, none⟩)]) (hn : d.crs.length ≤ 16) : Iter Try.prog 97 [.pointer (some ⟨b, 0, none⟩)] encD (4 * d.crs.length) M X := by
  intro l J w M1 B hle0 hY S hJ0
  replace hsb := hsb.mono hle0
  replace hsc := hsc.mono hle0
  replace hsi := hsi.mono hle0
  replace hso := hso.mono hle0
  replace hbx := hbx.mono hle0
  refine calls_in (b := Darts1_n0) Try.func97 rfl Try.ntmps97 rfl (fun C hCr hC => ?_)
  have hCF : C.F = Fence.wide := by unfold Ctx.F; rw [hCr]
  refine ws_sub [(0, _), (1, _)] ⟨rfl, rfl, trivial⟩ ?_
  refine ws_seqN Darts1_n1 Darts1_n2 rfl rfl rfl ?_
  refine ws_region rfl ?_
  refine wl_op (k := 0) (k' := 1) rfl rfl rfl (wo_run rfl rfl (run_assign rfl rfl) ?_)
  refine wl_end rfl ?_
  refine nm_thn ?_
  refine ws_blockN Darts1_n3 0 rfl rfl rfl ?_
  refine ws_loopE (fun mx_ ax_ wx_ => ∃ (a : Nat) (B1 : Rs) (M2 : Hp), M1.le M2 ∧ mx_ = 2 * d.crs.length - a ∧ Env 23 [(0, .func (.yield l) #[] #[]), (1, .pointer (some ⟨b, 0, none⟩)), (3, .int .i64 ((a : Int) + 1))] ax_ ∧ SH wx_ M2 X [B1] ∧ a ≤ 2 * d.crs.length ∧ J (2 * a) M2 B1) rfl ?_ ?_
  · intro ax_ hax_
    refine ⟨_, ⟨0, _, _, Hp.le_refl _, rfl, hax_.sub ⟨rfl, rfl, rfl, trivial⟩, S.pick [0] [_] (by decide) ⟨rfl, trivial⟩, ?hq1f0, ?hq1f1⟩⟩
    case hq1f0 => omega
    case hq1f1 => exact hJ0
  · rintro m1 a1 w1 ⟨a, B1, M2, hle1, rfl, he1, S1, ha, hJa⟩
    clear S
    refine ws_in he1 (c := Darts1_n4) rfl ?_
    clear he1 a1
    replace hsb := hsb.mono hle1
    replace hsc := hsc.mono hle1
    replace hsi := hsi.mono hle1
    replace hso := hso.mono hle1
    replace hbx := hbx.mono hle1
    refine ws_seqN Darts1_n5 Darts1_n6 rfl rfl rfl ?_
    refine ws_seqN Darts1_n7 Darts1_n8 rfl rfl rfl ?_
    refine ws_region rfl ?_
    refine wl_op (k := 0) (k' := 1) rfl rfl rfl (wo_run rfl rfl (run_move rfl rfl) ?_)
    refine wl_op (k := 1) (k' := 2) rfl rfl rfl (wo_run rfl rfl (run_load1 rfl rfl Try.underlying75 rfl (hbx.cell S1.m rfl)) ?_)
    refine wl_op (k := 2) (k' := 3) rfl rfl rfl (wo_cq rfl rfl rfl rfl rfl rfl rfl cf55 S1 (Arcs_q d  (hsb.mono (Hp.le_un _ _)) (hsc.mono (Hp.le_un _ _)) (hsi.mono (Hp.le_un _ _)) (hso.mono (Hp.le_un _ _)) (by omega) S1.lend) ?_)
    rintro _ w2 S2 rfl; clear S1
    refine wl_op (k := 3) (k' := 4) rfl rfl rfl (wo_run rfl rfl (run_leq rfl rfl rfl) ?_)
    refine wl_end rfl ?_
    refine nm_sub [(0, _), (1, _), (3, _), (9, _)] ⟨rfl, rfl, rfl, rfl, trivial⟩ ?_
    refine nm_thn ?_
    refine ws_condN Darts1_n9 Darts1_n10 rfl rfl rfl rfl (fun hb9 => ?_) (fun hb9 => ?_)
    · have hb9 := of_decide_eq_true hb9
      refine ws_skip rfl ?_
      refine nm_sub [(0, _), (1, _), (3, _)] ⟨rfl, rfl, rfl, trivial⟩ ?_
      refine nm_thn ?_
      refine ws_seqN Darts1_n11 Darts1_n12 rfl rfl rfl ?_
      refine ws_blockN Darts1_n13 1 rfl rfl rfl ?_
      refine ws_seqN Darts1_n14 Darts1_n15 rfl rfl rfl ?_
      refine ws_region rfl ?_
      refine wl_op (k := 0) (k' := 1) rfl rfl rfl (wo_run rfl rfl (run_buildA (l := [_, _]) (pl := [(0, 1), (1, 1)]) rfl rfl Try.underlying134 zr134 sz4 rfl rfl rfl) ?_)
      refine wl_op (k := 1) (k' := 2) rfl rfl rfl (wo_run rfl rfl (run_move rfl rfl) ?_)
      refine wl_end rfl ?_
      refine nm_thn ?_
      refine ws_blockN Darts1_n16 2 rfl rfl rfl ?_
      refine ws_loopE (fun mx_ ax_ wx_ => ∃ (i : Nat) (B2 : Rs) (M3 : Hp), M2.le M3 ∧ mx_ = 2 - i ∧ Env 23 [(0, .func (.yield l) #[] #[]), (1, .pointer (some ⟨b, 0, none⟩)), (3, .int .i64 ((a : Int) + 1)), (12, .agg [.bool false, .bool true].toArray), (13, .int .i64 (i : Int))] ax_ ∧ SH wx_ M3 X [B2] ∧ i ≤ 2 ∧ J (2 * a + i) M3 B2) rfl ?_ ?_
      · intro ax_ hax_
        refine ⟨_, ⟨0, _, _, Hp.le_refl _, rfl, hax_.sub ⟨rfl, rfl, rfl, rfl, rfl, trivial⟩, S2.pick [0] [_] (by decide) ⟨rfl, trivial⟩, ?hq2f0, ?hq2f1⟩⟩
        case hq2f0 => omega
        case hq2f1 => exact hJa
      · rintro m2 a2 w3 ⟨i, B2, M3, hle2, rfl, he2, S3, hi, hJi⟩
        clear S2
        refine ws_in he2 (c := Darts1_n17) rfl ?_
        clear he2 a2
        replace hsb := hsb.mono hle2
        replace hsc := hsc.mono hle2
        replace hsi := hsi.mono hle2
        replace hso := hso.mono hle2
        replace hbx := hbx.mono hle2
        refine ws_seqN Darts1_n18 Darts1_n19 rfl rfl rfl ?_
        refine ws_region rfl ?_
        refine wl_op (k := 0) (k' := 1) rfl rfl rfl (wo_run rfl rfl (run_lss rfl rfl rfl) ?_)
        refine wl_end rfl ?_
        refine nm_thn ?_
        refine ws_seqN Darts1_n20 Darts1_n21 rfl rfl rfl ?_
        refine ws_condN Darts1_n22 Darts1_n23 rfl rfl rfl rfl (fun hb14 => ?_) (fun hb14 => ?_)
        · have hb14 := of_decide_eq_true hb14
          refine ws_skip rfl ?_
          refine nm_sub [(0, _), (1, _), (3, _), (12, _), (13, _)] ⟨rfl, rfl, rfl, rfl, rfl, trivial⟩ ?_
          refine nm_thn ?_
          refine ws_seqN Darts1_n24 Darts1_n25 rfl rfl rfl ?_
          refine ws_blockN Darts1_n26 3 rfl rfl rfl ?_
          refine ws_seqN Darts1_n27 Darts1_n28 rfl rfl rfl ?_
          refine ws_region rfl ?_
          refine wl_op (k := 0) (k' := 1) rfl rfl rfl (wo_run rfl rfl (run_index1 (e := i) rfl rfl rfl Try.underlying134 Try.underlying4 rfl sz4 (by first | rfl | omega) (by first | omega | (simp only [List.length_set, List.length_append, List.length_replicate, List.length_singleton, List.length_cons, List.length_nil]; omega)) (nth_bv [false, true] i (by simp; first | omega | (simp only [List.length_set, List.length_append, List.length_replicate, List.length_singleton, List.length_cons, List.length_nil]; omega)))) ?_)
          refine wl_op (k := 1) (k' := 2) rfl rfl rfl (wo_run rfl rfl (run_assign rfl rfl) ?_)
          refine wl_end rfl ?_
          refine nm_sub [(0, _), (1, _), (3, _), (12, _), (13, _), (5, _)] ⟨rfl, rfl, rfl, rfl, rfl, rfl, trivial⟩ ?_
          refine nm_thn ?_
          refine ws_seqN Darts1_n29 Darts1_n30 rfl rfl rfl ?_
          refine ws_region rfl ?_
          refine wl_op (k := 0) (k' := 1) rfl rfl rfl (wo_run rfl rfl (run_move rfl rfl) ?_)
          refine wl_op (k := 1) (k' := 2) rfl rfl rfl (wo_run rfl rfl (run_move rfl rfl) ?_)
          refine wl_op (k := 2) (k' := 3) rfl rfl rfl (wo_run rfl rfl (run_move rfl rfl) ?_)
          refine wl_op (k := 3) (k' := 4) rfl rfl rfl (wo_run rfl rfl (run_build (l := [_, _]) rfl rfl st102 rfl rfl) ?_)
          have hlt4 : 2 * a + i < 4 * d.crs.length := by omega
          refine wl_yield (k := 4) (k' := 5) rfl rfl rfl rfl rfl rfl rfl rfl rfl rfl (by rw [hCF]; have h9 := hY (2 * a + i) _ _ _ (by omega) (hle1.trans hle2) S3 hJi; rw [← dart_eq a i (by omega)] at h9; exact h9) ?_
          rintro _ w4 ⟨rfl, M4, B6, hle3, S4, hJ1⟩; clear S3
          replace hsb := hsb.mono hle3
          replace hsc := hsc.mono hle3
          replace hsi := hsi.mono hle3
          replace hso := hso.mono hle3
          replace hbx := hbx.mono hle3
          refine wl_op (k := 5) (k' := 6) rfl rfl rfl (wo_run rfl rfl (run_not rfl rfl) ?_)
          refine wl_end rfl ?_
          refine nm_sub [(0, _), (1, _), (3, _), (12, _), (13, _), (21, _)] ⟨rfl, rfl, rfl, rfl, rfl, rfl, trivial⟩ ?_
          refine nm_thn ?_
          refine ws_condFN Darts1_n32 rfl rfl rfl ?_
          refine ws_skip rfl ?_
          refine nm_blk ?_
          refine nm_sub [(0, _), (1, _), (3, _), (12, _), (13, _)] ⟨rfl, rfl, rfl, rfl, rfl, trivial⟩ ?_
          refine nm_thn ?_
          refine ws_region rfl ?_
          refine wl_op (k := 0) (k' := 1) rfl rfl rfl (wo_run rfl rfl (run_add rfl rfl rfl (by first | omega | (simp only [List.length_set, List.length_append, List.length_replicate, List.length_singleton, List.length_cons, List.length_nil]; omega))) ?_)
          refine wl_op (k := 1) (k' := 2) rfl rfl rfl (wo_run rfl rfl (run_move rfl rfl) ?_)
          refine wl_end rfl ?_
          refine nm_lp ?_
          intro ax_ hax_
          refine ⟨_, ?hq3m, ⟨i + 1, _, _, (hle2.trans hle3), rfl, hax_.sub ⟨rfl, rfl, rfl, rfl, rfl, trivial⟩, S4.pick [0] [_] (by decide) ⟨rfl, trivial⟩, ?hq3f0, ?hq3f1⟩⟩
          case hq3f0 => omega
          case hq3f1 => first | assumption | (rw [show 2 * a + (i + 1) = 2 * a + i + 1 by omega]; assumption)
          case hq3m => omega
        · have hb14 := of_decide_eq_false hb14
          refine ws_exit rfl rfl ?_
          refine nm_blk ?_
          refine nm_sub [(0, _), (1, _), (3, _)] ⟨rfl, rfl, rfl, trivial⟩ ?_
          refine nm_thn ?_
          refine ws_region rfl ?_
          refine wl_op (k := 0) (k' := 1) rfl rfl rfl (wo_run rfl rfl (run_move rfl rfl) ?_)
          refine wl_op (k := 1) (k' := 2) rfl rfl rfl (wo_run rfl rfl (run_add rfl rfl rfl (by first | omega | (simp only [List.length_set, List.length_append, List.length_replicate, List.length_singleton, List.length_cons, List.length_nil]; omega))) ?_)
          refine wl_op (k := 2) (k' := 3) rfl rfl rfl (wo_run rfl rfl (run_assign rfl rfl) ?_)
          refine wl_end rfl ?_
          refine nm_lp ?_
          intro ax_ hax_
          refine ⟨_, ?hq4m, ⟨a + 1, _, _, (hle1.trans hle2), rfl, hax_.sub ⟨rfl, rfl, rfl, trivial⟩, S3.pick [0] [_] (by decide) ⟨rfl, trivial⟩, ?hq4f0, ?hq4f1⟩⟩
          case hq4f0 => omega
          case hq4f1 => (rw [show 2 * (a + 1) = 2 * a + i by omega]; exact hJi)
          case hq4m => omega
    · have hb9 := of_decide_eq_false hb9
      refine ws_exit rfl rfl ?_
      refine nm_end hC [] rfl trivial ?_
      refine ⟨⟨_, rfl⟩, _, _, hle1, S2, ?_⟩
      rw [show 4 * d.crs.length = 2 * a by omega]
      exact hJa

end InF
end Go.Proofs.Ytlbpgnimpcflaaa
