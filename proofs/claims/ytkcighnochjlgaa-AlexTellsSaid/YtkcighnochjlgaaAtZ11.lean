/- Part 11 of the proof of the law AlexTells: the walks through its functions and the plain laws that they need. -/
import Derived.Test.YtkcighnochjlgaaAtZ10
set_option linter.unusedSimpArgs false
set_option linter.unusedVariables false
namespace Go.Proofs.Ytkcighnochjlgaa
open Go.ChangeShapes Go.WideShapes Go.ChangeAt Go.RowKit
theorem cn_drop {p q : Nat → Bool} (f : Nat) : ∀ (a : Nat), (∀ x, x < a → p x = true → x = f ∨ q x = true) → cn p a ≤ cn q a + 1
 | 0, _ => by simp [cn]
 | a + 1, h => by
  by_cases e : a = f
  ·have := cn_mono (P := p) (Q := q) a (fun x hx hp => by
    rcases h x (by omega) hp with h1 | h1
    ·omega
    ·exact h1)
   rw [cn, cn]; split <;> split <;> omega
  ·have := cn_drop f a (fun x hx => h x (by omega))
   rw [cn, cn]
   by_cases hp : p a = true
   ·have hq := (h a (by omega) hp).resolve_left e
    rw [if_pos hp, if_pos hq]; omega
   ·rw [if_neg hp]; omega
theorem cn_one (d : Dg) (m : Nat) (hm : m ≤ 2 * d.crs.length + 1) : cn (fun x => decide (1 ≤ x ∧ ga (clsN d 0) x = (x : Int))) m = m - 1 := by
 induction m with
 | zero => rfl
 | succ m ih =>
  rw [cn, ih (by omega), cls_zero d m (by omega)]
  by_cases h : 1 ≤ m
  ·rw [if_pos (decide_eq_true ⟨h, rfl⟩)]; omega
  ·rw [if_neg (by rw [decide_eq_true_iff]; omega)]; omega
theorem mny_ge (d : Dg) : d.crs.length ≤ mny d := by
 have key : ∀ k, k ≤ d.crs.length → 2 * d.crs.length ≤ cn (fun x => decide (1 ≤ x ∧ ga (clsN d k) x = (x : Int))) (2 * d.crs.length + 1) + k := by
  intro k
  induction k with
  | zero => intro _; rw [cn_one d _ (Nat.le_refl _)]; omega
  | succ k ih =>
   intro hk
   have h1 := ih (by omega)
   have h2 := cn_drop (p := fun x => decide (1 ≤ x ∧ ga (clsN d k) x = (x : Int))) (q := fun x => decide (1 ≤ x ∧ ga (clsN d (k + 1)) x = (x : Int))) (frC d (clsN d k) k).toNat (2 * d.crs.length + 1) (fun x hx hp => by
    obtain ⟨p1, p2⟩ := of_decide_eq_true hp
    by_cases e : ga (clsN d k) x = frC d (clsN d k) k
    ·left; rw [← e, p2]; rfl
    ·right; refine decide_eq_true ⟨p1, ?_⟩; rw [clsN_ga d k x hx, if_neg e]; exact p2)
   omega
 have h := key d.crs.length (Nat.le_refl _)
 have e : rk d (2 * d.crs.length + 1) = (cn (fun x => decide (1 ≤ x ∧ ga (clsN d d.crs.length) x = (x : Int))) (2 * d.crs.length + 1) : Int) := rfl
 unfold mny
 omega
noncomputable def AOwn_n0 : Code := Try.f78.body.getD .skip
noncomputable def AOwn_n1 : Code := cL AOwn_n0
noncomputable def AOwn_n2 : Code := cR AOwn_n0
noncomputable def AOwn_n3 : Code := cL AOwn_n2
noncomputable def AOwn_n4 : Code := cR AOwn_n2
noncomputable def AOwn_n5 : Code := cL AOwn_n4
noncomputable def AOwn_n6 : Code := cR AOwn_n4
noncomputable def AOwn_n7 : Code := cL AOwn_n6
noncomputable def AOwn_n8 : Code := cR AOwn_n6
noncomputable def AOwn_n9 : Code := cL AOwn_n7
noncomputable def AOwn_n10 : Code := cR AOwn_n7
noncomputable def AOwn_n11 : Code := cL AOwn_n10
noncomputable def AOwn_n12 : Code := cL AOwn_n11
noncomputable def AOwn_n13 : Code := cL AOwn_n12
noncomputable def AOwn_n14 : Code := cR AOwn_n12
noncomputable def AOwn_n15 : Code := cL AOwn_n14
noncomputable def AOwn_n16 : Code := cR AOwn_n14
noncomputable def AOwn_n17 : Code := cL AOwn_n15
noncomputable def AOwn_n18 : Code := cR AOwn_n15
noncomputable def AOwn_n19 : Code := cL AOwn_n16
noncomputable def AOwn_n20 : Code := cR AOwn_n16
noncomputable def AOwn_n21 : Code := cL AOwn_n19
noncomputable def AOwn_n22 : Code := cL AOwn_n21
noncomputable def AOwn_n23 : Code := cR AOwn_n21
noncomputable def AOwn_n24 : Code := cL AOwn_n23
noncomputable def AOwn_n25 : Code := cR AOwn_n23
noncomputable def AOwn_n26 : Code := cL AOwn_n25
noncomputable def AOwn_n27 : Code := cR AOwn_n25
noncomputable def AOwn_n28 : Code := cL AOwn_n26
noncomputable def AOwn_n29 : Code := cR AOwn_n26
noncomputable def AOwn_n30 : Code := cL AOwn_n29
noncomputable def AOwn_n31 : Code := cL AOwn_n30
noncomputable def AOwn_n32 : Code := cL AOwn_n31
noncomputable def AOwn_n33 : Code := cR AOwn_n31
noncomputable def AOwn_n34 : Code := cL AOwn_n33
noncomputable def AOwn_n35 : Code := cR AOwn_n33
noncomputable def AOwn_n36 : Code := cL AOwn_n34
noncomputable def AOwn_n37 : Code := cR AOwn_n34
noncomputable def AOwn_n38 : Code := cL AOwn_n35
noncomputable def AOwn_n39 : Code := cR AOwn_n35
noncomputable def AOwn_n40 : Code := cL AOwn_n38
noncomputable def AOwn_n41 : Code := cL AOwn_n40
noncomputable def AOwn_n42 : Code := cR AOwn_n40
noncomputable def AOwn_n43 : Code := cL AOwn_n27
noncomputable def AOwn_n44 : Code := cR AOwn_n27
noncomputable def AOwn_n45 : Code := cL AOwn_n44
noncomputable def AOwn_n46 : Code := cR AOwn_n44
noncomputable def AOwn_n47 : Code := cL AOwn_n46
noncomputable def AOwn_n48 : Code := cR AOwn_n46
noncomputable def AOwn_n49 : Code := cL AOwn_n47
noncomputable def AOwn_n50 : Code := cR AOwn_n47
noncomputable def AOwn_n51 : Code := cL AOwn_n50
noncomputable def AOwn_n52 : Code := cR AOwn_n50
noncomputable def AOwn_n53 : Code := cL AOwn_n48
noncomputable def AOwn_n54 : Code := cR AOwn_n48
noncomputable def AOwn_n55 : Code := cL AOwn_n54
noncomputable def AOwn_n56 : Code := cR AOwn_n54
noncomputable def AOwn_n57 : Code := cL AOwn_n56
noncomputable def AOwn_n58 : Code := cR AOwn_n56
noncomputable def AOwn_n59 : Code := cL AOwn_n8
noncomputable def AOwn_n60 : Code := cR AOwn_n8
set_option maxHeartbeats 1000000 in
set_option maxRecDepth 10000 in
theorem AOwn_to {w : World} {M : Hp} {X : Fr} (d : Dg) {gsh : Nat} {cA iA oA : Option Addr} {cc ic oc : Nat} (hsb : BxM M gsh 114 [.slice cA d.crs.length cc, .int .i64 d.loops, .slice iA (tabL d false (4 * d.crs.length)).length ic, .slice oA (tabL d true (4 * d.crs.length)).length oc]) (hsc : RdA cdCr M cA cc d.crs) (hsi : RdA cdPl M iA ic (tabL d false (4 * d.crs.length))) (hso : RdA cdPl M oA oc (tabL d true (4 * d.crs.length))) (hn : d.crs.length ≤ 10) (hab : arcsB d = true) (S : SH w M X []) : Cto Try.prog 78 [.pointer (some ⟨gsh, 0, none⟩)] w M X (fun u N Ns => ∃ wv wg, Ns = [Rs.row (cdV 94) u wv] ∧ Rd2 (cdMap 87) N wv wg ∧ WksA (fun _ => 1) N wg ((tblA d).map fun r => r.map fW)) := by
 unfold Cto
 refine calls_in (b := AOwn_n0) Try.func78 rfl Try.ntmps78 rfl (fun C hC => ?_)
 refine ws_sub [(0, _)] ⟨rfl, trivial⟩ ?_
 refine ws_seqN AOwn_n1 AOwn_n2 rfl rfl rfl ?_
 refine ws_region rfl ?_
 refine wla 0 1 rfl rfl rfl rfl rfl rfl rfl ?_
 refine wl_end rfl ?_
 refine nm_sub [(0, _)] ⟨rfl, trivial⟩ ?_
 refine nm_thn ?_
 refine ws_seqN AOwn_n3 AOwn_n4 rfl rfl rfl ?_
 refine ws_region rfl ?_
 refine wlm 0 1 rfl rfl rfl rfl rfl rfl rfl ?_
 refine wlo 1 2 rfl rfl rfl (wo_ct rfl rfl rfl rfl rfl rfl rfl cf83 S (Passes_t d (hsb.mono (Hp.le_un _ _)) (hsc.mono (Hp.le_un _ _)) (hsi.mono (Hp.le_un _ _)) (hso.mono (Hp.le_un _ _)) (by omega) hab S.lend) ?_)
 intro vw1 w1 M1 hle1 S1 hRw1; clear S
 replace hsb := hsb.mono hle1
 replace hsc := hsc.mono hle1
 replace hsi := hsi.mono hle1
 replace hso := hso.mono hle1
 obtain ⟨A1, c1, rfl, hr1⟩ := hRw1
 have hovl := oversL_len d
 refine wlm 2 3 rfl rfl rfl rfl rfl rfl rfl ?_
 refine wlo 3 4 rfl rfl rfl (wo_run rfl rfl (run_extract rfl rfl rfl) ?_)
 refine wlo 4 5 rfl rfl rfl (wo_run rfl rfl (run_extract rfl rfl rfl) ?_)
 refine wlo 5 6 rfl rfl rfl (wo_alloc (l := [_]) rfl rfl rfl zr36 rfl S1 ?_)
 intro gb1 w2 S2; clear S1
 refine wlo 6 7 rfl rfl rfl (wo_storeB (i := 0) (us := [_]) (l' := [_]) (H' := [_]) rfl rfl S2 rfl rfl rfl rfl sz36 rfl rfl rfl rfl ?_)
 intro w3 S3; clear S2
 refine wla 7 8 rfl rfl rfl rfl rfl rfl rfl ?_
 refine wl_end rfl ?_
 refine nm_sub [(0, _), (3, _), (4, _)] ⟨rfl, rfl, rfl, trivial⟩ ?_
 refine nm_thn ?_
 refine ws_seqN AOwn_n5 AOwn_n6 rfl rfl rfl ?_
 have hmb := rk_bd d (2 * d.crs.length + 1)
 have hmn : rk d (2 * d.crs.length + 1) = (mny d : Int) := by unfold mny; omega
 refine ws_eq 4 (.int .i64 (mny d : Int)) rfl (int_eq hmn) ?_
 refine ws_region rfl ?_
 refine wla 0 1 rfl rfl rfl rfl rfl rfl rfl ?_
 refine wl_end rfl ?_
 refine nm_sub [(0, _), (3, _), (4, _), (5, _)] ⟨rfl, rfl, rfl, rfl, trivial⟩ ?_
 refine nm_thn ?_
 refine ws_seqN AOwn_n7 AOwn_n8 rfl rfl rfl ?_
 refine ws_seqN AOwn_n9 AOwn_n10 rfl rfl rfl ?_
 refine ws_region rfl ?_
 refine wlm 0 1 rfl rfl rfl rfl rfl rfl rfl ?_
 refine wlo 1 2 rfl rfl rfl (wo_run rfl rfl (run_nilCheck rfl rfl) ?_)
 refine wlo 2 3 rfl rfl rfl (wo_run rfl rfl (run_fieldAddr rfl rfl Try.underlying114 rfl (ce51) (nf51)) ?_)
 refine wlo 3 4 rfl rfl rfl (wo_run rfl rfl (run_fieldAddr rfl rfl Try.underlying51 rfl (ce49) (nf49)) ?_)
 refine wlo 4 5 rfl rfl rfl (wo_run rfl rfl (run_load1 rfl rfl Try.underlying49 rfl (hsb.cell S3.m rfl)) ?_)
 refine wlo 5 6 rfl rfl rfl (wo_run rfl rfl (run_len rfl rfl rfl rfl rfl rfl Try.underlying49) ?_)
 refine wlm 6 7 rfl rfl rfl rfl rfl rfl rfl ?_
 refine wl_end rfl ?_
 refine nm_sub [(3, _), (4, _), (5, _), (22, _), (23, _), (24, _)] ⟨rfl, rfl, rfl, rfl, rfl, rfl, trivial⟩ ?_
 refine nm_thn ?_
 refine ws_blockN AOwn_n11 0 rfl rfl rfl ?_
 have S4 := S3.nilrow (cdV 94); clear S3
 refine ws_loopE (fun mx_ ax_ wx_ => ∃ (i : Nat) (wv : List SlV) (wg : List (List (Option Nat))) (wp : List (List (Option Pol))) (vro : Value) (M2 : Hp), M1.le M2 ∧ mx_ = d.crs.length - i ∧ Env 73 [(3, .pointer (some ⟨gb1, 0, none⟩)), (4, .int .i64 (mny d : Int)), (5, vro), (22, .slice cA d.crs.length cc), (23, .int .i64 (d.crs.length : Int)), (24, .int .i64 (i : Int))] ax_ ∧ SH wx_ M2 X [Rs.row (cdV 94) vro wv, Rs.box gb1 36 [.slice A1 (oversL d).length c1]] ∧ i ≤ d.crs.length ∧ wp = ((List.range d.crs.length).take i).map (fun q => (rowL d q).map fW) ∧ Rd2 (cdMap 87) M2 wv wg ∧ WksA (fun _ => 1) M2 wg wp) rfl ?_ ?_
 ·intro ax_ hax_
  refine ⟨_, ⟨0, _, ([]), ([]), _, _, Hp.le_refl _, rfl, hax_.sub ⟨rfl, rfl, rfl, rfl, rfl, rfl, trivial⟩, S4.pick [0, 1] [_, _] (by decide) ⟨rfl, rfl, trivial⟩, ?hq1f0, ?hq1f1, ?hq1f2, ?hq1f3⟩⟩
  case hq1f0 => omega
  case hq1f1 => rfl
  case hq1f2 => exact Rd2.nil_
  case hq1f3 => exact (WksA.nil_ _ _)
 ·rintro m1 a1 w4 ⟨i, wv, wg, wp, vro, M2, hle2, rfl, he1, S5, hi, hwp, hw2, hw3⟩
  clear S4
  refine ws_in he1 (c := AOwn_n12) rfl ?_
  clear he1 a1
  replace hsb := hsb.mono hle2
  replace hsc := hsc.mono hle2
  replace hsi := hsi.mono hle2
  replace hso := hso.mono hle2
  replace hr1 := hr1.mono hle2
  have hw21 := hw2.1
  have hw31 := hw3.1
  have hwl : wp.length = i := by rw [hwp, List.length_map, List.length_take, List.length_range]; omega
  have hba := fun h => arcAt_bd hab (i := i) h (k := 0) (by omega)
  have hbb := fun h => arcAt_bd hab (i := i) h (k := 1) (by omega)
  have hbc := fun h => arcAt_bd hab (i := i) h (k := 2) (by omega)
  refine ws_seqN AOwn_n13 AOwn_n14 rfl rfl rfl ?_
  refine ws_region rfl ?_
  refine wlo 0 1 rfl rfl rfl (wo_run rfl rfl (run_lss rfl rfl rfl) ?_)
  refine wl_end rfl ?_
  refine nm_thn ?_
  refine ws_seqN AOwn_n15 AOwn_n16 rfl rfl rfl ?_
  refine ws_condN AOwn_n17 AOwn_n18 rfl rfl rfl rfl (fun hb25 => ?_) (fun hb25 => ?_)
  ·have hb25 := of_decide_eq_true hb25
   refine ws_skip rfl ?_
   refine nm_sub [(3, _), (4, _), (5, _), (22, _), (23, _), (24, _)] ⟨rfl, rfl, rfl, rfl, rfl, rfl, trivial⟩ ?_
   refine nm_thn ?_
   refine ws_seqN AOwn_n19 AOwn_n20 rfl rfl rfl ?_
   refine ws_blockN AOwn_n21 1 rfl rfl rfl ?_
   refine ws_seqN AOwn_n22 AOwn_n23 rfl rfl rfl ?_
   refine ws_region rfl ?_
   refine wlo 0 1 rfl rfl rfl (wo_run rfl rfl (run_indexM (C := cdCr) i rfl rfl rfl sl49 (by first | rfl | omega) hsc (by first | omega | (simp only [lens]; omega))) ?_)
   refine wlo 1 2 rfl rfl rfl (wo_run rfl rfl (run_loadN (us := [_, _, _, _, _]) rfl rfl Try.underlying111 rfl sz111 (hsc.cellsAt S5.m (e := i) (by first | omega | (simp only [lens]; omega)) (j := 0) ⟨rfl, rfl, rfl, rfl, rfl, trivial⟩)) ?_)
   refine wlo 2 3 rfl rfl rfl (wo_alloc (l := [_, _, _, _, _]) rfl rfl rfl zr111 rfl S5 ?_)
   intro gb2 w5 S6; clear S5
   refine wlo 3 4 rfl rfl rfl (wo_storeB (i := 0) (us := [_, _, _, _, _]) (l' := [_, _, _, _, _]) (H' := [_, _, _]) rfl rfl S6 rfl rfl rfl rfl sz111 rfl rfl rfl rfl ?_)
   intro w6 S7; clear S6
   refine wl_end rfl ?_
   refine nm_sub [(3, _), (4, _), (5, _), (22, _), (23, _), (24, _), (7, _)] ⟨rfl, rfl, rfl, rfl, rfl, rfl, rfl, trivial⟩ ?_
   refine nm_thn ?_
   refine ws_seqN AOwn_n24 AOwn_n25 rfl rfl rfl ?_
   refine ws_region rfl ?_
   refine wlm 0 1 rfl rfl rfl rfl rfl rfl rfl ?_
   refine wlo 1 2 rfl rfl rfl (wo_make (C := (cdMap 87)) (mny d) rfl rfl rfl rfl rfl sl94 (by first | rfl | omega) (by show _ * 8 ≤ _; first | omega | (simp only [lens]; omega)) S7 ?_)
   intro vr2 w7 S8; clear S7
   have hd1 : Wks (fun _ => 1) M2 (List.replicate (mny d) ((cdMap 87)).z) (List.replicate (mny d) none) := Wks.rep _ _ _
   refine wlo 2 3 rfl rfl rfl (wo_alloc (l := [_]) rfl rfl rfl zr94 rfl S8 ?_)
   intro gb3 w8 S9; clear S8
   refine wlo 3 4 rfl rfl rfl (wo_storeB (i := 0) (us := [_]) (l' := [_]) (H' := [_, _, _, _, _]) rfl rfl S9 rfl rfl rfl (S9.cells1 (i := 1) rfl) sz94 rfl (ones_cons (S9.one (i := 1) rfl) rfl) rfl rfl ?_)
   intro w9 S10; clear S9
   refine wl_end rfl ?_
   refine nm_sub [(3, _), (4, _), (5, _), (22, _), (23, _), (24, _), (7, _), (8, _)] ⟨rfl, rfl, rfl, rfl, rfl, rfl, rfl, rfl, trivial⟩ ?_
   refine nm_thn ?_
   refine ws_seqN AOwn_n26 AOwn_n27 rfl rfl rfl ?_
   refine ws_seqN AOwn_n28 AOwn_n29 rfl rfl rfl ?_
   refine ws_region rfl ?_
   refine wlo 0 1 rfl rfl rfl (wo_run rfl rfl (run_load1 rfl rfl Try.underlying94 rfl (S10.boxc (i := 0) rfl rfl)) ?_)
   refine wlo 1 2 rfl rfl rfl (wo_run rfl rfl (run_lenR (C := (cdMap 87)) (i := 1) rfl rfl rfl rfl rfl rfl sl94 S10 rfl) ?_)
   refine wl_eq 31 (.int .i64 (mny d : Int)) rfl (int_eq (by rw [List.length_replicate])) ?_
   refine wlm 2 3 rfl rfl rfl rfl rfl rfl rfl ?_
   refine wl_end rfl ?_
   refine nm_sub [(3, _), (4, _), (5, _), (22, _), (23, _), (24, _), (7, _), (8, _), (31, _), (32, _)] ⟨rfl, rfl, rfl, rfl, rfl, rfl, rfl, rfl, rfl, rfl, trivial⟩ ?_
   refine nm_thn ?_
   refine ws_blockN AOwn_n30 2 rfl rfl rfl ?_
   refine ws_loopE (fun mx_ ax_ wx_ => ∃ (j : Nat) (lg : List (Option Nat)) (lp : List (Option Pol)) (vrl : Value) (M3 : Hp), M2.le M3 ∧ mx_ = mny d - j ∧ Env 73 [(3, .pointer (some ⟨gb1, 0, none⟩)), (4, .int .i64 (mny d : Int)), (5, vro), (22, .slice cA d.crs.length cc), (23, .int .i64 (d.crs.length : Int)), (24, .int .i64 (i : Int)), (7, .pointer (some ⟨gb2, 0, none⟩)), (8, .pointer (some ⟨gb3, 0, none⟩)), (31, .int .i64 (mny d : Int)), (32, .int .i64 (j : Int))] ax_ ∧ SH wx_ M3 X [Rs.box gb3 94 [vrl], Rs.row (cdMap 87) vrl lg, Rs.box gb2 111 [.int .i64 ((ga d.crs i).a), .int .i64 ((ga d.crs i).b), .int .i64 ((ga d.crs i).c), .int .i64 ((ga d.crs i).d), .bool ((ga d.crs i).plus)], Rs.row (cdV 94) vro wv, Rs.box gb1 36 [.slice A1 (oversL d).length c1]] ∧ j ≤ mny d ∧ lp = List.replicate j (some Pol.o) ++ List.replicate (mny d - j) none ∧ Wks (fun _ => 1) M3 lg lp) rfl ?_ ?_
   ·intro ax_ hax_
    refine ⟨_, ⟨0, _, (List.replicate (mny d) none), _, _, Hp.le_refl _, rfl, hax_.sub ⟨rfl, rfl, rfl, rfl, rfl, rfl, rfl, rfl, rfl, rfl, trivial⟩, S10.pick [0, 1, 2, 3, 4] [_, _, _, _, _] (by decide) ⟨rfl, rfl, rfl, rfl, rfl, trivial⟩, ?hq2f0, ?hq2f1, ?hq2f2⟩⟩
    case hq2f0 => omega
    case hq2f1 => simp
    case hq2f2 => exact hd1
   ·rintro m2 a2 w10 ⟨j, lg, lp, vrl, M3, hle3, rfl, he2, S11, hj, hlp, hl2⟩
    clear S10
    refine ws_in he2 (c := AOwn_n31) rfl ?_
    clear he2 a2
    replace hsb := hsb.mono hle3
    replace hsc := hsc.mono hle3
    replace hsi := hsi.mono hle3
    replace hso := hso.mono hle3
    replace hr1 := hr1.mono hle3
    replace hw2 := hw2.mono hle3
    replace hw3 := hw3.mono hle3
    replace hd1 := hd1.mono hle3
    have hl21 := hl2.1
    have hll : lp.length = mny d := by rw [hlp]; simp; omega
    refine ws_seqN AOwn_n32 AOwn_n33 rfl rfl rfl ?_
    refine ws_region rfl ?_
    refine wlo 0 1 rfl rfl rfl (wo_run rfl rfl (run_lss rfl rfl rfl) ?_)
    refine wl_end rfl ?_
    refine nm_thn ?_
    refine ws_seqN AOwn_n34 AOwn_n35 rfl rfl rfl ?_
    refine ws_condN AOwn_n36 AOwn_n37 rfl rfl rfl rfl (fun hb33 => ?_) (fun hb33 => ?_)
    ·have hb33 := of_decide_eq_true hb33
     refine ws_skip rfl ?_
     refine nm_sub [(3, _), (4, _), (5, _), (22, _), (23, _), (24, _), (7, _), (8, _), (31, _), (32, _)] ⟨rfl, rfl, rfl, rfl, rfl, rfl, rfl, rfl, rfl, rfl, trivial⟩ ?_
     refine nm_thn ?_
     refine ws_seqN AOwn_n38 AOwn_n39 rfl rfl rfl ?_
     refine ws_blockN AOwn_n40 3 rfl rfl rfl ?_
     refine ws_seqN AOwn_n41 AOwn_n42 rfl rfl rfl ?_
     refine ws_region rfl ?_
     refine wlm 0 1 rfl rfl rfl rfl rfl rfl rfl ?_
     refine wla 1 2 rfl rfl rfl rfl rfl rfl rfl ?_
     refine wl_end rfl ?_
     refine nm_sub [(3, _), (4, _), (5, _), (22, _), (23, _), (24, _), (7, _), (8, _), (31, _), (32, _), (9, _)] ⟨rfl, rfl, rfl, rfl, rfl, rfl, rfl, rfl, rfl, rfl, rfl, trivial⟩ ?_
     refine nm_thn ?_
     refine ws_region rfl ?_
     refine wlo 0 1 rfl rfl rfl (wo_run rfl rfl (run_load1 rfl rfl Try.underlying94 rfl (S11.boxc (i := 0) rfl rfl)) ?_)
     refine wlm 1 2 rfl rfl rfl rfl rfl rfl rfl ?_
     refine wlo 2 3 rfl rfl rfl (wo_makeMap Int Int (Value.int .i64) (Value.int .i64) rfl rfl rfl S11 ?_)
     intro gm3 w11 S12; clear S11
     refine wlo 3 4 rfl rfl rfl (wo_run rfl rfl (run_indexR (C := (cdMap 87)) (i := 2) j rfl rfl rfl sl94 S12 rfl (by first | rfl | omega) (by first | omega | (simp only [lens]; omega))) ?_)
     obtain ⟨M4, hle4, S14, hm1⟩ := S12.pubmap (i := 0) (H' := [_, _, _, _, _, _]) rfl rfl; clear S12
     replace hsb := hsb.mono hle4
     replace hsc := hsc.mono hle4
     replace hsi := hsi.mono hle4
     replace hso := hso.mono hle4
     replace hr1 := hr1.mono hle4
     replace hw2 := hw2.mono hle4
     replace hw3 := hw3.mono hle4
     replace hd1 := hd1.mono hle4
     replace hl2 := hl2.mono hle4
     have hw1 : Wk M4 gm3 (0) (mk ([])) := ⟨_, hm1, (Ents.nil_ 0), rfl⟩
     have hw2 : Wk M4 gm3 0 Pol.o := by rw [show Pol.o = (mk ([])) from rfl]; exact hw1
     refine wlo 4 5 rfl rfl rfl (wo_storeR (C := (cdMap 87)) (i := 2) (e := j) (j := 0) (us := [_]) (H' := [_, _, _, _, _, _]) (some gm3) rfl rfl S14 rfl (by first | omega | (simp only [lens]; omega)) rfl rfl rfl sz87 rfl rfl rfl rfl ?_)
     intro w13 S15; clear S14
     have hd2 := hl2.set_ (i := j) (hw2.up (by omega)) (by first | omega | (simp only [lens]; omega))
     refine wl_end rfl ?_
     refine nm_blk ?_
     refine nm_sub [(3, _), (4, _), (5, _), (22, _), (23, _), (24, _), (7, _), (8, _), (31, _), (32, _)] ⟨rfl, rfl, rfl, rfl, rfl, rfl, rfl, rfl, rfl, rfl, trivial⟩ ?_
     refine nm_thn ?_
     refine ws_region rfl ?_
     refine wlo 0 1 rfl rfl rfl (wo_run rfl rfl (run_add rfl rfl rfl (by first | omega | (simp only [lens]; omega))) ?_)
     refine wlm 1 2 rfl rfl rfl rfl rfl rfl rfl ?_
     refine wl_end rfl ?_
     refine nm_lp ?_
     intro ax_ hax_
     refine ⟨_, ?hq3m, ⟨j + 1, _, (lp.set j (some Pol.o)), _, _, (hle3.trans hle4), rfl, hax_.sub ⟨rfl, rfl, rfl, rfl, rfl, rfl, rfl, rfl, rfl, rfl, trivial⟩, S15.pick [1, 2, 3, 4, 5] [_, _, _, _, _] (by decide) ⟨rfl, rfl, rfl, rfl, rfl, trivial⟩, ?hq3f0, ?hq3f1, ?hq3f2⟩⟩
     case hq3f0 => omega
     case hq3f1 => (rw [hlp]; exact rep_set _ _ _ _ (by omega))
     case hq3f2 => exact hd2
     case hq3m => omega
    ·have hb33 := of_decide_eq_false hb33
     refine ws_exit rfl rfl ?_
     refine nm_sub [(3, _), (4, _), (5, _), (22, _), (23, _), (24, _), (7, _), (8, _)] ⟨rfl, rfl, rfl, rfl, rfl, rfl, rfl, rfl, trivial⟩ ?_
     refine nm_thn ?_
     refine ws_seqN AOwn_n43 AOwn_n44 rfl rfl rfl ?_
     obtain rfl : j = mny d := by omega
     rw [Nat.sub_self, List.replicate_zero, List.append_nil, rep_fW] at hlp
     subst hlp
     obtain ⟨ha1, ha2⟩ := hba (by omega)
     obtain ⟨hb1, hb2⟩ := hbb (by omega)
     obtain ⟨hc1, hc2⟩ := hbc (by omega)
     change 1 ≤ (ga d.crs i).a at ha1
     change (ga d.crs i).a ≤ _ at ha2
     change 1 ≤ (ga d.crs i).b at hb1
     change (ga d.crs i).b ≤ _ at hb2
     change 1 ≤ (ga d.crs i).c at hc1
     change (ga d.crs i).c ≤ _ at hc2
     refine ws_region rfl ?_
     refine wlo 0 1 rfl rfl rfl (wo_run rfl rfl (run_makeFunc (vs := [_, _]) rfl rfl rfl rfl) ?_)
     refine wla 1 2 rfl rfl rfl rfl rfl rfl rfl ?_
     refine wl_end rfl ?_
     refine nm_sub [(3, _), (4, _), (5, _), (22, _), (23, _), (24, _), (7, _), (8, _), (10, _)] ⟨rfl, rfl, rfl, rfl, rfl, rfl, rfl, rfl, rfl, trivial⟩ ?_
     refine nm_thn ?_
     refine ws_seqN AOwn_n45 AOwn_n46 rfl rfl rfl ?_
     refine ws_draw rfl (by kernel_rfl) S11 6 rfl ?_
     clear S11
     refine wa_takeP (i := 0) (d := 41) 5 rfl (by kernel_rfl) (by kernel_rfl) (by kernel_rfl) rfl rfl rfl (fun w14 => run_fieldAddr rfl rfl Try.underlying111 rfl (ce3) (nf3)) ?_
     refine wa_take (i := 1) (d := 42) 4 rfl (by kernel_rfl) (by kernel_rfl) (by kernel_rfl) rfl rfl rfl (fun M6 N2 w15 hle6 S17 => .inl (run_load1 rfl rfl Try.underlying3 rfl (S17.suf.boxc (i := 2) rfl rfl))) ?_
     refine wa_takeP (i := 2) (d := 43) 3 rfl (by kernel_rfl) (by kernel_rfl) (by kernel_rfl) rfl rfl rfl (fun w16 => run_fieldAddr rfl rfl Try.underlying111 rfl (ce3) (nf3)) ?_
     refine wa_take (i := 3) (d := 44) 2 rfl (by kernel_rfl) (by kernel_rfl) (by kernel_rfl) rfl rfl rfl (fun M8 N4 w17 hle8 S19 => .inl (run_load1 rfl rfl Try.underlying3 rfl (S19.suf.boxc (i := 2) rfl rfl))) ?_
     refine wa_takeP (i := 4) (d := 11) 1 rfl (by kernel_rfl) (by kernel_rfl) (by kernel_rfl) rfl rfl rfl (fun w18 => run_assign rfl rfl) ?_
     refine wa_takeP (i := 5) (d := 12) 0 rfl (by kernel_rfl) (by kernel_rfl) (by kernel_rfl) rfl rfl rfl (fun w19 => run_assign rfl rfl) ?_
     refine wa_end (by kernel_rfl) (fun w20 S22 => ?_)
     refine nm_sub [(3, _), (4, _), (5, _), (22, _), (23, _), (24, _), (7, _), (8, _), (10, _), (11, _), (12, _)] ⟨rfl, rfl, rfl, rfl, rfl, rfl, rfl, rfl, rfl, rfl, rfl, trivial⟩ ?_
     refine nm_thn ?_
     refine ws_seqN AOwn_n47 AOwn_n48 rfl rfl rfl ?_
     refine ws_seqN AOwn_n49 AOwn_n50 rfl rfl rfl ?_
     refine ws_region rfl ?_
     refine wlo 0 1 rfl rfl rfl (wo_run rfl rfl (run_fieldAddr rfl rfl Try.underlying111 rfl (ce4) (nf4)) ?_)
     refine wlo 1 2 rfl rfl rfl (wo_run rfl rfl (run_load1 rfl rfl Try.underlying4 rfl (S22.boxc (i := 2) rfl rfl)) ?_)
     refine wlo 2 3 rfl rfl rfl (wo_run rfl rfl (run_not rfl rfl) ?_)
     refine wl_end rfl ?_
     refine nm_sub [(3, _), (4, _), (5, _), (22, _), (23, _), (24, _), (7, _), (8, _), (10, _), (11, _), (12, _), (47, _)] ⟨rfl, rfl, rfl, rfl, rfl, rfl, rfl, rfl, rfl, rfl, rfl, rfl, trivial⟩ ?_
     refine nm_thn ?_
     refine ws_condN AOwn_n51 AOwn_n52 rfl rfl rfl rfl (fun hb47 => ?_) (fun hb47 => ?_)
     ·simp only [Bool.and_eq_true, Bool.or_eq_true, Bool.and_eq_false_iff, Bool.or_eq_false_iff, decide_eq_true_eq, decide_eq_false_iff_not, Bool.not_eq_true', Bool.not_eq_false'] at hb47
      have hin : inA (ga d.crs i) = (ga d.crs i).c := by unfold inA; simp [*]
      have hto : toA (ga d.crs i) = (ga d.crs i).a := by unfold toA; simp [*]
      refine ws_region rfl ?_
      refine wlm 0 1 rfl rfl rfl rfl rfl rfl rfl ?_
      refine wlm 1 2 rfl rfl rfl rfl rfl rfl rfl ?_
      refine wla 2 3 rfl rfl rfl rfl rfl rfl rfl ?_
      refine wla 3 4 rfl rfl rfl rfl rfl rfl rfl ?_
      refine wl_end rfl ?_
      refine nm_sub [(3, _), (4, _), (5, _), (22, _), (23, _), (24, _), (7, _), (8, _), (10, _), (11, _), (12, _)] ⟨rfl, rfl, rfl, rfl, rfl, rfl, rfl, rfl, rfl, rfl, rfl, trivial⟩ ?_
      refine nm_thn ?_
      refine ws_seqN AOwn_n53 AOwn_n54 rfl rfl rfl ?_
      refine ws_region rfl ?_
      refine wlm 0 1 rfl rfl rfl rfl rfl rfl rfl ?_
      refine wlm 1 2 rfl rfl rfl rfl rfl rfl rfl ?_
      refine wlo 2 3 rfl rfl rfl (wo_run rfl rfl (run_build (l := [_, _]) rfl rfl st89 rfl rfl) ?_)
      refine wlo 3 4 rfl rfl rfl (wo_buildSlice1 (C := cdTm) (l := [_, _]) rfl rfl rfl rfl sl22 rfl rfl rfl rfl S22 ?_)
      intro gb4 w21 S23; clear S22
      have S24 := S23.pick [1, 2, 5, 0, 3, 4] [_, _, _, _, _, _] (by decide) ⟨rfl, rfl, rfl, rfl, rfl, rfl, trivial⟩; clear S23
      have S25 : SH _ _ _ (Rs.bun [_, _, _] :: [_, _, _]) := SH.bunC (A := [_, _, _]) (B := [_, _, _]) S24; clear S24
      have S26 : SH _ _ _ [_, _, _, _] := S25.less (i := 0) rfl
      have hr2 := S26.lendBox (C := cdTm) (z := (⟨0, 1⟩ : Tm)) (i := 1) rfl rfl (by decide)
      obtain ⟨hk1, hk2, hk3, hk4, hk5⟩ := kO_ok hab (a := (ga d.crs i).a) (by omega)
      have hcall1 := AAdd_b ((ga d.crs i).a) ([(⟨0, 1⟩ : Tm)]) (List.map fW (List.replicate (mny d) [])) (oversL d) hr2 hl2 (hr1.mono (Hp.le_un _ _)) (mk (pr (ga (List.replicate (mny d) []) (kO d ((ga d.crs i).a))))) ⟨hk1, hk2⟩ hk3 (by rw [hk4]; have := hl2.1; rw [List.length_map, List.length_replicate] at this; omega) (by rw [hk4]; exact fW_ga _ (by rw [List.length_replicate]; exact hk5)) (bdT (by simp)) (S25.lend1 (i := 0) rfl); clear S26
      refine wlo 4 5 rfl rfl rfl (wo_c1F (i := 0) rfl rfl rfl rfl rfl rfl rfl cf113 S25 rfl hcall1 ?_)
      intro vw22 w22 M11 rw22 hle11 S27 hR1; clear S25
      replace hsb := hsb.mono hle11
      replace hsc := hsc.mono hle11
      replace hsi := hsi.mono hle11
      replace hso := hso.mono hle11
      replace hr1 := hr1.mono hle11
      replace hw2 := hw2.mono hle11
      replace hw3 := hw3.mono hle11
      replace hd1 := hd1.mono hle11
      replace hl2 := hl2.mono hle11
      obtain ⟨rfl, gsw22, hglw22, hgww22, rfl⟩ := hR1
      replace S27 : SH _ _ _ (Rs.bun [_, _, _] :: [_, _, _]) := S27
      have S28 : SH _ _ _ [_, _, _, _, _, _] := SH.unbunC (A := [_, _, _]) (B := [_, _, _]) S27; clear S27
      rw [hk4, putA_map] at hgww22
      clear hk1 hk2 hk3 hk4 hk5
      replace hgww22 : Wks (fun _ => 1) M11 gsw22 (List.map fW (row1 d i)) := by first | exact hgww22 | (unfold row1; rw [hto]; exact hgww22) | (unfold row2; rw [hin]; exact hgww22)
      refine wl_end rfl ?_
      refine nm_sub [(3, _), (4, _), (5, _), (22, _), (23, _), (24, _), (7, _), (8, _), (10, _), (11, _)] ⟨rfl, rfl, rfl, rfl, rfl, rfl, rfl, rfl, rfl, rfl, trivial⟩ ?_
      refine nm_thn ?_
      refine ws_seqN AOwn_n55 AOwn_n56 rfl rfl rfl ?_
      refine ws_region rfl ?_
      refine wlm 0 1 rfl rfl rfl rfl rfl rfl rfl ?_
      refine wlm 1 2 rfl rfl rfl rfl rfl rfl rfl ?_
      refine wlo 2 3 rfl rfl rfl (wo_run rfl rfl (run_build (l := [_, _]) rfl rfl st89 rfl rfl) ?_)
      refine wlo 3 4 rfl rfl rfl (wo_buildSlice1 (C := cdTm) (l := [_, _]) rfl rfl rfl rfl sl22 rfl rfl rfl rfl S28 ?_)
      intro gb5 w23 S29; clear S28
      have S30 := S29.pick [1, 2, 3, 0, 4, 5, 6] [_, _, _, _, _, _, _] (by decide) ⟨rfl, rfl, rfl, rfl, rfl, rfl, rfl, trivial⟩; clear S29
      have S31 : SH _ _ _ (Rs.bun [_, _, _] :: [_, _, _, _]) := SH.bunC (A := [_, _, _]) (B := [_, _, _, _]) S30; clear S30
      have S32 : SH _ _ _ [_, _, _, _, _] := S31.less (i := 0) rfl
      have hr3 := S32.lendBox (C := cdTm) (z := (⟨1, (-1)⟩ : Tm)) (i := 1) rfl rfl (by decide)
      obtain ⟨hk1, hk2, hk3, hk4, hk5⟩ := kO_ok hab (a := (ga d.crs i).c) (by omega)
      have hcall2 := AAdd_b ((ga d.crs i).c) ([(⟨1, (-1)⟩ : Tm)]) (List.map fW (row1 d i)) (oversL d) hr3 hgww22 (hr1.mono (Hp.le_un _ _)) (mk (pr (ga (row1 d i) (kO d ((ga d.crs i).c))))) ⟨hk1, hk2⟩ hk3 (by rw [hk4]; have := hgww22.1; rw [List.length_map, row1_len] at this; omega) (by rw [hk4]; exact fW_ga _ (by rw [row1_len]; exact hk5)) (bdT (by simp)) (S31.lend1 (i := 0) rfl); clear S32
      refine wlo 4 5 rfl rfl rfl (wo_c1F (i := 0) rfl rfl rfl rfl rfl rfl rfl cf113 S31 rfl hcall2 ?_)
      intro vw24 w24 M12 rw24 hle12 S33 hR2; clear S31
      replace hsb := hsb.mono hle12
      replace hsc := hsc.mono hle12
      replace hsi := hsi.mono hle12
      replace hso := hso.mono hle12
      replace hr1 := hr1.mono hle12
      replace hw2 := hw2.mono hle12
      replace hw3 := hw3.mono hle12
      replace hd1 := hd1.mono hle12
      replace hl2 := hl2.mono hle12
      replace hgww22 := hgww22.mono hle12
      obtain ⟨rfl, gsw24, hglw24, hgww24, rfl⟩ := hR2
      replace S33 : SH _ _ _ (Rs.bun [_, _, _] :: [_, _, _, _]) := S33
      have S34 : SH _ _ _ [_, _, _, _, _, _, _] := SH.unbunC (A := [_, _, _]) (B := [_, _, _, _]) S33; clear S33
      rw [hk4, putA_map] at hgww24
      clear hk1 hk2 hk3 hk4 hk5
      replace hgww24 : Wks (fun _ => 1) M12 gsw24 (List.map fW (row2 d i)) := by first | exact hgww24 | (unfold row1; rw [hto]; exact hgww24) | (unfold row2; rw [hin]; exact hgww24)
      refine wl_end rfl ?_
      refine nm_sub [(3, _), (4, _), (5, _), (22, _), (23, _), (24, _), (7, _), (8, _), (10, _)] ⟨rfl, rfl, rfl, rfl, rfl, rfl, rfl, rfl, rfl, trivial⟩ ?_
      refine nm_thn ?_
      refine ws_seqN AOwn_n57 AOwn_n58 rfl rfl rfl ?_
      refine ws_region rfl ?_
      refine wlm 0 1 rfl rfl rfl rfl rfl rfl rfl ?_
      refine wlo 1 2 rfl rfl rfl (wo_run rfl rfl (run_fieldAddr rfl rfl Try.underlying111 rfl (ce3) (nf3)) ?_)
      refine wlo 2 3 rfl rfl rfl (wo_run rfl rfl (run_load1 rfl rfl Try.underlying3 rfl (S34.boxc (i := 5) rfl rfl)) ?_)
      refine wlo 3 4 rfl rfl rfl (wo_run rfl rfl (run_build (l := [_, _]) rfl rfl st89 rfl rfl) ?_)
      refine wlo 4 5 rfl rfl rfl (wo_run rfl rfl (run_build (l := [_, _]) rfl rfl st89 rfl rfl) ?_)
      refine wlo 5 6 rfl rfl rfl (wo_buildSliceN (C := cdTm) (l := [_, _, _, _]) (pl := [(0, 2), (2, 2)]) rfl rfl rfl rfl sl22 rfl rfl rfl rfl rfl S34 ?_)
      intro gb6 w26 S36; clear S34
      have S37 := S36.pick [1, 2, 3, 0, 4, 5, 6, 7] [_, _, _, _, _, _, _, _] (by decide) ⟨rfl, rfl, rfl, rfl, rfl, rfl, rfl, rfl, trivial⟩; clear S36
      have S38 : SH _ _ _ (Rs.bun [_, _, _] :: [_, _, _, _, _]) := SH.bunC (A := [_, _, _]) (B := [_, _, _, _, _]) S37; clear S37
      have S39 : SH _ _ _ [_, _, _, _, _, _] := S38.less (i := 0) rfl
      have hr4 := S39.lendBoxN (C := cdTm) (zs := [(⟨1, 1⟩ : Tm), (⟨0, (-1)⟩ : Tm)]) (i := 1) rfl rfl (by show 2 * _ ≤ _; decide)
      obtain ⟨hk1, hk2, hk3, hk4, hk5⟩ := kO_ok hab (a := (ga d.crs i).b) (by omega)
      have hcall3 := AAdd_b ((ga d.crs i).b) ([(⟨1, 1⟩ : Tm), (⟨0, (-1)⟩ : Tm)]) (List.map fW (row2 d i)) (oversL d) hr4 hgww24 (hr1.mono (Hp.le_un _ _)) (mk (pr (ga (row2 d i) (kO d ((ga d.crs i).b))))) ⟨hk1, hk2⟩ hk3 (by rw [hk4]; have := hgww24.1; rw [List.length_map, row2_len] at this; omega) (by rw [hk4]; exact fW_ga _ (by rw [row2_len]; exact hk5)) (bdT (by simp)) (S38.lend1 (i := 0) rfl); clear S39
      refine wlo 6 7 rfl rfl rfl (wo_c1F (i := 0) rfl rfl rfl rfl rfl rfl rfl cf113 S38 rfl hcall3 ?_)
      intro vw27 w27 M13 rw27 hle13 S40 hR3; clear S38
      replace hsb := hsb.mono hle13
      replace hsc := hsc.mono hle13
      replace hsi := hsi.mono hle13
      replace hso := hso.mono hle13
      replace hr1 := hr1.mono hle13
      replace hw2 := hw2.mono hle13
      replace hw3 := hw3.mono hle13
      replace hd1 := hd1.mono hle13
      replace hl2 := hl2.mono hle13
      replace hgww22 := hgww22.mono hle13
      replace hgww24 := hgww24.mono hle13
      obtain ⟨rfl, gsw27, hglw27, hgww27, rfl⟩ := hR3
      replace S40 : SH _ _ _ (Rs.bun [_, _, _] :: [_, _, _, _, _]) := S40
      have S41 : SH _ _ _ [_, _, _, _, _, _, _, _] := SH.unbunC (A := [_, _, _]) (B := [_, _, _, _, _]) S40; clear S40
      rw [hk4, putA_map2 _ _ (by rw [row2_len]; exact hk5)] at hgww27
      clear hk1 hk2 hk3 hk4 hk5
      replace hgww27 : Wks (fun _ => 1) M13 gsw27 (List.map fW (rowL d i)) := by first | exact hgww27 | (unfold row1; rw [hto]; exact hgww27) | (unfold row2; rw [hin]; exact hgww27)
      refine wl_end rfl ?_
      refine nm_sub [(3, _), (4, _), (5, _), (22, _), (23, _), (24, _), (8, _)] ⟨rfl, rfl, rfl, rfl, rfl, rfl, rfl, trivial⟩ ?_
      refine nm_thn ?_
      refine ws_region rfl ?_
      refine wlm 0 1 rfl rfl rfl rfl rfl rfl rfl ?_
      refine wlo 1 2 rfl rfl rfl (wo_run rfl rfl (run_load1 rfl rfl Try.underlying94 rfl (S41.boxc (i := 0) rfl rfl)) ?_)
      obtain ⟨M14, hle14, S42, ⟨A2, c2, e1, hr5⟩⟩ := S41.pubrow (i := 1) (H' := [_, _, _, _, _, _, _, _]) rfl rfl (by show _ * 8 ≤ _; first | omega | (simp only [lens]; omega))
      clear S41; subst e1
      replace hsb := hsb.mono hle14
      replace hsc := hsc.mono hle14
      replace hsi := hsi.mono hle14
      replace hso := hso.mono hle14
      replace hr1 := hr1.mono hle14
      replace hw2 := hw2.mono hle14
      replace hw3 := hw3.mono hle14
      replace hd1 := hd1.mono hle14
      replace hl2 := hl2.mono hle14
      replace hgww22 := hgww22.mono hle14
      replace hgww24 := hgww24.mono hle14
      replace hgww27 := hgww27.mono hle14
      refine wlo 2 3 rfl rfl rfl (wo_buildSlice1 (C := (cdV 94)) (l := [_]) rfl rfl rfl rfl sl93 rfl rfl rfl rfl S42 ?_)
      intro gb7 w28 S43; clear S42
      refine wlo 3 4 rfl rfl rfl (wo_append1 (C := (cdV 94)) (i := 8) (q := 0) (⟨A2, gsw27.length, c2⟩ : SlV) rfl rfl rfl rfl rfl rfl rfl rfl sl93 S43 rfl rfl rfl (by show (_ + 1) * 24 ≤ _; first | omega | (simp only [lens]; omega)) ?_)
      intro vro1 w29 S44; clear S43
      have S45 := S44.pick [1, 2, 3, 4, 5, 6, 7, 8] [_, _, _, _, _, _, _, _] (by decide) ⟨rfl, rfl, rfl, rfl, rfl, rfl, rfl, rfl, trivial⟩; clear S44
      have hd3 := hw2.snoc (c := c2) hr5
      have hd4 := hw3.snoc hgww27
      refine wla 4 5 rfl rfl rfl rfl rfl rfl rfl ?_
      refine wl_end rfl ?_
      refine nm_blk ?_
      refine nm_sub [(3, _), (4, _), (5, _), (22, _), (23, _), (24, _)] ⟨rfl, rfl, rfl, rfl, rfl, rfl, trivial⟩ ?_
      refine nm_thn ?_
      refine ws_region rfl ?_
      refine wlo 0 1 rfl rfl rfl (wo_run rfl rfl (run_add rfl rfl rfl (by first | omega | (simp only [lens]; omega))) ?_)
      refine wlm 1 2 rfl rfl rfl rfl rfl rfl rfl ?_
      refine wl_end rfl ?_
      refine nm_lp ?_
      intro ax_ hax_
      refine ⟨_, ?hq4m, ⟨i + 1, _, (wg ++ [gsw27]), (wp ++ [List.map fW (rowL d i)]), _, _, (((((hle2.trans hle3).trans hle11).trans hle12).trans hle13).trans hle14), rfl, hax_.sub ⟨rfl, rfl, rfl, rfl, rfl, rfl, trivial⟩, S45.pick [7, 2] [_, _] (by decide) ⟨rfl, rfl, trivial⟩, ?hq4f0, ?hq4f1, ?hq4f2, ?hq4f3⟩⟩
      case hq4f0 => omega
      case hq4f1 => (rw [hwp, take_ga (List.range d.crs.length) i (by rw [List.length_range]; omega), List.map_append]; refine congrArg _ ?_; rw [show ga (List.range d.crs.length) i = i by rw [ga_eq (by rw [List.length_range]; omega)]; simp]; rfl)
      case hq4f2 => exact hd3
      case hq4f3 => exact hd4
      case hq4m => omega
     ·simp only [Bool.and_eq_true, Bool.or_eq_true, Bool.and_eq_false_iff, Bool.or_eq_false_iff, decide_eq_true_eq, decide_eq_false_iff_not, Bool.not_eq_true', Bool.not_eq_false'] at hb47
      have hin : inA (ga d.crs i) = (ga d.crs i).a := by unfold inA; simp [*]
      have hto : toA (ga d.crs i) = (ga d.crs i).c := by unfold toA; simp [*]
      refine ws_skip rfl ?_
      refine nm_sub [(3, _), (4, _), (5, _), (22, _), (23, _), (24, _), (7, _), (8, _), (10, _), (11, _), (12, _)] ⟨rfl, rfl, rfl, rfl, rfl, rfl, rfl, rfl, rfl, rfl, rfl, trivial⟩ ?_
      refine nm_thn ?_
      refine ws_seqN AOwn_n53 AOwn_n54 rfl rfl rfl ?_
      refine ws_region rfl ?_
      refine wlm 0 1 rfl rfl rfl rfl rfl rfl rfl ?_
      refine wlm 1 2 rfl rfl rfl rfl rfl rfl rfl ?_
      refine wlo 2 3 rfl rfl rfl (wo_run rfl rfl (run_build (l := [_, _]) rfl rfl st89 rfl rfl) ?_)
      refine wlo 3 4 rfl rfl rfl (wo_buildSlice1 (C := cdTm) (l := [_, _]) rfl rfl rfl rfl sl22 rfl rfl rfl rfl S22 ?_)
      intro gb8 w30 S46; clear S22
      have S47 := S46.pick [1, 2, 5, 0, 3, 4] [_, _, _, _, _, _] (by decide) ⟨rfl, rfl, rfl, rfl, rfl, rfl, trivial⟩; clear S46
      have S48 : SH _ _ _ (Rs.bun [_, _, _] :: [_, _, _]) := SH.bunC (A := [_, _, _]) (B := [_, _, _]) S47; clear S47
      have S49 : SH _ _ _ [_, _, _, _] := S48.less (i := 0) rfl
      have hr6 := S49.lendBox (C := cdTm) (z := (⟨0, 1⟩ : Tm)) (i := 1) rfl rfl (by decide)
      obtain ⟨hk1, hk2, hk3, hk4, hk5⟩ := kO_ok hab (a := (ga d.crs i).c) (by omega)
      have hcall4 := AAdd_b ((ga d.crs i).c) ([(⟨0, 1⟩ : Tm)]) (List.map fW (List.replicate (mny d) [])) (oversL d) hr6 hl2 (hr1.mono (Hp.le_un _ _)) (mk (pr (ga (List.replicate (mny d) []) (kO d ((ga d.crs i).c))))) ⟨hk1, hk2⟩ hk3 (by rw [hk4]; have := hl2.1; rw [List.length_map, List.length_replicate] at this; omega) (by rw [hk4]; exact fW_ga _ (by rw [List.length_replicate]; exact hk5)) (bdT (by simp)) (S48.lend1 (i := 0) rfl); clear S49
      refine wlo 4 5 rfl rfl rfl (wo_c1F (i := 0) rfl rfl rfl rfl rfl rfl rfl cf113 S48 rfl hcall4 ?_)
      intro vw31 w31 M15 rw31 hle15 S50 hR4; clear S48
      replace hsb := hsb.mono hle15
      replace hsc := hsc.mono hle15
      replace hsi := hsi.mono hle15
      replace hso := hso.mono hle15
      replace hr1 := hr1.mono hle15
      replace hw2 := hw2.mono hle15
      replace hw3 := hw3.mono hle15
      replace hd1 := hd1.mono hle15
      replace hl2 := hl2.mono hle15
      obtain ⟨rfl, gsw31, hglw31, hgww31, rfl⟩ := hR4
      replace S50 : SH _ _ _ (Rs.bun [_, _, _] :: [_, _, _]) := S50
      have S51 : SH _ _ _ [_, _, _, _, _, _] := SH.unbunC (A := [_, _, _]) (B := [_, _, _]) S50; clear S50
      rw [hk4, putA_map] at hgww31
      clear hk1 hk2 hk3 hk4 hk5
      replace hgww31 : Wks (fun _ => 1) M15 gsw31 (List.map fW (row1 d i)) := by first | exact hgww31 | (unfold row1; rw [hto]; exact hgww31) | (unfold row2; rw [hin]; exact hgww31)
      refine wl_end rfl ?_
      refine nm_sub [(3, _), (4, _), (5, _), (22, _), (23, _), (24, _), (7, _), (8, _), (10, _), (11, _)] ⟨rfl, rfl, rfl, rfl, rfl, rfl, rfl, rfl, rfl, rfl, trivial⟩ ?_
      refine nm_thn ?_
      refine ws_seqN AOwn_n55 AOwn_n56 rfl rfl rfl ?_
      refine ws_region rfl ?_
      refine wlm 0 1 rfl rfl rfl rfl rfl rfl rfl ?_
      refine wlm 1 2 rfl rfl rfl rfl rfl rfl rfl ?_
      refine wlo 2 3 rfl rfl rfl (wo_run rfl rfl (run_build (l := [_, _]) rfl rfl st89 rfl rfl) ?_)
      refine wlo 3 4 rfl rfl rfl (wo_buildSlice1 (C := cdTm) (l := [_, _]) rfl rfl rfl rfl sl22 rfl rfl rfl rfl S51 ?_)
      intro gb9 w32 S52; clear S51
      have S53 := S52.pick [1, 2, 3, 0, 4, 5, 6] [_, _, _, _, _, _, _] (by decide) ⟨rfl, rfl, rfl, rfl, rfl, rfl, rfl, trivial⟩; clear S52
      have S54 : SH _ _ _ (Rs.bun [_, _, _] :: [_, _, _, _]) := SH.bunC (A := [_, _, _]) (B := [_, _, _, _]) S53; clear S53
      have S55 : SH _ _ _ [_, _, _, _, _] := S54.less (i := 0) rfl
      have hr7 := S55.lendBox (C := cdTm) (z := (⟨1, (-1)⟩ : Tm)) (i := 1) rfl rfl (by decide)
      obtain ⟨hk1, hk2, hk3, hk4, hk5⟩ := kO_ok hab (a := (ga d.crs i).a) (by omega)
      have hcall5 := AAdd_b ((ga d.crs i).a) ([(⟨1, (-1)⟩ : Tm)]) (List.map fW (row1 d i)) (oversL d) hr7 hgww31 (hr1.mono (Hp.le_un _ _)) (mk (pr (ga (row1 d i) (kO d ((ga d.crs i).a))))) ⟨hk1, hk2⟩ hk3 (by rw [hk4]; have := hgww31.1; rw [List.length_map, row1_len] at this; omega) (by rw [hk4]; exact fW_ga _ (by rw [row1_len]; exact hk5)) (bdT (by simp)) (S54.lend1 (i := 0) rfl); clear S55
      refine wlo 4 5 rfl rfl rfl (wo_c1F (i := 0) rfl rfl rfl rfl rfl rfl rfl cf113 S54 rfl hcall5 ?_)
      intro vw33 w33 M16 rw33 hle16 S56 hR5; clear S54
      replace hsb := hsb.mono hle16
      replace hsc := hsc.mono hle16
      replace hsi := hsi.mono hle16
      replace hso := hso.mono hle16
      replace hr1 := hr1.mono hle16
      replace hw2 := hw2.mono hle16
      replace hw3 := hw3.mono hle16
      replace hd1 := hd1.mono hle16
      replace hl2 := hl2.mono hle16
      replace hgww31 := hgww31.mono hle16
      obtain ⟨rfl, gsw33, hglw33, hgww33, rfl⟩ := hR5
      replace S56 : SH _ _ _ (Rs.bun [_, _, _] :: [_, _, _, _]) := S56
      have S57 : SH _ _ _ [_, _, _, _, _, _, _] := SH.unbunC (A := [_, _, _]) (B := [_, _, _, _]) S56; clear S56
      rw [hk4, putA_map] at hgww33
      clear hk1 hk2 hk3 hk4 hk5
      replace hgww33 : Wks (fun _ => 1) M16 gsw33 (List.map fW (row2 d i)) := by first | exact hgww33 | (unfold row1; rw [hto]; exact hgww33) | (unfold row2; rw [hin]; exact hgww33)
      refine wl_end rfl ?_
      refine nm_sub [(3, _), (4, _), (5, _), (22, _), (23, _), (24, _), (7, _), (8, _), (10, _)] ⟨rfl, rfl, rfl, rfl, rfl, rfl, rfl, rfl, rfl, trivial⟩ ?_
      refine nm_thn ?_
      refine ws_seqN AOwn_n57 AOwn_n58 rfl rfl rfl ?_
      refine ws_region rfl ?_
      refine wlm 0 1 rfl rfl rfl rfl rfl rfl rfl ?_
      refine wlo 1 2 rfl rfl rfl (wo_run rfl rfl (run_fieldAddr rfl rfl Try.underlying111 rfl (ce3) (nf3)) ?_)
      refine wlo 2 3 rfl rfl rfl (wo_run rfl rfl (run_load1 rfl rfl Try.underlying3 rfl (S57.boxc (i := 5) rfl rfl)) ?_)
      refine wlo 3 4 rfl rfl rfl (wo_run rfl rfl (run_build (l := [_, _]) rfl rfl st89 rfl rfl) ?_)
      refine wlo 4 5 rfl rfl rfl (wo_run rfl rfl (run_build (l := [_, _]) rfl rfl st89 rfl rfl) ?_)
      refine wlo 5 6 rfl rfl rfl (wo_buildSliceN (C := cdTm) (l := [_, _, _, _]) (pl := [(0, 2), (2, 2)]) rfl rfl rfl rfl sl22 rfl rfl rfl rfl rfl S57 ?_)
      intro gb10 w35 S59; clear S57
      have S60 := S59.pick [1, 2, 3, 0, 4, 5, 6, 7] [_, _, _, _, _, _, _, _] (by decide) ⟨rfl, rfl, rfl, rfl, rfl, rfl, rfl, rfl, trivial⟩; clear S59
      have S61 : SH _ _ _ (Rs.bun [_, _, _] :: [_, _, _, _, _]) := SH.bunC (A := [_, _, _]) (B := [_, _, _, _, _]) S60; clear S60
      have S62 : SH _ _ _ [_, _, _, _, _, _] := S61.less (i := 0) rfl
      have hr8 := S62.lendBoxN (C := cdTm) (zs := [(⟨1, 1⟩ : Tm), (⟨0, (-1)⟩ : Tm)]) (i := 1) rfl rfl (by show 2 * _ ≤ _; decide)
      obtain ⟨hk1, hk2, hk3, hk4, hk5⟩ := kO_ok hab (a := (ga d.crs i).b) (by omega)
      have hcall6 := AAdd_b ((ga d.crs i).b) ([(⟨1, 1⟩ : Tm), (⟨0, (-1)⟩ : Tm)]) (List.map fW (row2 d i)) (oversL d) hr8 hgww33 (hr1.mono (Hp.le_un _ _)) (mk (pr (ga (row2 d i) (kO d ((ga d.crs i).b))))) ⟨hk1, hk2⟩ hk3 (by rw [hk4]; have := hgww33.1; rw [List.length_map, row2_len] at this; omega) (by rw [hk4]; exact fW_ga _ (by rw [row2_len]; exact hk5)) (bdT (by simp)) (S61.lend1 (i := 0) rfl); clear S62
      refine wlo 6 7 rfl rfl rfl (wo_c1F (i := 0) rfl rfl rfl rfl rfl rfl rfl cf113 S61 rfl hcall6 ?_)
      intro vw36 w36 M17 rw36 hle17 S63 hR6; clear S61
      replace hsb := hsb.mono hle17
      replace hsc := hsc.mono hle17
      replace hsi := hsi.mono hle17
      replace hso := hso.mono hle17
      replace hr1 := hr1.mono hle17
      replace hw2 := hw2.mono hle17
      replace hw3 := hw3.mono hle17
      replace hd1 := hd1.mono hle17
      replace hl2 := hl2.mono hle17
      replace hgww31 := hgww31.mono hle17
      replace hgww33 := hgww33.mono hle17
      obtain ⟨rfl, gsw36, hglw36, hgww36, rfl⟩ := hR6
      replace S63 : SH _ _ _ (Rs.bun [_, _, _] :: [_, _, _, _, _]) := S63
      have S64 : SH _ _ _ [_, _, _, _, _, _, _, _] := SH.unbunC (A := [_, _, _]) (B := [_, _, _, _, _]) S63; clear S63
      rw [hk4, putA_map2 _ _ (by rw [row2_len]; exact hk5)] at hgww36
      clear hk1 hk2 hk3 hk4 hk5
      replace hgww36 : Wks (fun _ => 1) M17 gsw36 (List.map fW (rowL d i)) := by first | exact hgww36 | (unfold row1; rw [hto]; exact hgww36) | (unfold row2; rw [hin]; exact hgww36)
      refine wl_end rfl ?_
      refine nm_sub [(3, _), (4, _), (5, _), (22, _), (23, _), (24, _), (8, _)] ⟨rfl, rfl, rfl, rfl, rfl, rfl, rfl, trivial⟩ ?_
      refine nm_thn ?_
      refine ws_region rfl ?_
      refine wlm 0 1 rfl rfl rfl rfl rfl rfl rfl ?_
      refine wlo 1 2 rfl rfl rfl (wo_run rfl rfl (run_load1 rfl rfl Try.underlying94 rfl (S64.boxc (i := 0) rfl rfl)) ?_)
      obtain ⟨M18, hle18, S65, ⟨A3, c3, e2, hr9⟩⟩ := S64.pubrow (i := 1) (H' := [_, _, _, _, _, _, _, _]) rfl rfl (by show _ * 8 ≤ _; first | omega | (simp only [lens]; omega))
      clear S64; subst e2
      replace hsb := hsb.mono hle18
      replace hsc := hsc.mono hle18
      replace hsi := hsi.mono hle18
      replace hso := hso.mono hle18
      replace hr1 := hr1.mono hle18
      replace hw2 := hw2.mono hle18
      replace hw3 := hw3.mono hle18
      replace hd1 := hd1.mono hle18
      replace hl2 := hl2.mono hle18
      replace hgww31 := hgww31.mono hle18
      replace hgww33 := hgww33.mono hle18
      replace hgww36 := hgww36.mono hle18
      refine wlo 2 3 rfl rfl rfl (wo_buildSlice1 (C := (cdV 94)) (l := [_]) rfl rfl rfl rfl sl93 rfl rfl rfl rfl S65 ?_)
      intro gb11 w37 S66; clear S65
      refine wlo 3 4 rfl rfl rfl (wo_append1 (C := (cdV 94)) (i := 8) (q := 0) (⟨A3, gsw36.length, c3⟩ : SlV) rfl rfl rfl rfl rfl rfl rfl rfl sl93 S66 rfl rfl rfl (by show (_ + 1) * 24 ≤ _; first | omega | (simp only [lens]; omega)) ?_)
      intro vro2 w38 S67; clear S66
      have S68 := S67.pick [1, 2, 3, 4, 5, 6, 7, 8] [_, _, _, _, _, _, _, _] (by decide) ⟨rfl, rfl, rfl, rfl, rfl, rfl, rfl, rfl, trivial⟩; clear S67
      have hd5 := hw2.snoc (c := c3) hr9
      have hd6 := hw3.snoc hgww36
      refine wla 4 5 rfl rfl rfl rfl rfl rfl rfl ?_
      refine wl_end rfl ?_
      refine nm_blk ?_
      refine nm_sub [(3, _), (4, _), (5, _), (22, _), (23, _), (24, _)] ⟨rfl, rfl, rfl, rfl, rfl, rfl, trivial⟩ ?_
      refine nm_thn ?_
      refine ws_region rfl ?_
      refine wlo 0 1 rfl rfl rfl (wo_run rfl rfl (run_add rfl rfl rfl (by first | omega | (simp only [lens]; omega))) ?_)
      refine wlm 1 2 rfl rfl rfl rfl rfl rfl rfl ?_
      refine wl_end rfl ?_
      refine nm_lp ?_
      intro ax_ hax_
      refine ⟨_, ?hq5m, ⟨i + 1, _, (wg ++ [gsw36]), (wp ++ [List.map fW (rowL d i)]), _, _, (((((hle2.trans hle3).trans hle15).trans hle16).trans hle17).trans hle18), rfl, hax_.sub ⟨rfl, rfl, rfl, rfl, rfl, rfl, trivial⟩, S68.pick [7, 2] [_, _] (by decide) ⟨rfl, rfl, trivial⟩, ?hq5f0, ?hq5f1, ?hq5f2, ?hq5f3⟩⟩
      case hq5f0 => omega
      case hq5f1 => (rw [hwp, take_ga (List.range d.crs.length) i (by rw [List.length_range]; omega), List.map_append]; refine congrArg _ ?_; rw [show ga (List.range d.crs.length) i = i by rw [ga_eq (by rw [List.length_range]; omega)]; simp]; rfl)
      case hq5f2 => exact hd5
      case hq5f3 => exact hd6
      case hq5m => omega
  ·have hb25 := of_decide_eq_false hb25
   refine ws_exit rfl rfl ?_
   refine nm_sub [(5, _)] ⟨rfl, trivial⟩ ?_
   refine nm_thn ?_
   refine ws_seqN AOwn_n59 AOwn_n60 rfl rfl rfl ?_
   refine ws_region rfl ?_
   refine wlm 0 1 rfl rfl rfl rfl rfl rfl rfl ?_
   refine wla 1 2 rfl rfl rfl rfl rfl rfl rfl ?_
   refine wl_end rfl ?_
   refine nm_sub [(2, _)] ⟨rfl, trivial⟩ ?_
   refine nm_thn ?_
   refine ws_ret hC [_] rfl rfl ⟨rfl, trivial⟩ ?_
   refine ⟨_, rfl, _, _, hle1.trans hle2, S5.pick [0] [_] (by decide) ⟨rfl, trivial⟩, ?_⟩
   obtain rfl : i = d.crs.length := by omega
   have e2 : (tblA d).map (fun r => r.map fW) = wp := by rw [hwp, List.take_of_length_le (by simp)]; unfold tblA; rw [List.map_map]; rfl
   rw [e2]
   exact ⟨_, _, rfl, hw2, hw3⟩
end Go.Proofs.Ytkcighnochjlgaa
namespace Go.Proofs.Ytkcighnochjlgaa
open Go.ChangeShapes Go.WideShapes Go.ChangeAt Go.RowKit
def mmA (d : Dg) (i k : Nat) : Pol := mk (pr (ga (rowL d i) k))
/-- What Alexander's polynomial is. -/
def IsAlex (d : Dg) (l : List Tm) : Prop :=
 if d.crs.length = 0 ∧ d.loops = 1 then l = [⟨0, 1⟩] else
 if d.crs.length = 0 ∨ 0 < d.loops ∨ d.crs.length + 1 < mny d then l = [] else
 ∃ l0, Can l0 ∧ Bd l0 12 ∧ mk (pr l0) = detP (mmA d) (mny d - 1) ∧ l = l0.map (unT l0)
theorem isAlex_uniq {d : Dg} {l l' : List Tm} (h : IsAlex d l) (h' : IsAlex d l') : l = l' := by
 unfold IsAlex at h h'
 split at h
 ·rw [if_pos (by assumption)] at h'; rw [h, h']
 ·rw [if_neg (by assumption)] at h'
  split at h
  ·rw [if_pos (by assumption)] at h'; rw [h, h']
  ·rw [if_neg (by assumption)] at h'
   obtain ⟨l0, c0, _, m0, rfl⟩ := h
   obtain ⟨l1, c1, _, m1, rfl⟩ := h'
   rw [can_ext c0 c1 (by rw [m0, m1])]
theorem isAlex_pos {d : Dg} {l : List Tm} (h : IsAlex d l) : ∀ i, i < l.length → 0 ≤ (ga l i).e ∧ (ga l i).e ≤ 24 ∧ wr (ga l i).c = (ga l i).c := by
 unfold IsAlex at h
 split at h
 ·subst h; intro i hi
  simp only [List.length_cons, List.length_nil] at hi
  obtain rfl : i = 0 := by omega
  exact ⟨by decide, by decide, wr_id (by decide)⟩
 ·split at h
  ·subst h; intro i hi; simp at hi
  ·obtain ⟨l0, c0, b0, m0, rfl⟩ := h
   have hc := unT_can c0 b0 (by omega)
   intro i hi
   have hm := ga_mem hi
   refine ⟨?_, by have := hc.2 _ hm; omega, (hc.1.2 _ hm).2.1⟩
   rw [List.length_map] at hi
   rw [ga_map _ _ _ hi]
   show 0 ≤ (ga l0 i).e - (ga l0 0).e
   rcases Nat.eq_zero_or_pos i with rfl | hp
   ·omega
   ·have := List.pairwise_iff_getElem.1 c0.1 0 i (by omega) hi hp
    rw [ga_eq hi, ga_eq (by omega)]
    omega
def AlexT (d : Dg) (u : Value) (N : Hp) : Prop := (errK d 10 ≠ 0 ∧ u = .tuple [.slice none 0 0, .int .i64 (errK d 10)].toArray) ∨ (errK d 10 = 0 ∧ ∃ A c l, u = .tuple [.slice A l.length c, .int .i64 0].toArray ∧ RdA cdTm N A c l ∧ IsAlex d l)
theorem max_abs {n : Int} (h : wr n = n) : max n (wr (-n)) = if n < 0 then wr (-n) else n := by
 have h1 : -9223372036854775808 ≤ n ∧ n ≤ 9223372036854775807 := by
  have h2 : wr n = n := h
  unfold wr at h2; rw [IntKind.wrap_i64] at h2; omega
 have h3 : wr (-n) = if n = -9223372036854775808 then n else -n := by
  unfold wr; rw [IntKind.wrap_i64]; split <;> omega
 rw [h3]
 split <;> split <;> omega
theorem atN_wr (a : List Tm) (t : Int) (i : Nat) : wr (atN a t i) = atN a t i := by
 cases i with
 | zero => show wr 0 = 0; exact wr_id (by decide)
 | succ i => rw [atN]; split <;> exact wr_idem _
noncomputable def Alexander_n0 : Code := Try.f37.body.getD .skip
noncomputable def Alexander_n1 : Code := cL Alexander_n0
noncomputable def Alexander_n2 : Code := cR Alexander_n0
noncomputable def Alexander_n3 : Code := cL Alexander_n2
noncomputable def Alexander_n4 : Code := cR Alexander_n2
noncomputable def Alexander_n5 : Code := cL Alexander_n4
noncomputable def Alexander_n6 : Code := cR Alexander_n4
noncomputable def Alexander_n7 : Code := cL Alexander_n5
noncomputable def Alexander_n8 : Code := cR Alexander_n5
noncomputable def Alexander_n9 : Code := cL Alexander_n8
noncomputable def Alexander_n10 : Code := cR Alexander_n8
noncomputable def Alexander_n11 : Code := cL Alexander_n9
noncomputable def Alexander_n12 : Code := cR Alexander_n9
noncomputable def Alexander_n13 : Code := cL Alexander_n6
noncomputable def Alexander_n14 : Code := cR Alexander_n6
noncomputable def Alexander_n15 : Code := cL Alexander_n14
noncomputable def Alexander_n16 : Code := cR Alexander_n14
noncomputable def Alexander_n17 : Code := cL Alexander_n15
noncomputable def Alexander_n18 : Code := cL Alexander_n17
noncomputable def Alexander_n19 : Code := cR Alexander_n17
noncomputable def Alexander_n20 : Code := cL Alexander_n19
noncomputable def Alexander_n21 : Code := cR Alexander_n19
noncomputable def Alexander_n22 : Code := cL Alexander_n20
noncomputable def Alexander_n23 : Code := cR Alexander_n20
noncomputable def Alexander_n24 : Code := cL Alexander_n21
noncomputable def Alexander_n25 : Code := cR Alexander_n21
noncomputable def Alexander_n26 : Code := cL Alexander_n25
noncomputable def Alexander_n27 : Code := cR Alexander_n25
noncomputable def Alexander_n28 : Code := cL Alexander_n26
noncomputable def Alexander_n29 : Code := cR Alexander_n26
noncomputable def Alexander_n30 : Code := cL Alexander_n16
noncomputable def Alexander_n31 : Code := cR Alexander_n16
noncomputable def Alexander_n32 : Code := cL Alexander_n31
noncomputable def Alexander_n33 : Code := cR Alexander_n31
noncomputable def Alexander_n34 : Code := cL Alexander_n33
noncomputable def Alexander_n35 : Code := cR Alexander_n33
noncomputable def Alexander_n36 : Code := cL Alexander_n34
noncomputable def Alexander_n37 : Code := cR Alexander_n34
noncomputable def Alexander_n38 : Code := cL Alexander_n37
noncomputable def Alexander_n39 : Code := cL Alexander_n38
noncomputable def Alexander_n40 : Code := cR Alexander_n38
noncomputable def Alexander_n41 : Code := cL Alexander_n40
noncomputable def Alexander_n42 : Code := cR Alexander_n40
noncomputable def Alexander_n43 : Code := cL Alexander_n35
noncomputable def Alexander_n44 : Code := cR Alexander_n35
noncomputable def Alexander_n45 : Code := cL Alexander_n43
noncomputable def Alexander_n46 : Code := cR Alexander_n43
noncomputable def Alexander_n47 : Code := cL Alexander_n46
noncomputable def Alexander_n48 : Code := cL Alexander_n47
noncomputable def Alexander_n49 : Code := cL Alexander_n48
noncomputable def Alexander_n50 : Code := cR Alexander_n48
noncomputable def Alexander_n51 : Code := cL Alexander_n50
noncomputable def Alexander_n52 : Code := cR Alexander_n50
noncomputable def Alexander_n53 : Code := cL Alexander_n51
noncomputable def Alexander_n54 : Code := cR Alexander_n51
noncomputable def Alexander_n55 : Code := cL Alexander_n52
noncomputable def Alexander_n56 : Code := cR Alexander_n52
noncomputable def Alexander_n57 : Code := cL Alexander_n55
noncomputable def Alexander_n58 : Code := cL Alexander_n57
noncomputable def Alexander_n59 : Code := cR Alexander_n57
noncomputable def Alexander_n60 : Code := cL Alexander_n44
noncomputable def Alexander_n61 : Code := cR Alexander_n44
noncomputable def Alexander_n62 : Code := cL Alexander_n42
noncomputable def Alexander_n63 : Code := cR Alexander_n42
noncomputable def Alexander_n64 : Code := cL Alexander_n63
noncomputable def Alexander_n65 : Code := cR Alexander_n63
noncomputable def Alexander_n66 : Code := cL Alexander_n65
noncomputable def Alexander_n67 : Code := cR Alexander_n65
set_option maxHeartbeats 1000000 in
set_option maxRecDepth 10000 in
theorem Alexander_t {w : World} {M : Hp} {X : Fr} (d : Dg) {dcrsA : Option Addr} {dcrsc : Nat} (hdcrs : RdA cdCr (M.un X.h) dcrsA dcrsc d.crs) (S : SH w M X []) : Ct Try.prog 37 [.agg [.slice dcrsA d.crs.length dcrsc, .int .i64 d.loops].toArray] w M X (AlexT d) := by
 unfold Ct
 have rmhdcrs : d.crs.length * 40 ≤ 140737488355328 := hdcrs.room
 refine calls_in (b := Alexander_n0) Try.func37 rfl Try.ntmps37 rfl (fun C hC => ?_)
 refine ws_sub [(0, _)] ⟨rfl, trivial⟩ ?_
 refine ws_seqN Alexander_n1 Alexander_n2 rfl rfl rfl ?_
 refine ws_region rfl ?_
 refine wlo 0 1 rfl rfl rfl (wo_box (l := [_, _]) rfl rfl rfl rfl rfl S ?_)
 intro gb1 w1 S1; clear S
 refine wla 1 2 rfl rfl rfl rfl rfl rfl rfl ?_
 refine wla 2 3 rfl rfl rfl rfl rfl rfl rfl ?_
 refine wl_end rfl ?_
 refine nm_sub [(1, _)] ⟨rfl, trivial⟩ ?_
 refine nm_thn ?_
 refine ws_seqN Alexander_n3 Alexander_n4 rfl rfl rfl ?_
 refine ws_region rfl ?_
 refine wlo 0 1 rfl rfl rfl (wo_run rfl rfl (run_loadN (us := [_, _]) rfl rfl Try.underlying51 rfl sz51 (S1.boxcs (i := 0) rfl ⟨rfl, rfl, trivial⟩)) ?_)
 refine wlo 1 2 rfl rfl rfl (wo_ct rfl rfl rfl rfl rfl rfl rfl cf77 S1 (AOpen_t d (hdcrs.mono S1.un_XH) S1.lend) ?_)
 intro vw2 w2 M1 hle1 S2 hRw2; clear S1
 replace hdcrs := hdcrs.mono (Hp.un_mono hle1 S2.mx)
 rcases hRw2 with ⟨hopn12, rfl⟩ | ⟨hopn12, g1, cA12, iA12, oA12, cc12, ic12, oc12, rfl, hsb12, hsc12, hsi12, hso12⟩
 ·refine wlm 2 3 rfl rfl rfl rfl rfl rfl rfl ?_
  refine wlo 3 4 rfl rfl rfl (wo_run rfl rfl (run_extract rfl rfl rfl) ?_)
  refine wlo 4 5 rfl rfl rfl (wo_run rfl rfl (run_extract rfl rfl rfl) ?_)
  refine wla 5 6 rfl rfl rfl rfl rfl rfl rfl ?_
  refine wla 6 7 rfl rfl rfl rfl rfl rfl rfl ?_
  refine wl_end rfl ?_
  refine nm_sub [(4, _), (5, _)] ⟨rfl, rfl, trivial⟩ ?_
  refine nm_thn ?_
  refine ws_seqN Alexander_n5 Alexander_n6 rfl rfl rfl ?_
  refine ws_seqN Alexander_n7 Alexander_n8 rfl rfl rfl ?_
  refine ws_region rfl ?_
  refine wlm 0 1 rfl rfl rfl rfl rfl rfl rfl ?_
  refine wlo 1 2 rfl rfl rfl (wo_run rfl rfl (run_neq rfl rfl rfl) ?_)
  refine wl_end rfl ?_
  refine nm_sub [(4, _), (5, _), (16, _)] ⟨rfl, rfl, rfl, trivial⟩ ?_
  refine nm_thn ?_
  refine ws_condN Alexander_n9 Alexander_n10 rfl rfl rfl rfl (fun hb16 => ?_) (fun hb16 => ?_)
  ·have hb16 := of_decide_eq_true hb16
   refine ws_seqN Alexander_n11 Alexander_n12 rfl rfl rfl ?_
   refine ws_region rfl ?_
   refine wlm 0 1 rfl rfl rfl rfl rfl rfl rfl ?_
   refine wla 1 2 rfl rfl rfl rfl rfl rfl rfl ?_
   refine wla 2 3 rfl rfl rfl rfl rfl rfl rfl ?_
   refine wl_end rfl ?_
   refine nm_sub [(2, _), (3, _)] ⟨rfl, rfl, trivial⟩ ?_
   refine nm_thn ?_
   refine ws_ret hC [_, _] rfl rfl ⟨rfl, rfl, trivial⟩ ?_
   refine ⟨_, rfl, _, hle1, (S2.pick [] [] (by decide) trivial), ?_⟩
   exact .inl ⟨hopn12, rfl⟩
  ·have hb16 := of_decide_eq_false hb16
   exfalso; omega
 ·obtain ⟨heO, hnm⟩ := errK_ok hopn12
  obtain ⟨hmo, hpl⟩ := errO_ok heO
  obtain ⟨hn, hab, hlo0, hlo1⟩ := mayO hmo
  refine wlm 2 3 rfl rfl rfl rfl rfl rfl rfl ?_
  refine wlo 3 4 rfl rfl rfl (wo_run rfl rfl (run_extract rfl rfl rfl) ?_)
  refine wlo 4 5 rfl rfl rfl (wo_run rfl rfl (run_extract rfl rfl rfl) ?_)
  refine wla 5 6 rfl rfl rfl rfl rfl rfl rfl ?_
  refine wla 6 7 rfl rfl rfl rfl rfl rfl rfl ?_
  refine wl_end rfl ?_
  refine nm_sub [(4, _), (5, _)] ⟨rfl, rfl, trivial⟩ ?_
  refine nm_thn ?_
  refine ws_seqN Alexander_n5 Alexander_n6 rfl rfl rfl ?_
  refine ws_seqN Alexander_n7 Alexander_n8 rfl rfl rfl ?_
  refine ws_region rfl ?_
  refine wlm 0 1 rfl rfl rfl rfl rfl rfl rfl ?_
  refine wlo 1 2 rfl rfl rfl (wo_run rfl rfl (run_neq rfl rfl rfl) ?_)
  refine wl_end rfl ?_
  refine nm_sub [(4, _), (5, _), (16, _)] ⟨rfl, rfl, rfl, trivial⟩ ?_
  refine nm_thn ?_
  refine ws_condN Alexander_n9 Alexander_n10 rfl rfl rfl rfl (fun hb16 => ?_) (fun hb16 => ?_)
  ·have hb16 := of_decide_eq_true hb16
   exfalso; omega
  ·have hb16 := of_decide_eq_false hb16
   refine ws_skip rfl ?_
   refine nm_sub [(4, _)] ⟨rfl, trivial⟩ ?_
   refine nm_thn ?_
   refine ws_seqN Alexander_n13 Alexander_n14 rfl rfl rfl ?_
   refine ws_region rfl ?_
   refine wlm 0 1 rfl rfl rfl rfl rfl rfl rfl ?_
   refine wlo 1 2 rfl rfl rfl (wo_run rfl rfl (run_nilCheck rfl rfl) ?_)
   refine wlo 2 3 rfl rfl rfl (wo_run rfl rfl (run_fieldAddr rfl rfl Try.underlying114 rfl (ce51) (nf51)) ?_)
   refine wlo 3 4 rfl rfl rfl (wo_run rfl rfl (run_fieldAddr rfl rfl Try.underlying51 rfl (ce49) (nf49)) ?_)
   refine wlo 4 5 rfl rfl rfl (wo_run rfl rfl (run_load1 rfl rfl Try.underlying49 rfl (hsb12.cell S2.m rfl)) ?_)
   refine wlo 5 6 rfl rfl rfl (wo_run rfl rfl (run_len rfl rfl rfl rfl rfl rfl Try.underlying49) ?_)
   refine wla 6 7 rfl rfl rfl rfl rfl rfl rfl ?_
   refine wl_end rfl ?_
   refine nm_sub [(4, _), (6, _)] ⟨rfl, rfl, trivial⟩ ?_
   refine nm_thn ?_
   refine ws_seqN Alexander_n15 Alexander_n16 rfl rfl rfl ?_
   refine ws_blockN Alexander_n17 0 rfl rfl rfl ?_
   refine ws_seqN Alexander_n18 Alexander_n19 rfl rfl rfl ?_
   refine ws_region rfl ?_
   refine wlm 0 1 rfl rfl rfl rfl rfl rfl rfl ?_
   refine wlo 1 2 rfl rfl rfl (wo_run rfl rfl (run_eql rfl rfl rfl) ?_)
   refine wlm 2 3 rfl rfl rfl rfl rfl rfl rfl ?_
   refine wl_split (t := 27) rfl (fun hg27 => ?_) (fun hg27 => ?_)
   ·have hg27 := of_decide_eq_true hg27
    refine wl_opG (k := 3) (k' := 4) rfl rfl ⟨_, _, _, rfl, rfl, rfl, rfl⟩ rfl (wo_run rfl rfl (run_move rfl rfl) ?_)
    refine wl_opG (k := 4) (k' := 5) rfl rfl ⟨_, _, _, rfl, rfl, rfl, rfl⟩ rfl (wo_run rfl rfl (run_nilCheck rfl rfl) ?_)
    refine wl_opG (k := 5) (k' := 6) rfl rfl ⟨_, _, _, rfl, rfl, rfl, rfl⟩ rfl (wo_run rfl rfl (run_fieldAddr rfl rfl Try.underlying114 rfl (ce51) (nf51)) ?_)
    refine wl_opG (k := 6) (k' := 7) rfl rfl ⟨_, _, _, rfl, rfl, rfl, rfl⟩ rfl (wo_run rfl rfl (run_fieldAddr rfl rfl Try.underlying51 rfl (ce3) (nf3)) ?_)
    refine wl_opG (k := 7) (k' := 8) rfl rfl ⟨_, _, _, rfl, rfl, rfl, rfl⟩ rfl (wo_run rfl rfl (run_load1 rfl rfl Try.underlying3 rfl (hsb12.cell S2.m rfl)) ?_)
    refine wl_opG (k := 8) (k' := 9) rfl rfl ⟨_, _, _, rfl, rfl, rfl, rfl⟩ rfl (wo_run rfl rfl (run_eql rfl rfl rfl) ?_)
    refine wlo 9 10 rfl rfl rfl (wo_run rfl rfl (run_pickT rfl rfl rfl) ?_)
    refine wla 10 11 rfl rfl rfl rfl rfl rfl rfl ?_
    refine wl_end rfl ?_
    refine nm_sub [(4, _), (6, _), (24, _)] ⟨rfl, rfl, rfl, trivial⟩ ?_
    refine nm_thn ?_
    refine ws_condN Alexander_n20 Alexander_n21 rfl rfl rfl rfl (fun hb24 => ?_) (fun hb24 => ?_)
    ·have hb24 := of_decide_eq_true hb24
     refine ws_seqN Alexander_n22 Alexander_n23 rfl rfl rfl ?_
     refine ws_region rfl ?_
     refine wlo 0 1 rfl rfl rfl (wo_run rfl rfl (run_build (l := [_, _]) rfl rfl st89 rfl rfl) ?_)
     refine wlo 1 2 rfl rfl rfl (wo_buildSlice1 (C := cdTm) (l := [_, _]) rfl rfl rfl rfl sl22 rfl rfl rfl rfl S2 ?_)
     intro gb2 w3 S3; clear S2
     refine wla 2 3 rfl rfl rfl rfl rfl rfl rfl ?_
     refine wla 3 4 rfl rfl rfl rfl rfl rfl rfl ?_
     refine wl_end rfl ?_
     refine nm_sub [(2, _), (3, _)] ⟨rfl, rfl, trivial⟩ ?_
     refine nm_thn ?_
     obtain ⟨M2, hle2, S4, hr1⟩ := S3.pubbox (C := cdTm) (z := (⟨0, 1⟩ : Tm)) (i := 0) (H' := [_, _]) rfl rfl rfl (by decide)
     clear S3
     replace hdcrs := hdcrs.mono (Hp.un_mono hle2 S4.mx)
     replace hsb12 := hsb12.mono hle2
     replace hsc12 := hsc12.mono hle2
     replace hsi12 := hsi12.mono hle2
     replace hso12 := hso12.mono hle2
     refine ws_ret hC [_, _] rfl rfl ⟨rfl, rfl, trivial⟩ ?_
     refine ⟨_, rfl, _, hle1.trans hle2, (S4.pick [] [] (by decide) trivial), ?_⟩
     exact .inr ⟨hopn12, _, _, _, rfl, hr1, by unfold IsAlex; rw [if_pos ⟨by omega, by omega⟩]⟩
    ·have hb24 := of_decide_eq_false hb24
     refine ws_seqN Alexander_n24 Alexander_n25 rfl rfl rfl ?_
     refine ws_region rfl ?_
     refine wlm 0 1 rfl rfl rfl rfl rfl rfl rfl ?_
     refine wlo 1 2 rfl rfl rfl (wo_run rfl rfl (run_eql rfl rfl rfl) ?_)
     refine wlm 2 3 rfl rfl rfl rfl rfl rfl rfl ?_
     refine wl_split (t := 40) rfl (fun hg40 => ?_) (fun hg40 => ?_)
     ·have hg40 := of_decide_eq_true hg40
      refine wl_no (k := 3) (k' := 4) (d := 41) rfl rfl ⟨_, _, _, rfl, rfl, rfl, rfl⟩ rfl rfl ?_
      refine wl_no (k := 4) (k' := 5) (d := 42) rfl rfl ⟨_, _, _, rfl, rfl, rfl, rfl⟩ rfl rfl ?_
      refine wl_no (k := 5) (k' := 6) (d := 43) rfl rfl ⟨_, _, _, rfl, rfl, rfl, rfl⟩ rfl rfl ?_
      refine wl_no (k := 6) (k' := 7) (d := 44) rfl rfl ⟨_, _, _, rfl, rfl, rfl, rfl⟩ rfl rfl ?_
      refine wl_no (k := 7) (k' := 8) (d := 45) rfl rfl ⟨_, _, _, rfl, rfl, rfl, rfl⟩ rfl rfl ?_
      refine wl_no (k := 8) (k' := 9) (d := 46) rfl rfl ⟨_, _, _, rfl, rfl, rfl, rfl⟩ rfl rfl ?_
      refine wlo 9 10 rfl rfl rfl (wo_run rfl rfl (run_pickT rfl rfl rfl) ?_)
      refine wla 10 11 rfl rfl rfl rfl rfl rfl rfl ?_
      refine wl_end rfl ?_
      refine nm_sub [(4, _), (6, _), (37, _)] ⟨rfl, rfl, rfl, trivial⟩ ?_
      refine nm_thn ?_
      refine ws_condTN Alexander_n26 rfl rfl rfl ?_
      refine ws_seqN Alexander_n28 Alexander_n29 rfl rfl rfl ?_
      refine ws_region rfl ?_
      refine wla 0 1 rfl rfl rfl rfl rfl rfl rfl ?_
      refine wla 1 2 rfl rfl rfl rfl rfl rfl rfl ?_
      refine wl_end rfl ?_
      refine nm_sub [(2, _), (3, _)] ⟨rfl, rfl, trivial⟩ ?_
      refine nm_thn ?_
      refine ws_ret hC [_, _] rfl rfl ⟨rfl, rfl, trivial⟩ ?_
      refine ⟨_, rfl, _, hle1, (S2.pick [] [] (by decide) trivial), ?_⟩
      exact .inr ⟨hopn12, none, 0, [], rfl, RdA.nil_, by unfold IsAlex; rw [if_neg (by omega), if_pos (by omega)]⟩
     ·have hg40 := of_decide_eq_false hg40
      refine wl_opG (k := 3) (k' := 4) rfl rfl ⟨_, _, _, rfl, rfl, rfl, rfl⟩ rfl (wo_run rfl rfl (run_move rfl rfl) ?_)
      refine wl_opG (k := 4) (k' := 5) rfl rfl ⟨_, _, _, rfl, rfl, rfl, rfl⟩ rfl (wo_run rfl rfl (run_nilCheck rfl rfl) ?_)
      refine wl_opG (k := 5) (k' := 6) rfl rfl ⟨_, _, _, rfl, rfl, rfl, rfl⟩ rfl (wo_run rfl rfl (run_fieldAddr rfl rfl Try.underlying114 rfl (ce51) (nf51)) ?_)
      refine wl_opG (k := 6) (k' := 7) rfl rfl ⟨_, _, _, rfl, rfl, rfl, rfl⟩ rfl (wo_run rfl rfl (run_fieldAddr rfl rfl Try.underlying51 rfl (ce3) (nf3)) ?_)
      refine wl_opG (k := 7) (k' := 8) rfl rfl ⟨_, _, _, rfl, rfl, rfl, rfl⟩ rfl (wo_run rfl rfl (run_load1 rfl rfl Try.underlying3 rfl (hsb12.cell S2.m rfl)) ?_)
      refine wl_opG (k := 8) (k' := 9) rfl rfl ⟨_, _, _, rfl, rfl, rfl, rfl⟩ rfl (wo_run rfl rfl (run_gtr rfl rfl rfl) ?_)
      refine wlo 9 10 rfl rfl rfl (wo_run rfl rfl (run_pickF rfl rfl rfl) ?_)
      refine wla 10 11 rfl rfl rfl rfl rfl rfl rfl ?_
      refine wl_end rfl ?_
      refine nm_sub [(4, _), (6, _), (37, _)] ⟨rfl, rfl, rfl, trivial⟩ ?_
      refine nm_thn ?_
      refine ws_condN Alexander_n26 Alexander_n27 rfl rfl rfl rfl (fun hb37 => ?_) (fun hb37 => ?_)
      ·have hb37 := of_decide_eq_true hb37
       refine ws_seqN Alexander_n28 Alexander_n29 rfl rfl rfl ?_
       refine ws_region rfl ?_
       refine wla 0 1 rfl rfl rfl rfl rfl rfl rfl ?_
       refine wla 1 2 rfl rfl rfl rfl rfl rfl rfl ?_
       refine wl_end rfl ?_
       refine nm_sub [(2, _), (3, _)] ⟨rfl, rfl, trivial⟩ ?_
       refine nm_thn ?_
       refine ws_ret hC [_, _] rfl rfl ⟨rfl, rfl, trivial⟩ ?_
       refine ⟨_, rfl, _, hle1, (S2.pick [] [] (by decide) trivial), ?_⟩
       exact .inr ⟨hopn12, none, 0, [], rfl, RdA.nil_, by unfold IsAlex; rw [if_neg (by omega), if_pos (by omega)]⟩
      ·have hb37 := of_decide_eq_false hb37
       refine ws_skip rfl ?_
       refine nm_blk ?_
       refine nm_sub [(4, _), (6, _)] ⟨rfl, rfl, trivial⟩ ?_
       refine nm_thn ?_
       refine ws_seqN Alexander_n30 Alexander_n31 rfl rfl rfl ?_
       refine ws_region rfl ?_
       refine wlm 0 1 rfl rfl rfl rfl rfl rfl rfl ?_
       refine wlo 1 2 rfl rfl rfl (wo_cto rfl rfl rfl rfl rfl rfl rfl cf78 S2 (AOwn_to d hsb12 hsc12 hsi12 hso12 hnm hab S2.lend) ?_)
       intro vw4 w4 M3 Nw4 hle3 S5 hRw4; clear S2
       replace hdcrs := hdcrs.mono (Hp.un_mono hle3 S5.mx)
       replace hsb12 := hsb12.mono hle3
       replace hsc12 := hsc12.mono hle3
       replace hsi12 := hsi12.mono hle3
       replace hso12 := hso12.mono hle3
       obtain ⟨wv1, wg1, rfl, hd1, hW1⟩ := hRw4
       change SH _ _ _ [_, _] at S5
       have htw := hd1.1
       have htx := hW1.1
       rw [List.length_map, tblA_len] at htx
       have hmge := mny_ge d
       have htt := tblA_len d
       have hgl : ∀ i, i < d.crs.length → (ga wg1 i).length = mny d := fun i hi => by have h1 := (hW1.2 i (by omega)).1; rw [ga_map _ _ _ (by rw [tblA_len]; exact hi), List.length_map, tblA_ga d hi, rowL_len] at h1; exact h1
       refine wla 2 3 rfl rfl rfl rfl rfl rfl rfl ?_
       refine wl_end rfl ?_
       refine nm_sub [(6, _), (7, _)] ⟨rfl, rfl, trivial⟩ ?_
       refine nm_thn ?_
       refine ws_seqN Alexander_n32 Alexander_n33 rfl rfl rfl ?_
       refine ws_region rfl ?_
       refine wlm 0 1 rfl rfl rfl rfl rfl rfl rfl ?_
       refine wlo 1 2 rfl rfl rfl (wo_run rfl rfl (run_indexR (C := (cdV 94)) (i := 0) 0 rfl rfl rfl sl93 S5 rfl (by first | rfl | omega) (by first | omega | (simp only [lens]; omega))) ?_)
       obtain ⟨hn1, hr2⟩ := hd1.2 0 (by first | omega | (simp only [lens]; omega))
       have hW2 := hW1.2 0 (by have := hW1.1; have := hd1.1; first | omega | (simp_all; omega))
       have hW2l := hW2.1
       refine wlo 2 3 rfl rfl rfl (wo_run rfl rfl (run_load1 rfl rfl Try.underlying94 rfl (S5.rowc (i := 0) (e := 0) (j := 0) rfl (by first | omega | (simp only [lens]; omega)) rfl (congrArg (fun n => some (Value.slice _ n _)) hn1))) ?_)
       refine wlo 3 4 rfl rfl rfl (wo_run rfl rfl (run_len rfl rfl rfl rfl rfl rfl Try.underlying94) ?_)
       refine wla 4 5 rfl rfl rfl rfl rfl rfl rfl ?_
       refine wl_end rfl ?_
       refine nm_sub [(6, _), (7, _), (8, _)] ⟨rfl, rfl, rfl, trivial⟩ ?_
       refine nm_thn ?_
       refine ws_seqN Alexander_n34 Alexander_n35 rfl rfl rfl ?_
       refine ws_seqN Alexander_n36 Alexander_n37 rfl rfl rfl ?_
       refine ws_eq 8 (.int .i64 (mny d : Int)) rfl (int_eq (by have := hgl 0 (by omega); omega)) ?_
       refine ws_region rfl ?_
       refine wlm 0 1 rfl rfl rfl rfl rfl rfl rfl ?_
       refine wl_end rfl ?_
       refine nm_sub [(6, _), (7, _), (8, _), (54, _)] ⟨rfl, rfl, rfl, rfl, trivial⟩ ?_
       refine nm_thn ?_
       refine ws_blockN Alexander_n38 1 rfl rfl rfl ?_
       refine ws_seqN Alexander_n39 Alexander_n40 rfl rfl rfl ?_
       refine ws_region rfl ?_
       refine wlm 0 1 rfl rfl rfl rfl rfl rfl rfl ?_
       refine wlo 1 2 rfl rfl rfl (wo_run rfl rfl (run_eql rfl rfl rfl) ?_)
       refine wla 2 3 rfl rfl rfl rfl rfl rfl rfl ?_
       refine wl_end rfl ?_
       refine nm_sub [(6, _), (7, _), (8, _), (54, _), (55, _)] ⟨rfl, rfl, rfl, rfl, rfl, trivial⟩ ?_
       refine nm_thn ?_
       refine ws_condN Alexander_n41 Alexander_n42 rfl rfl rfl rfl (fun hb55 => ?_) (fun hb55 => ?_)
       ·have hb55 := of_decide_eq_true hb55
        refine ws_region rfl ?_
        refine wlm 0 1 rfl rfl rfl rfl rfl rfl rfl ?_
        refine wlm 1 2 rfl rfl rfl rfl rfl rfl rfl ?_
        refine wlo 2 3 rfl rfl rfl (wo_run rfl rfl (run_sub rfl rfl rfl (by first | omega | (simp only [lens]; omega))) ?_)
        refine wl_eq 60 (.int .i64 ((d.crs.length - 1 : Nat) : Int)) rfl (int_eq (by omega)) ?_
        refine wlo 3 4 rfl rfl rfl (wo_takeR (C := (cdV 94)) (i := 0) (d.crs.length - 1) rfl rfl rfl rfl rfl sl93 (by first | rfl | omega) (by first | omega | (simp only [lens]; omega)) S5 rfl ?_)
        intro vw5 S6; clear S5
        change SH _ _ _ [Rs.row (cdV 94) vw5 (wv1.take (d.crs.length - 1)), _] at S6
        have hd2 := hd1.take_ (d.crs.length - 1)
        have hd3 := hW1.take_ (d.crs.length - 1)
        refine wla 4 5 rfl rfl rfl rfl rfl rfl rfl ?_
        refine wl_end rfl ?_
        refine nm_blk ?_
        refine nm_sub [(7, _), (8, _)] ⟨rfl, rfl, trivial⟩ ?_
        refine nm_thn ?_
        refine ws_seqN Alexander_n43 Alexander_n44 rfl rfl rfl ?_
        refine ws_seqN Alexander_n45 Alexander_n46 rfl rfl rfl ?_
        have hK : (wv1.take (d.crs.length - 1)).length = (mny d - 1) := by rw [List.length_take]; omega
        have hP : ∀ q, q < (mny d - 1) → ga (((tblA d).map fun r => r.map fW).take (d.crs.length - 1)) q = (rowL d q).map fW := fun q hq => by rw [ga_take _ _ _ (by omega), ga_map _ _ _ (by rw [tblA_len]; omega), tblA_ga d (by omega)]
        refine ws_region rfl ?_
        refine wlm 0 1 rfl rfl rfl rfl rfl rfl rfl ?_
        refine wlo 1 2 rfl rfl rfl (wo_run rfl rfl (run_lenR (C := (cdV 94)) (i := 0) rfl rfl rfl rfl rfl rfl sl93 S6 rfl) ?_)
        refine wl_eq 67 (.int .i64 ((mny d - 1 : Nat) : Int)) rfl (int_eq (by omega)) ?_
        refine wlm 2 3 rfl rfl rfl rfl rfl rfl rfl ?_
        refine wl_end rfl ?_
        refine nm_sub [(7, _), (8, _), (67, _), (68, _)] ⟨rfl, rfl, rfl, rfl, trivial⟩ ?_
        refine nm_thn ?_
        refine ws_blockN Alexander_n47 2 rfl rfl rfl ?_
        refine ws_loopE (fun mx_ ax_ wx_ => ∃ (i : Nat) (mv : List SlV) (mg : List (List (Option Nat))) (mp : List (List (Option Pol))) (vrm : Value), mx_ = (mny d - 1) - i ∧ Env 86 [(7, vrm), (8, .int .i64 (mny d : Int)), (67, .int .i64 ((mny d - 1 : Nat) : Int)), (68, .int .i64 (i : Int))] ax_ ∧ SH wx_ M3 X [Rs.row (cdV 94) vrm mv] ∧ i ≤ (mny d - 1) ∧ mv.length = (mny d - 1) ∧ (∀ q, q < (mny d - 1) → ga mp q = if q < i then ((rowL d q).map fW).take (mny d - 1) else (rowL d q).map fW) ∧ Rd2 (cdMap 87) M3 mv mg ∧ WksA (fun _ => 1) M3 mg mp) rfl ?_ ?_
        ·intro ax_ hax_
         refine ⟨_, ⟨0, _, (wg1.take (d.crs.length - 1)), (((tblA d).map fun r => r.map fW).take (d.crs.length - 1)), _, rfl, hax_.sub ⟨rfl, rfl, rfl, rfl, trivial⟩, S6.pick [0] [_] (by decide) ⟨rfl, trivial⟩, ?hq1f0, ?hq1f1, ?hq1f2, ?hq1f3, ?hq1f4⟩⟩
         case hq1f0 => omega
         case hq1f1 => exact hK
         case hq1f2 => (intro q hq; rw [if_neg (by omega)]; exact hP q hq)
         case hq1f3 => exact hd2
         case hq1f4 => exact hd3
        ·rintro m1 a1 w6 ⟨i, mv, mg, mp, vrm, rfl, he1, S7, hi, hml, hmp, hm2, hm3⟩
         clear S6
         refine ws_in he1 (c := Alexander_n48) rfl ?_
         clear he1 a1
         have hm21 := hm2.1
         have hm31 := hm3.1
         have hpi : i < (mny d - 1) → (ga mp i).length = mny d := fun h => by rw [hmp i h, if_neg (by omega), List.length_map, rowL_len]
         refine ws_seqN Alexander_n49 Alexander_n50 rfl rfl rfl ?_
         refine ws_region rfl ?_
         refine wlo 0 1 rfl rfl rfl (wo_run rfl rfl (run_lss rfl rfl rfl) ?_)
         refine wl_end rfl ?_
         refine nm_thn ?_
         refine ws_seqN Alexander_n51 Alexander_n52 rfl rfl rfl ?_
         refine ws_condN Alexander_n53 Alexander_n54 rfl rfl rfl rfl (fun hb69 => ?_) (fun hb69 => ?_)
         ·have hb69 := of_decide_eq_true hb69
          refine ws_skip rfl ?_
          refine nm_sub [(7, _), (8, _), (67, _), (68, _)] ⟨rfl, rfl, rfl, rfl, trivial⟩ ?_
          refine nm_thn ?_
          refine ws_seqN Alexander_n55 Alexander_n56 rfl rfl rfl ?_
          refine ws_blockN Alexander_n57 3 rfl rfl rfl ?_
          refine ws_seqN Alexander_n58 Alexander_n59 rfl rfl rfl ?_
          refine ws_region rfl ?_
          refine wlm 0 1 rfl rfl rfl rfl rfl rfl rfl ?_
          refine wla 1 2 rfl rfl rfl rfl rfl rfl rfl ?_
          refine wl_end rfl ?_
          refine nm_sub [(7, _), (8, _), (67, _), (68, _), (9, _)] ⟨rfl, rfl, rfl, rfl, rfl, trivial⟩ ?_
          refine nm_thn ?_
          have hpi2 := hpi (by omega)
          refine ws_region rfl ?_
          refine wlm 0 1 rfl rfl rfl rfl rfl rfl rfl ?_
          refine wlm 1 2 rfl rfl rfl rfl rfl rfl rfl ?_
          refine wlm 2 3 rfl rfl rfl rfl rfl rfl rfl ?_
          refine wlm 3 4 rfl rfl rfl rfl rfl rfl rfl ?_
          refine wlo 4 5 rfl rfl rfl (wo_run rfl rfl (run_indexR (C := (cdV 94)) (i := 0) i rfl rfl rfl sl93 S7 rfl (by first | rfl | omega) (by first | omega | (simp only [lens]; omega))) ?_)
          obtain ⟨hn2, hr3⟩ := hm2.2 i (by first | omega | (simp only [lens]; omega))
          have hW3 := hm3.2 i (by have := hm3.1; have := hm2.1; first | omega | (simp_all; omega))
          have hW3l := hW3.1
          refine wlo 5 6 rfl rfl rfl (wo_run rfl rfl (run_load1 rfl rfl Try.underlying94 rfl (S7.rowc (i := 0) (e := i) (j := 0) rfl (by first | omega | (simp only [lens]; omega)) rfl (congrArg (fun n => some (Value.slice _ n _)) hn2))) ?_)
          refine wlm 6 7 rfl rfl rfl rfl rfl rfl rfl ?_
          refine wlo 7 8 rfl rfl rfl (wo_run rfl rfl (run_sub rfl rfl rfl (by first | omega | (simp only [lens]; omega))) ?_)
          refine wl_eq 78 (.int .i64 ((mny d - 1 : Nat) : Int)) rfl (int_eq (by omega)) ?_
          refine wlo 8 9 rfl rfl rfl (wo_sliceT (C := (cdMap 87)) (mny d - 1) rfl rfl rfl rfl rfl sl94 (by first | rfl | omega) (by first | omega | (simp only [lens]; omega)) hr3 ?_)
          intro A1 c1 hr4
          have hW4 := hW3.take_ (mny d - 1)
          refine wlo 9 10 rfl rfl rfl (wo_run rfl rfl (run_indexR (C := (cdV 94)) (i := 0) i rfl rfl rfl sl93 S7 rfl (by first | rfl | omega) (by first | omega | (simp only [lens]; omega))) ?_)
          refine wlo 10 11 rfl rfl rfl (wo_storeR (C := (cdV 94)) (i := 0) (e := i) (j := 0) (us := [_]) (H' := [_]) (⟨A1, ((ga mg i).take (mny d - 1)).length, c1⟩ : SlV) rfl rfl S7 rfl (by first | omega | (simp only [lens]; omega)) rfl rfl rfl sz94 rfl rfl rfl rfl ?_)
          intro w7 S8; clear S7
          have hd4 := hm2.set_ hr4 i (by first | omega | (simp only [lens]; omega))
          have hd5 := hm3.set_ (i := i) hW4 (by first | omega | (simp only [lens]; omega))
          refine wl_end rfl ?_
          refine nm_blk ?_
          refine nm_sub [(7, _), (8, _), (67, _), (68, _)] ⟨rfl, rfl, rfl, rfl, trivial⟩ ?_
          refine nm_thn ?_
          refine ws_region rfl ?_
          refine wlo 0 1 rfl rfl rfl (wo_run rfl rfl (run_add rfl rfl rfl (by first | omega | (simp only [lens]; omega))) ?_)
          refine wlm 1 2 rfl rfl rfl rfl rfl rfl rfl ?_
          refine wl_end rfl ?_
          refine nm_lp ?_
          intro ax_ hax_
          refine ⟨_, ?hq2m, ⟨i + 1, _, (mg.set i ((ga mg i).take (mny d - 1))), (mp.set i ((ga mp i).take (mny d - 1))), _, rfl, hax_.sub ⟨rfl, rfl, rfl, rfl, trivial⟩, S8.pick [0] [_] (by decide) ⟨rfl, trivial⟩, ?hq2f0, ?hq2f1, ?hq2f2, ?hq2f3, ?hq2f4⟩⟩
          case hq2f0 => omega
          case hq2f1 => (rw [List.length_set]; exact hml)
          case hq2f2 => (intro q hq; rw [ga_set _ _ _ _ (by omega)]; split; (rename_i e; subst e; rw [if_pos (by omega), hmp _ hq, if_neg (by omega)]); (rw [hmp q hq]; by_cases h : q < i; (rw [if_pos h, if_pos (by omega)]); (rw [if_neg h, if_neg (by omega)])))
          case hq2f3 => exact hd4
          case hq2f4 => exact hd5
          case hq2m => omega
         ·have hb69 := of_decide_eq_false hb69
          refine ws_exit rfl rfl ?_
          refine nm_sub [(7, _)] ⟨rfl, trivial⟩ ?_
          refine nm_thn ?_
          refine ws_seqN Alexander_n60 Alexander_n61 rfl rfl rfl ?_
          obtain ⟨M4, hle5, S9, ⟨A2, c2, e1, hr5⟩⟩ := S7.pubrow (i := 0) (H' := [_]) rfl rfl (by show _ * 24 ≤ _; first | omega | (simp only [lens]; omega))
          clear S7; subst e1
          replace hdcrs := hdcrs.mono (Hp.un_mono hle5 S9.mx)
          replace hsb12 := hsb12.mono hle5
          replace hsc12 := hsc12.mono hle5
          replace hsi12 := hsi12.mono hle5
          replace hso12 := hso12.mono hle5
          replace hd1 := hd1.mono hle5
          replace hW1 := hW1.mono hle5
          replace hr2 := hr2.mono hle5
          replace hW2 := hW2.mono hle5
          replace hd2 := hd2.mono hle5
          replace hd3 := hd3.mono hle5
          replace hm2 := hm2.mono hle5
          replace hm3 := hm3.mono hle5
          obtain rfl : i = (mny d - 1) := by omega
          have hgl1 : ∀ q, q < (mny d - 1) → (ga mg q).length = (mny d - 1) := fun q hq => by have h1 := (hm3.2 q (by omega)).1; rw [h1, hmp q hq, if_pos hq, List.length_take, List.length_map, rowL_len]; omega
          have hpss : ∀ q, q < (mny d - 1) → ∀ k, k < (mny d - 1) → ga (ga mp q) k = some (mmA d q k) := fun q hq k hk => by rw [hmp q hq, if_pos hq, ga_take _ _ _ hk, fW_ga _ (by rw [rowL_len]; omega)]; rfl
          refine ws_region rfl ?_
          refine wlm 0 1 rfl rfl rfl rfl rfl rfl rfl ?_
          refine wlo 1 2 rfl rfl rfl (wo_ct rfl rfl rfl rfl rfl rfl rfl cf76 S9 (Determinant_t (B := 1) mg mp hr5 hm2 hm3 (mny d - 1) (mmA d) (by omega) (by omega) hml hgl1 hpss S9.lend) ?_)
          intro vw8 w8 M5 hle6 S10 hRw8; clear S9
          replace hdcrs := hdcrs.mono (Hp.un_mono hle6 S10.mx)
          replace hsb12 := hsb12.mono hle6
          replace hsc12 := hsc12.mono hle6
          replace hsi12 := hsi12.mono hle6
          replace hso12 := hso12.mono hle6
          replace hd1 := hd1.mono hle6
          replace hW1 := hW1.mono hle6
          replace hr2 := hr2.mono hle6
          replace hW2 := hW2.mono hle6
          replace hd2 := hd2.mono hle6
          replace hd3 := hd3.mono hle6
          replace hm2 := hm2.mono hle6
          replace hm3 := hm3.mono hle6
          replace hr5 := hr5.mono hle6
          obtain ⟨gw1, rfl, hw1⟩ := hRw8
          refine wlo 2 3 rfl rfl rfl (wo_ct rfl rfl rfl rfl rfl rfl rfl cf65 S10 (FormW_t hw1 (by omega) S10.lend) ?_)
          intro vw9 w9 M6 hle7 S11 hRw9; clear S10
          replace hdcrs := hdcrs.mono (Hp.un_mono hle7 S11.mx)
          replace hsb12 := hsb12.mono hle7
          replace hsc12 := hsc12.mono hle7
          replace hsi12 := hsi12.mono hle7
          replace hso12 := hso12.mono hle7
          replace hd1 := hd1.mono hle7
          replace hW1 := hW1.mono hle7
          replace hr2 := hr2.mono hle7
          replace hW2 := hW2.mono hle7
          replace hd2 := hd2.mono hle7
          replace hd3 := hd3.mono hle7
          replace hm2 := hm2.mono hle7
          replace hm3 := hm3.mono hle7
          replace hr5 := hr5.mono hle7
          replace hw1 := hw1.mono hle7
          obtain ⟨A3, c3, l1, rfl, hr6, hcan1, hbd1, hmk1⟩ := hRw9
          refine wlo 3 4 rfl rfl rfl (wo_ct rfl rfl rfl rfl rfl rfl rfl cf64 S11 (Normal_t l1 hr6 12 hcan1 hbd1 (by omega) S11.lend) ?_)
          intro vw10 w10 M7 hle8 S12 hRw10; clear S11
          replace hdcrs := hdcrs.mono (Hp.un_mono hle8 S12.mx)
          replace hsb12 := hsb12.mono hle8
          replace hsc12 := hsc12.mono hle8
          replace hsi12 := hsi12.mono hle8
          replace hso12 := hso12.mono hle8
          replace hd1 := hd1.mono hle8
          replace hW1 := hW1.mono hle8
          replace hr2 := hr2.mono hle8
          replace hW2 := hW2.mono hle8
          replace hd2 := hd2.mono hle8
          replace hd3 := hd3.mono hle8
          replace hm2 := hm2.mono hle8
          replace hm3 := hm3.mono hle8
          replace hr5 := hr5.mono hle8
          replace hw1 := hw1.mono hle8
          replace hr6 := hr6.mono hle8
          obtain ⟨A4, c4, l2, rfl, hr7, hcan2, hbd2, hmk2⟩ := hRw10
          refine wla 4 5 rfl rfl rfl rfl rfl rfl rfl ?_
          refine wla 5 6 rfl rfl rfl rfl rfl rfl rfl ?_
          refine wl_end rfl ?_
          refine nm_sub [(2, _), (3, _)] ⟨rfl, rfl, trivial⟩ ?_
          refine nm_thn ?_
          refine ws_ret hC [_, _] rfl rfl ⟨rfl, rfl, trivial⟩ ?_
          refine ⟨_, rfl, _, ((((hle1.trans hle3).trans hle5).trans hle6).trans hle7).trans hle8, (S12.pick [] [] (by decide) trivial), ?_⟩
          refine .inr ⟨hopn12, _, _, _, rfl, hr7, ?_⟩
          unfold IsAlex
          rw [if_neg (by omega), if_neg (by omega)]
          exact ⟨_, hcan1, hbd1, hmk1, can_ext hcan2 (unT_can hcan1 hbd1 (by omega)).1 (by rw [hmk2, mk_unT]; rfl)⟩
       ·have hb55 := of_decide_eq_false hb55
        refine ws_seqN Alexander_n62 Alexander_n63 rfl rfl rfl ?_
        refine ws_region rfl ?_
        refine wlm 0 1 rfl rfl rfl rfl rfl rfl rfl ?_
        refine wlo 1 2 rfl rfl rfl (wo_run rfl rfl (run_add rfl rfl rfl (by first | omega | (simp only [lens]; omega))) ?_)
        refine wlo 2 3 rfl rfl rfl (wo_run rfl rfl (run_eql rfl rfl rfl) ?_)
        refine wla 3 4 rfl rfl rfl rfl rfl rfl rfl ?_
        refine wl_end rfl ?_
        refine nm_sub [(7, _), (8, _), (62, _)] ⟨rfl, rfl, rfl, trivial⟩ ?_
        refine nm_thn ?_
        refine ws_condN Alexander_n64 Alexander_n65 rfl rfl rfl rfl (fun hb62 => ?_) (fun hb62 => ?_)
        ·have hb62 := of_decide_eq_true hb62
         refine ws_skip rfl ?_
         refine nm_blk ?_
         refine nm_sub [(7, _), (8, _)] ⟨rfl, rfl, trivial⟩ ?_
         refine nm_thn ?_
         refine ws_seqN Alexander_n43 Alexander_n44 rfl rfl rfl ?_
         refine ws_seqN Alexander_n45 Alexander_n46 rfl rfl rfl ?_
         have hK : (wv1).length = (mny d - 1) := by omega
         have hP : ∀ q, q < (mny d - 1) → ga (((tblA d).map fun r => r.map fW)) q = (rowL d q).map fW := fun q hq => by rw [ga_map _ _ _ (by rw [tblA_len]; omega), tblA_ga d (by omega)]
         refine ws_region rfl ?_
         refine wlm 0 1 rfl rfl rfl rfl rfl rfl rfl ?_
         refine wlo 1 2 rfl rfl rfl (wo_run rfl rfl (run_lenR (C := (cdV 94)) (i := 0) rfl rfl rfl rfl rfl rfl sl93 S5 rfl) ?_)
         refine wl_eq 67 (.int .i64 ((mny d - 1 : Nat) : Int)) rfl (int_eq (by omega)) ?_
         refine wlm 2 3 rfl rfl rfl rfl rfl rfl rfl ?_
         refine wl_end rfl ?_
         refine nm_sub [(7, _), (8, _), (67, _), (68, _)] ⟨rfl, rfl, rfl, rfl, trivial⟩ ?_
         refine nm_thn ?_
         refine ws_blockN Alexander_n47 2 rfl rfl rfl ?_
         refine ws_loopE (fun mx_ ax_ wx_ => ∃ (i : Nat) (mv : List SlV) (mg : List (List (Option Nat))) (mp : List (List (Option Pol))) (vrm : Value), mx_ = (mny d - 1) - i ∧ Env 86 [(7, vrm), (8, .int .i64 (mny d : Int)), (67, .int .i64 ((mny d - 1 : Nat) : Int)), (68, .int .i64 (i : Int))] ax_ ∧ SH wx_ M3 X [Rs.row (cdV 94) vrm mv] ∧ i ≤ (mny d - 1) ∧ mv.length = (mny d - 1) ∧ (∀ q, q < (mny d - 1) → ga mp q = if q < i then ((rowL d q).map fW).take (mny d - 1) else (rowL d q).map fW) ∧ Rd2 (cdMap 87) M3 mv mg ∧ WksA (fun _ => 1) M3 mg mp) rfl ?_ ?_
         ·intro ax_ hax_
          refine ⟨_, ⟨0, _, wg1, ((tblA d).map fun r => r.map fW), _, rfl, hax_.sub ⟨rfl, rfl, rfl, rfl, trivial⟩, S5.pick [0] [_] (by decide) ⟨rfl, trivial⟩, ?hq3f0, ?hq3f1, ?hq3f2, ?hq3f3, ?hq3f4⟩⟩
          case hq3f0 => omega
          case hq3f1 => exact hK
          case hq3f2 => (intro q hq; rw [if_neg (by omega)]; exact hP q hq)
          case hq3f3 => exact hd1
          case hq3f4 => exact hW1
         ·rintro m2 a2 w11 ⟨i, mv, mg, mp, vrm, rfl, he2, S13, hi, hml, hmp, hm2, hm3⟩
          clear S5
          refine ws_in he2 (c := Alexander_n48) rfl ?_
          clear he2 a2
          have hm21 := hm2.1
          have hm31 := hm3.1
          have hpi : i < (mny d - 1) → (ga mp i).length = mny d := fun h => by rw [hmp i h, if_neg (by omega), List.length_map, rowL_len]
          refine ws_seqN Alexander_n49 Alexander_n50 rfl rfl rfl ?_
          refine ws_region rfl ?_
          refine wlo 0 1 rfl rfl rfl (wo_run rfl rfl (run_lss rfl rfl rfl) ?_)
          refine wl_end rfl ?_
          refine nm_thn ?_
          refine ws_seqN Alexander_n51 Alexander_n52 rfl rfl rfl ?_
          refine ws_condN Alexander_n53 Alexander_n54 rfl rfl rfl rfl (fun hb69 => ?_) (fun hb69 => ?_)
          ·have hb69 := of_decide_eq_true hb69
           refine ws_skip rfl ?_
           refine nm_sub [(7, _), (8, _), (67, _), (68, _)] ⟨rfl, rfl, rfl, rfl, trivial⟩ ?_
           refine nm_thn ?_
           refine ws_seqN Alexander_n55 Alexander_n56 rfl rfl rfl ?_
           refine ws_blockN Alexander_n57 3 rfl rfl rfl ?_
           refine ws_seqN Alexander_n58 Alexander_n59 rfl rfl rfl ?_
           refine ws_region rfl ?_
           refine wlm 0 1 rfl rfl rfl rfl rfl rfl rfl ?_
           refine wla 1 2 rfl rfl rfl rfl rfl rfl rfl ?_
           refine wl_end rfl ?_
           refine nm_sub [(7, _), (8, _), (67, _), (68, _), (9, _)] ⟨rfl, rfl, rfl, rfl, rfl, trivial⟩ ?_
           refine nm_thn ?_
           have hpi2 := hpi (by omega)
           refine ws_region rfl ?_
           refine wlm 0 1 rfl rfl rfl rfl rfl rfl rfl ?_
           refine wlm 1 2 rfl rfl rfl rfl rfl rfl rfl ?_
           refine wlm 2 3 rfl rfl rfl rfl rfl rfl rfl ?_
           refine wlm 3 4 rfl rfl rfl rfl rfl rfl rfl ?_
           refine wlo 4 5 rfl rfl rfl (wo_run rfl rfl (run_indexR (C := (cdV 94)) (i := 0) i rfl rfl rfl sl93 S13 rfl (by first | rfl | omega) (by first | omega | (simp only [lens]; omega))) ?_)
           obtain ⟨hn3, hr8⟩ := hm2.2 i (by first | omega | (simp only [lens]; omega))
           have hW5 := hm3.2 i (by have := hm3.1; have := hm2.1; first | omega | (simp_all; omega))
           have hW5l := hW5.1
           refine wlo 5 6 rfl rfl rfl (wo_run rfl rfl (run_load1 rfl rfl Try.underlying94 rfl (S13.rowc (i := 0) (e := i) (j := 0) rfl (by first | omega | (simp only [lens]; omega)) rfl (congrArg (fun n => some (Value.slice _ n _)) hn3))) ?_)
           refine wlm 6 7 rfl rfl rfl rfl rfl rfl rfl ?_
           refine wlo 7 8 rfl rfl rfl (wo_run rfl rfl (run_sub rfl rfl rfl (by first | omega | (simp only [lens]; omega))) ?_)
           refine wl_eq 78 (.int .i64 ((mny d - 1 : Nat) : Int)) rfl (int_eq (by omega)) ?_
           refine wlo 8 9 rfl rfl rfl (wo_sliceT (C := (cdMap 87)) (mny d - 1) rfl rfl rfl rfl rfl sl94 (by first | rfl | omega) (by first | omega | (simp only [lens]; omega)) hr8 ?_)
           intro A5 c5 hr9
           have hW6 := hW5.take_ (mny d - 1)
           refine wlo 9 10 rfl rfl rfl (wo_run rfl rfl (run_indexR (C := (cdV 94)) (i := 0) i rfl rfl rfl sl93 S13 rfl (by first | rfl | omega) (by first | omega | (simp only [lens]; omega))) ?_)
           refine wlo 10 11 rfl rfl rfl (wo_storeR (C := (cdV 94)) (i := 0) (e := i) (j := 0) (us := [_]) (H' := [_]) (⟨A5, ((ga mg i).take (mny d - 1)).length, c5⟩ : SlV) rfl rfl S13 rfl (by first | omega | (simp only [lens]; omega)) rfl rfl rfl sz94 rfl rfl rfl rfl ?_)
           intro w12 S14; clear S13
           have hd6 := hm2.set_ hr9 i (by first | omega | (simp only [lens]; omega))
           have hd7 := hm3.set_ (i := i) hW6 (by first | omega | (simp only [lens]; omega))
           refine wl_end rfl ?_
           refine nm_blk ?_
           refine nm_sub [(7, _), (8, _), (67, _), (68, _)] ⟨rfl, rfl, rfl, rfl, trivial⟩ ?_
           refine nm_thn ?_
           refine ws_region rfl ?_
           refine wlo 0 1 rfl rfl rfl (wo_run rfl rfl (run_add rfl rfl rfl (by first | omega | (simp only [lens]; omega))) ?_)
           refine wlm 1 2 rfl rfl rfl rfl rfl rfl rfl ?_
           refine wl_end rfl ?_
           refine nm_lp ?_
           intro ax_ hax_
           refine ⟨_, ?hq4m, ⟨i + 1, _, (mg.set i ((ga mg i).take (mny d - 1))), (mp.set i ((ga mp i).take (mny d - 1))), _, rfl, hax_.sub ⟨rfl, rfl, rfl, rfl, trivial⟩, S14.pick [0] [_] (by decide) ⟨rfl, trivial⟩, ?hq4f0, ?hq4f1, ?hq4f2, ?hq4f3, ?hq4f4⟩⟩
           case hq4f0 => omega
           case hq4f1 => (rw [List.length_set]; exact hml)
           case hq4f2 => (intro q hq; rw [ga_set _ _ _ _ (by omega)]; split; (rename_i e; subst e; rw [if_pos (by omega), hmp _ hq, if_neg (by omega)]); (rw [hmp q hq]; by_cases h : q < i; (rw [if_pos h, if_pos (by omega)]); (rw [if_neg h, if_neg (by omega)])))
           case hq4f3 => exact hd6
           case hq4f4 => exact hd7
           case hq4m => omega
          ·have hb69 := of_decide_eq_false hb69
           refine ws_exit rfl rfl ?_
           refine nm_sub [(7, _)] ⟨rfl, trivial⟩ ?_
           refine nm_thn ?_
           refine ws_seqN Alexander_n60 Alexander_n61 rfl rfl rfl ?_
           obtain ⟨M8, hle10, S15, ⟨A6, c6, e2, hr10⟩⟩ := S13.pubrow (i := 0) (H' := [_]) rfl rfl (by show _ * 24 ≤ _; first | omega | (simp only [lens]; omega))
           clear S13; subst e2
           replace hdcrs := hdcrs.mono (Hp.un_mono hle10 S15.mx)
           replace hsb12 := hsb12.mono hle10
           replace hsc12 := hsc12.mono hle10
           replace hsi12 := hsi12.mono hle10
           replace hso12 := hso12.mono hle10
           replace hd1 := hd1.mono hle10
           replace hW1 := hW1.mono hle10
           replace hr2 := hr2.mono hle10
           replace hW2 := hW2.mono hle10
           replace hm2 := hm2.mono hle10
           replace hm3 := hm3.mono hle10
           obtain rfl : i = (mny d - 1) := by omega
           have hgl1 : ∀ q, q < (mny d - 1) → (ga mg q).length = (mny d - 1) := fun q hq => by have h1 := (hm3.2 q (by omega)).1; rw [h1, hmp q hq, if_pos hq, List.length_take, List.length_map, rowL_len]; omega
           have hpss : ∀ q, q < (mny d - 1) → ∀ k, k < (mny d - 1) → ga (ga mp q) k = some (mmA d q k) := fun q hq k hk => by rw [hmp q hq, if_pos hq, ga_take _ _ _ hk, fW_ga _ (by rw [rowL_len]; omega)]; rfl
           refine ws_region rfl ?_
           refine wlm 0 1 rfl rfl rfl rfl rfl rfl rfl ?_
           refine wlo 1 2 rfl rfl rfl (wo_ct rfl rfl rfl rfl rfl rfl rfl cf76 S15 (Determinant_t (B := 1) mg mp hr10 hm2 hm3 (mny d - 1) (mmA d) (by omega) (by omega) hml hgl1 hpss S15.lend) ?_)
           intro vw13 w13 M9 hle11 S16 hRw13; clear S15
           replace hdcrs := hdcrs.mono (Hp.un_mono hle11 S16.mx)
           replace hsb12 := hsb12.mono hle11
           replace hsc12 := hsc12.mono hle11
           replace hsi12 := hsi12.mono hle11
           replace hso12 := hso12.mono hle11
           replace hd1 := hd1.mono hle11
           replace hW1 := hW1.mono hle11
           replace hr2 := hr2.mono hle11
           replace hW2 := hW2.mono hle11
           replace hm2 := hm2.mono hle11
           replace hm3 := hm3.mono hle11
           replace hr10 := hr10.mono hle11
           obtain ⟨gw2, rfl, hw2⟩ := hRw13
           refine wlo 2 3 rfl rfl rfl (wo_ct rfl rfl rfl rfl rfl rfl rfl cf65 S16 (FormW_t hw2 (by omega) S16.lend) ?_)
           intro vw14 w14 M10 hle12 S17 hRw14; clear S16
           replace hdcrs := hdcrs.mono (Hp.un_mono hle12 S17.mx)
           replace hsb12 := hsb12.mono hle12
           replace hsc12 := hsc12.mono hle12
           replace hsi12 := hsi12.mono hle12
           replace hso12 := hso12.mono hle12
           replace hd1 := hd1.mono hle12
           replace hW1 := hW1.mono hle12
           replace hr2 := hr2.mono hle12
           replace hW2 := hW2.mono hle12
           replace hm2 := hm2.mono hle12
           replace hm3 := hm3.mono hle12
           replace hr10 := hr10.mono hle12
           replace hw2 := hw2.mono hle12
           obtain ⟨A7, c7, l3, rfl, hr11, hcan3, hbd3, hmk3⟩ := hRw14
           refine wlo 3 4 rfl rfl rfl (wo_ct rfl rfl rfl rfl rfl rfl rfl cf64 S17 (Normal_t l3 hr11 12 hcan3 hbd3 (by omega) S17.lend) ?_)
           intro vw15 w15 M11 hle13 S18 hRw15; clear S17
           replace hdcrs := hdcrs.mono (Hp.un_mono hle13 S18.mx)
           replace hsb12 := hsb12.mono hle13
           replace hsc12 := hsc12.mono hle13
           replace hsi12 := hsi12.mono hle13
           replace hso12 := hso12.mono hle13
           replace hd1 := hd1.mono hle13
           replace hW1 := hW1.mono hle13
           replace hr2 := hr2.mono hle13
           replace hW2 := hW2.mono hle13
           replace hm2 := hm2.mono hle13
           replace hm3 := hm3.mono hle13
           replace hr10 := hr10.mono hle13
           replace hw2 := hw2.mono hle13
           replace hr11 := hr11.mono hle13
           obtain ⟨A8, c8, l4, rfl, hr12, hcan4, hbd4, hmk4⟩ := hRw15
           refine wla 4 5 rfl rfl rfl rfl rfl rfl rfl ?_
           refine wla 5 6 rfl rfl rfl rfl rfl rfl rfl ?_
           refine wl_end rfl ?_
           refine nm_sub [(2, _), (3, _)] ⟨rfl, rfl, trivial⟩ ?_
           refine nm_thn ?_
           refine ws_ret hC [_, _] rfl rfl ⟨rfl, rfl, trivial⟩ ?_
           refine ⟨_, rfl, _, ((((hle1.trans hle3).trans hle10).trans hle11).trans hle12).trans hle13, (S18.pick [] [] (by decide) trivial), ?_⟩
           refine .inr ⟨hopn12, _, _, _, rfl, hr12, ?_⟩
           unfold IsAlex
           rw [if_neg (by omega), if_neg (by omega)]
           exact ⟨_, hcan3, hbd3, hmk3, can_ext hcan4 (unT_can hcan3 hbd3 (by omega)).1 (by rw [hmk4, mk_unT]; rfl)⟩
        ·have hb62 := of_decide_eq_false hb62
         refine ws_seqN Alexander_n66 Alexander_n67 rfl rfl rfl ?_
         refine ws_region rfl ?_
         refine wla 0 1 rfl rfl rfl rfl rfl rfl rfl ?_
         refine wla 1 2 rfl rfl rfl rfl rfl rfl rfl ?_
         refine wl_end rfl ?_
         refine nm_sub [(2, _), (3, _)] ⟨rfl, rfl, trivial⟩ ?_
         refine nm_thn ?_
         refine ws_ret hC [_, _] rfl rfl ⟨rfl, rfl, trivial⟩ ?_
         refine ⟨_, rfl, _, hle1.trans hle3, (S5.pick [] [] (by decide) trivial), ?_⟩
         exact .inr ⟨hopn12, none, 0, [], rfl, RdA.nil_, by unfold IsAlex; rw [if_neg (by omega), if_pos (by omega)]⟩
   ·have hg27 := of_decide_eq_false hg27
    refine wl_no (k := 3) (k' := 4) (d := 28) rfl rfl ⟨_, _, _, rfl, rfl, rfl, rfl⟩ rfl rfl ?_
    refine wl_no (k := 4) (k' := 5) (d := 29) rfl rfl ⟨_, _, _, rfl, rfl, rfl, rfl⟩ rfl rfl ?_
    refine wl_no (k := 5) (k' := 6) (d := 30) rfl rfl ⟨_, _, _, rfl, rfl, rfl, rfl⟩ rfl rfl ?_
    refine wl_no (k := 6) (k' := 7) (d := 31) rfl rfl ⟨_, _, _, rfl, rfl, rfl, rfl⟩ rfl rfl ?_
    refine wl_no (k := 7) (k' := 8) (d := 32) rfl rfl ⟨_, _, _, rfl, rfl, rfl, rfl⟩ rfl rfl ?_
    refine wl_no (k := 8) (k' := 9) (d := 33) rfl rfl ⟨_, _, _, rfl, rfl, rfl, rfl⟩ rfl rfl ?_
    refine wlo 9 10 rfl rfl rfl (wo_run rfl rfl (run_pickF rfl rfl rfl) ?_)
    refine wla 10 11 rfl rfl rfl rfl rfl rfl rfl ?_
    refine wl_end rfl ?_
    refine nm_sub [(4, _), (6, _), (24, _)] ⟨rfl, rfl, rfl, trivial⟩ ?_
    refine nm_thn ?_
    refine ws_condFN Alexander_n21 rfl rfl rfl ?_
    refine ws_seqN Alexander_n24 Alexander_n25 rfl rfl rfl ?_
    refine ws_region rfl ?_
    refine wlm 0 1 rfl rfl rfl rfl rfl rfl rfl ?_
    refine wlo 1 2 rfl rfl rfl (wo_run rfl rfl (run_eql rfl rfl rfl) ?_)
    refine wlm 2 3 rfl rfl rfl rfl rfl rfl rfl ?_
    refine wl_split (t := 40) rfl (fun hg40 => ?_) (fun hg40 => ?_)
    ·have hg40 := of_decide_eq_true hg40
     refine wl_no (k := 3) (k' := 4) (d := 41) rfl rfl ⟨_, _, _, rfl, rfl, rfl, rfl⟩ rfl rfl ?_
     refine wl_no (k := 4) (k' := 5) (d := 42) rfl rfl ⟨_, _, _, rfl, rfl, rfl, rfl⟩ rfl rfl ?_
     refine wl_no (k := 5) (k' := 6) (d := 43) rfl rfl ⟨_, _, _, rfl, rfl, rfl, rfl⟩ rfl rfl ?_
     refine wl_no (k := 6) (k' := 7) (d := 44) rfl rfl ⟨_, _, _, rfl, rfl, rfl, rfl⟩ rfl rfl ?_
     refine wl_no (k := 7) (k' := 8) (d := 45) rfl rfl ⟨_, _, _, rfl, rfl, rfl, rfl⟩ rfl rfl ?_
     refine wl_no (k := 8) (k' := 9) (d := 46) rfl rfl ⟨_, _, _, rfl, rfl, rfl, rfl⟩ rfl rfl ?_
     refine wlo 9 10 rfl rfl rfl (wo_run rfl rfl (run_pickT rfl rfl rfl) ?_)
     refine wla 10 11 rfl rfl rfl rfl rfl rfl rfl ?_
     refine wl_end rfl ?_
     refine nm_sub [(4, _), (6, _), (37, _)] ⟨rfl, rfl, rfl, trivial⟩ ?_
     refine nm_thn ?_
     refine ws_condTN Alexander_n26 rfl rfl rfl ?_
     refine ws_seqN Alexander_n28 Alexander_n29 rfl rfl rfl ?_
     refine ws_region rfl ?_
     refine wla 0 1 rfl rfl rfl rfl rfl rfl rfl ?_
     refine wla 1 2 rfl rfl rfl rfl rfl rfl rfl ?_
     refine wl_end rfl ?_
     refine nm_sub [(2, _), (3, _)] ⟨rfl, rfl, trivial⟩ ?_
     refine nm_thn ?_
     refine ws_ret hC [_, _] rfl rfl ⟨rfl, rfl, trivial⟩ ?_
     refine ⟨_, rfl, _, hle1, (S2.pick [] [] (by decide) trivial), ?_⟩
     exact .inr ⟨hopn12, none, 0, [], rfl, RdA.nil_, by unfold IsAlex; rw [if_neg (by omega), if_pos (by omega)]⟩
    ·have hg40 := of_decide_eq_false hg40
     refine wl_opG (k := 3) (k' := 4) rfl rfl ⟨_, _, _, rfl, rfl, rfl, rfl⟩ rfl (wo_run rfl rfl (run_move rfl rfl) ?_)
     refine wl_opG (k := 4) (k' := 5) rfl rfl ⟨_, _, _, rfl, rfl, rfl, rfl⟩ rfl (wo_run rfl rfl (run_nilCheck rfl rfl) ?_)
     refine wl_opG (k := 5) (k' := 6) rfl rfl ⟨_, _, _, rfl, rfl, rfl, rfl⟩ rfl (wo_run rfl rfl (run_fieldAddr rfl rfl Try.underlying114 rfl (ce51) (nf51)) ?_)
     refine wl_opG (k := 6) (k' := 7) rfl rfl ⟨_, _, _, rfl, rfl, rfl, rfl⟩ rfl (wo_run rfl rfl (run_fieldAddr rfl rfl Try.underlying51 rfl (ce3) (nf3)) ?_)
     refine wl_opG (k := 7) (k' := 8) rfl rfl ⟨_, _, _, rfl, rfl, rfl, rfl⟩ rfl (wo_run rfl rfl (run_load1 rfl rfl Try.underlying3 rfl (hsb12.cell S2.m rfl)) ?_)
     refine wl_opG (k := 8) (k' := 9) rfl rfl ⟨_, _, _, rfl, rfl, rfl, rfl⟩ rfl (wo_run rfl rfl (run_gtr rfl rfl rfl) ?_)
     refine wlo 9 10 rfl rfl rfl (wo_run rfl rfl (run_pickF rfl rfl rfl) ?_)
     refine wla 10 11 rfl rfl rfl rfl rfl rfl rfl ?_
     refine wl_end rfl ?_
     refine nm_sub [(4, _), (6, _), (37, _)] ⟨rfl, rfl, rfl, trivial⟩ ?_
     refine nm_thn ?_
     refine ws_condN Alexander_n26 Alexander_n27 rfl rfl rfl rfl (fun hb37 => ?_) (fun hb37 => ?_)
     ·have hb37 := of_decide_eq_true hb37
      refine ws_seqN Alexander_n28 Alexander_n29 rfl rfl rfl ?_
      refine ws_region rfl ?_
      refine wla 0 1 rfl rfl rfl rfl rfl rfl rfl ?_
      refine wla 1 2 rfl rfl rfl rfl rfl rfl rfl ?_
      refine wl_end rfl ?_
      refine nm_sub [(2, _), (3, _)] ⟨rfl, rfl, trivial⟩ ?_
      refine nm_thn ?_
      refine ws_ret hC [_, _] rfl rfl ⟨rfl, rfl, trivial⟩ ?_
      refine ⟨_, rfl, _, hle1, (S2.pick [] [] (by decide) trivial), ?_⟩
      exact .inr ⟨hopn12, none, 0, [], rfl, RdA.nil_, by unfold IsAlex; rw [if_neg (by omega), if_pos (by omega)]⟩
     ·have hb37 := of_decide_eq_false hb37
      refine ws_skip rfl ?_
      refine nm_blk ?_
      refine nm_sub [(4, _), (6, _)] ⟨rfl, rfl, trivial⟩ ?_
      refine nm_thn ?_
      refine ws_seqN Alexander_n30 Alexander_n31 rfl rfl rfl ?_
      refine ws_region rfl ?_
      refine wlm 0 1 rfl rfl rfl rfl rfl rfl rfl ?_
      refine wlo 1 2 rfl rfl rfl (wo_cto rfl rfl rfl rfl rfl rfl rfl cf78 S2 (AOwn_to d hsb12 hsc12 hsi12 hso12 hnm hab S2.lend) ?_)
      intro vw16 w16 M12 Nw16 hle14 S19 hRw16; clear S2
      replace hdcrs := hdcrs.mono (Hp.un_mono hle14 S19.mx)
      replace hsb12 := hsb12.mono hle14
      replace hsc12 := hsc12.mono hle14
      replace hsi12 := hsi12.mono hle14
      replace hso12 := hso12.mono hle14
      obtain ⟨wv2, wg2, rfl, hd8, hW7⟩ := hRw16
      change SH _ _ _ [_, _] at S19
      have htw := hd8.1
      have htx := hW7.1
      rw [List.length_map, tblA_len] at htx
      have hmge := mny_ge d
      have htt := tblA_len d
      have hgl : ∀ i, i < d.crs.length → (ga wg2 i).length = mny d := fun i hi => by have h1 := (hW7.2 i (by omega)).1; rw [ga_map _ _ _ (by rw [tblA_len]; exact hi), List.length_map, tblA_ga d hi, rowL_len] at h1; exact h1
      refine wla 2 3 rfl rfl rfl rfl rfl rfl rfl ?_
      refine wl_end rfl ?_
      refine nm_sub [(6, _), (7, _)] ⟨rfl, rfl, trivial⟩ ?_
      refine nm_thn ?_
      refine ws_seqN Alexander_n32 Alexander_n33 rfl rfl rfl ?_
      refine ws_region rfl ?_
      refine wlm 0 1 rfl rfl rfl rfl rfl rfl rfl ?_
      refine wlo 1 2 rfl rfl rfl (wo_run rfl rfl (run_indexR (C := (cdV 94)) (i := 0) 0 rfl rfl rfl sl93 S19 rfl (by first | rfl | omega) (by first | omega | (simp only [lens]; omega))) ?_)
      obtain ⟨hn4, hr13⟩ := hd8.2 0 (by first | omega | (simp only [lens]; omega))
      have hW8 := hW7.2 0 (by have := hW7.1; have := hd8.1; first | omega | (simp_all; omega))
      have hW8l := hW8.1
      refine wlo 2 3 rfl rfl rfl (wo_run rfl rfl (run_load1 rfl rfl Try.underlying94 rfl (S19.rowc (i := 0) (e := 0) (j := 0) rfl (by first | omega | (simp only [lens]; omega)) rfl (congrArg (fun n => some (Value.slice _ n _)) hn4))) ?_)
      refine wlo 3 4 rfl rfl rfl (wo_run rfl rfl (run_len rfl rfl rfl rfl rfl rfl Try.underlying94) ?_)
      refine wla 4 5 rfl rfl rfl rfl rfl rfl rfl ?_
      refine wl_end rfl ?_
      refine nm_sub [(6, _), (7, _), (8, _)] ⟨rfl, rfl, rfl, trivial⟩ ?_
      refine nm_thn ?_
      refine ws_seqN Alexander_n34 Alexander_n35 rfl rfl rfl ?_
      refine ws_seqN Alexander_n36 Alexander_n37 rfl rfl rfl ?_
      refine ws_eq 8 (.int .i64 (mny d : Int)) rfl (int_eq (by have := hgl 0 (by omega); omega)) ?_
      refine ws_region rfl ?_
      refine wlm 0 1 rfl rfl rfl rfl rfl rfl rfl ?_
      refine wl_end rfl ?_
      refine nm_sub [(6, _), (7, _), (8, _), (54, _)] ⟨rfl, rfl, rfl, rfl, trivial⟩ ?_
      refine nm_thn ?_
      refine ws_blockN Alexander_n38 1 rfl rfl rfl ?_
      refine ws_seqN Alexander_n39 Alexander_n40 rfl rfl rfl ?_
      refine ws_region rfl ?_
      refine wlm 0 1 rfl rfl rfl rfl rfl rfl rfl ?_
      refine wlo 1 2 rfl rfl rfl (wo_run rfl rfl (run_eql rfl rfl rfl) ?_)
      refine wla 2 3 rfl rfl rfl rfl rfl rfl rfl ?_
      refine wl_end rfl ?_
      refine nm_sub [(6, _), (7, _), (8, _), (54, _), (55, _)] ⟨rfl, rfl, rfl, rfl, rfl, trivial⟩ ?_
      refine nm_thn ?_
      refine ws_condN Alexander_n41 Alexander_n42 rfl rfl rfl rfl (fun hb55 => ?_) (fun hb55 => ?_)
      ·have hb55 := of_decide_eq_true hb55
       refine ws_region rfl ?_
       refine wlm 0 1 rfl rfl rfl rfl rfl rfl rfl ?_
       refine wlm 1 2 rfl rfl rfl rfl rfl rfl rfl ?_
       refine wlo 2 3 rfl rfl rfl (wo_run rfl rfl (run_sub rfl rfl rfl (by first | omega | (simp only [lens]; omega))) ?_)
       refine wl_eq 60 (.int .i64 ((d.crs.length - 1 : Nat) : Int)) rfl (int_eq (by omega)) ?_
       refine wlo 3 4 rfl rfl rfl (wo_takeR (C := (cdV 94)) (i := 0) (d.crs.length - 1) rfl rfl rfl rfl rfl sl93 (by first | rfl | omega) (by first | omega | (simp only [lens]; omega)) S19 rfl ?_)
       intro vw17 S20; clear S19
       change SH _ _ _ [Rs.row (cdV 94) vw17 (wv2.take (d.crs.length - 1)), _] at S20
       have hd9 := hd8.take_ (d.crs.length - 1)
       have hd10 := hW7.take_ (d.crs.length - 1)
       refine wla 4 5 rfl rfl rfl rfl rfl rfl rfl ?_
       refine wl_end rfl ?_
       refine nm_blk ?_
       refine nm_sub [(7, _), (8, _)] ⟨rfl, rfl, trivial⟩ ?_
       refine nm_thn ?_
       refine ws_seqN Alexander_n43 Alexander_n44 rfl rfl rfl ?_
       refine ws_seqN Alexander_n45 Alexander_n46 rfl rfl rfl ?_
       have hK : (wv2.take (d.crs.length - 1)).length = (mny d - 1) := by rw [List.length_take]; omega
       have hP : ∀ q, q < (mny d - 1) → ga (((tblA d).map fun r => r.map fW).take (d.crs.length - 1)) q = (rowL d q).map fW := fun q hq => by rw [ga_take _ _ _ (by omega), ga_map _ _ _ (by rw [tblA_len]; omega), tblA_ga d (by omega)]
       refine ws_region rfl ?_
       refine wlm 0 1 rfl rfl rfl rfl rfl rfl rfl ?_
       refine wlo 1 2 rfl rfl rfl (wo_run rfl rfl (run_lenR (C := (cdV 94)) (i := 0) rfl rfl rfl rfl rfl rfl sl93 S20 rfl) ?_)
       refine wl_eq 67 (.int .i64 ((mny d - 1 : Nat) : Int)) rfl (int_eq (by omega)) ?_
       refine wlm 2 3 rfl rfl rfl rfl rfl rfl rfl ?_
       refine wl_end rfl ?_
       refine nm_sub [(7, _), (8, _), (67, _), (68, _)] ⟨rfl, rfl, rfl, rfl, trivial⟩ ?_
       refine nm_thn ?_
       refine ws_blockN Alexander_n47 2 rfl rfl rfl ?_
       refine ws_loopE (fun mx_ ax_ wx_ => ∃ (i : Nat) (mv : List SlV) (mg : List (List (Option Nat))) (mp : List (List (Option Pol))) (vrm : Value), mx_ = (mny d - 1) - i ∧ Env 86 [(7, vrm), (8, .int .i64 (mny d : Int)), (67, .int .i64 ((mny d - 1 : Nat) : Int)), (68, .int .i64 (i : Int))] ax_ ∧ SH wx_ M12 X [Rs.row (cdV 94) vrm mv] ∧ i ≤ (mny d - 1) ∧ mv.length = (mny d - 1) ∧ (∀ q, q < (mny d - 1) → ga mp q = if q < i then ((rowL d q).map fW).take (mny d - 1) else (rowL d q).map fW) ∧ Rd2 (cdMap 87) M12 mv mg ∧ WksA (fun _ => 1) M12 mg mp) rfl ?_ ?_
       ·intro ax_ hax_
        refine ⟨_, ⟨0, _, (wg2.take (d.crs.length - 1)), (((tblA d).map fun r => r.map fW).take (d.crs.length - 1)), _, rfl, hax_.sub ⟨rfl, rfl, rfl, rfl, trivial⟩, S20.pick [0] [_] (by decide) ⟨rfl, trivial⟩, ?hq5f0, ?hq5f1, ?hq5f2, ?hq5f3, ?hq5f4⟩⟩
        case hq5f0 => omega
        case hq5f1 => exact hK
        case hq5f2 => (intro q hq; rw [if_neg (by omega)]; exact hP q hq)
        case hq5f3 => exact hd9
        case hq5f4 => exact hd10
       ·rintro m3 a3 w18 ⟨i, mv, mg, mp, vrm, rfl, he3, S21, hi, hml, hmp, hm2, hm3⟩
        clear S20
        refine ws_in he3 (c := Alexander_n48) rfl ?_
        clear he3 a3
        have hm21 := hm2.1
        have hm31 := hm3.1
        have hpi : i < (mny d - 1) → (ga mp i).length = mny d := fun h => by rw [hmp i h, if_neg (by omega), List.length_map, rowL_len]
        refine ws_seqN Alexander_n49 Alexander_n50 rfl rfl rfl ?_
        refine ws_region rfl ?_
        refine wlo 0 1 rfl rfl rfl (wo_run rfl rfl (run_lss rfl rfl rfl) ?_)
        refine wl_end rfl ?_
        refine nm_thn ?_
        refine ws_seqN Alexander_n51 Alexander_n52 rfl rfl rfl ?_
        refine ws_condN Alexander_n53 Alexander_n54 rfl rfl rfl rfl (fun hb69 => ?_) (fun hb69 => ?_)
        ·have hb69 := of_decide_eq_true hb69
         refine ws_skip rfl ?_
         refine nm_sub [(7, _), (8, _), (67, _), (68, _)] ⟨rfl, rfl, rfl, rfl, trivial⟩ ?_
         refine nm_thn ?_
         refine ws_seqN Alexander_n55 Alexander_n56 rfl rfl rfl ?_
         refine ws_blockN Alexander_n57 3 rfl rfl rfl ?_
         refine ws_seqN Alexander_n58 Alexander_n59 rfl rfl rfl ?_
         refine ws_region rfl ?_
         refine wlm 0 1 rfl rfl rfl rfl rfl rfl rfl ?_
         refine wla 1 2 rfl rfl rfl rfl rfl rfl rfl ?_
         refine wl_end rfl ?_
         refine nm_sub [(7, _), (8, _), (67, _), (68, _), (9, _)] ⟨rfl, rfl, rfl, rfl, rfl, trivial⟩ ?_
         refine nm_thn ?_
         have hpi2 := hpi (by omega)
         refine ws_region rfl ?_
         refine wlm 0 1 rfl rfl rfl rfl rfl rfl rfl ?_
         refine wlm 1 2 rfl rfl rfl rfl rfl rfl rfl ?_
         refine wlm 2 3 rfl rfl rfl rfl rfl rfl rfl ?_
         refine wlm 3 4 rfl rfl rfl rfl rfl rfl rfl ?_
         refine wlo 4 5 rfl rfl rfl (wo_run rfl rfl (run_indexR (C := (cdV 94)) (i := 0) i rfl rfl rfl sl93 S21 rfl (by first | rfl | omega) (by first | omega | (simp only [lens]; omega))) ?_)
         obtain ⟨hn5, hr14⟩ := hm2.2 i (by first | omega | (simp only [lens]; omega))
         have hW9 := hm3.2 i (by have := hm3.1; have := hm2.1; first | omega | (simp_all; omega))
         have hW9l := hW9.1
         refine wlo 5 6 rfl rfl rfl (wo_run rfl rfl (run_load1 rfl rfl Try.underlying94 rfl (S21.rowc (i := 0) (e := i) (j := 0) rfl (by first | omega | (simp only [lens]; omega)) rfl (congrArg (fun n => some (Value.slice _ n _)) hn5))) ?_)
         refine wlm 6 7 rfl rfl rfl rfl rfl rfl rfl ?_
         refine wlo 7 8 rfl rfl rfl (wo_run rfl rfl (run_sub rfl rfl rfl (by first | omega | (simp only [lens]; omega))) ?_)
         refine wl_eq 78 (.int .i64 ((mny d - 1 : Nat) : Int)) rfl (int_eq (by omega)) ?_
         refine wlo 8 9 rfl rfl rfl (wo_sliceT (C := (cdMap 87)) (mny d - 1) rfl rfl rfl rfl rfl sl94 (by first | rfl | omega) (by first | omega | (simp only [lens]; omega)) hr14 ?_)
         intro A9 c9 hr15
         have hW10 := hW9.take_ (mny d - 1)
         refine wlo 9 10 rfl rfl rfl (wo_run rfl rfl (run_indexR (C := (cdV 94)) (i := 0) i rfl rfl rfl sl93 S21 rfl (by first | rfl | omega) (by first | omega | (simp only [lens]; omega))) ?_)
         refine wlo 10 11 rfl rfl rfl (wo_storeR (C := (cdV 94)) (i := 0) (e := i) (j := 0) (us := [_]) (H' := [_]) (⟨A9, ((ga mg i).take (mny d - 1)).length, c9⟩ : SlV) rfl rfl S21 rfl (by first | omega | (simp only [lens]; omega)) rfl rfl rfl sz94 rfl rfl rfl rfl ?_)
         intro w19 S22; clear S21
         have hd11 := hm2.set_ hr15 i (by first | omega | (simp only [lens]; omega))
         have hd12 := hm3.set_ (i := i) hW10 (by first | omega | (simp only [lens]; omega))
         refine wl_end rfl ?_
         refine nm_blk ?_
         refine nm_sub [(7, _), (8, _), (67, _), (68, _)] ⟨rfl, rfl, rfl, rfl, trivial⟩ ?_
         refine nm_thn ?_
         refine ws_region rfl ?_
         refine wlo 0 1 rfl rfl rfl (wo_run rfl rfl (run_add rfl rfl rfl (by first | omega | (simp only [lens]; omega))) ?_)
         refine wlm 1 2 rfl rfl rfl rfl rfl rfl rfl ?_
         refine wl_end rfl ?_
         refine nm_lp ?_
         intro ax_ hax_
         refine ⟨_, ?hq6m, ⟨i + 1, _, (mg.set i ((ga mg i).take (mny d - 1))), (mp.set i ((ga mp i).take (mny d - 1))), _, rfl, hax_.sub ⟨rfl, rfl, rfl, rfl, trivial⟩, S22.pick [0] [_] (by decide) ⟨rfl, trivial⟩, ?hq6f0, ?hq6f1, ?hq6f2, ?hq6f3, ?hq6f4⟩⟩
         case hq6f0 => omega
         case hq6f1 => (rw [List.length_set]; exact hml)
         case hq6f2 => (intro q hq; rw [ga_set _ _ _ _ (by omega)]; split; (rename_i e; subst e; rw [if_pos (by omega), hmp _ hq, if_neg (by omega)]); (rw [hmp q hq]; by_cases h : q < i; (rw [if_pos h, if_pos (by omega)]); (rw [if_neg h, if_neg (by omega)])))
         case hq6f3 => exact hd11
         case hq6f4 => exact hd12
         case hq6m => omega
        ·have hb69 := of_decide_eq_false hb69
         refine ws_exit rfl rfl ?_
         refine nm_sub [(7, _)] ⟨rfl, trivial⟩ ?_
         refine nm_thn ?_
         refine ws_seqN Alexander_n60 Alexander_n61 rfl rfl rfl ?_
         obtain ⟨M13, hle16, S23, ⟨A10, c10, e3, hr16⟩⟩ := S21.pubrow (i := 0) (H' := [_]) rfl rfl (by show _ * 24 ≤ _; first | omega | (simp only [lens]; omega))
         clear S21; subst e3
         replace hdcrs := hdcrs.mono (Hp.un_mono hle16 S23.mx)
         replace hsb12 := hsb12.mono hle16
         replace hsc12 := hsc12.mono hle16
         replace hsi12 := hsi12.mono hle16
         replace hso12 := hso12.mono hle16
         replace hd8 := hd8.mono hle16
         replace hW7 := hW7.mono hle16
         replace hr13 := hr13.mono hle16
         replace hW8 := hW8.mono hle16
         replace hd9 := hd9.mono hle16
         replace hd10 := hd10.mono hle16
         replace hm2 := hm2.mono hle16
         replace hm3 := hm3.mono hle16
         obtain rfl : i = (mny d - 1) := by omega
         have hgl1 : ∀ q, q < (mny d - 1) → (ga mg q).length = (mny d - 1) := fun q hq => by have h1 := (hm3.2 q (by omega)).1; rw [h1, hmp q hq, if_pos hq, List.length_take, List.length_map, rowL_len]; omega
         have hpss : ∀ q, q < (mny d - 1) → ∀ k, k < (mny d - 1) → ga (ga mp q) k = some (mmA d q k) := fun q hq k hk => by rw [hmp q hq, if_pos hq, ga_take _ _ _ hk, fW_ga _ (by rw [rowL_len]; omega)]; rfl
         refine ws_region rfl ?_
         refine wlm 0 1 rfl rfl rfl rfl rfl rfl rfl ?_
         refine wlo 1 2 rfl rfl rfl (wo_ct rfl rfl rfl rfl rfl rfl rfl cf76 S23 (Determinant_t (B := 1) mg mp hr16 hm2 hm3 (mny d - 1) (mmA d) (by omega) (by omega) hml hgl1 hpss S23.lend) ?_)
         intro vw20 w20 M14 hle17 S24 hRw20; clear S23
         replace hdcrs := hdcrs.mono (Hp.un_mono hle17 S24.mx)
         replace hsb12 := hsb12.mono hle17
         replace hsc12 := hsc12.mono hle17
         replace hsi12 := hsi12.mono hle17
         replace hso12 := hso12.mono hle17
         replace hd8 := hd8.mono hle17
         replace hW7 := hW7.mono hle17
         replace hr13 := hr13.mono hle17
         replace hW8 := hW8.mono hle17
         replace hd9 := hd9.mono hle17
         replace hd10 := hd10.mono hle17
         replace hm2 := hm2.mono hle17
         replace hm3 := hm3.mono hle17
         replace hr16 := hr16.mono hle17
         obtain ⟨gw3, rfl, hw3⟩ := hRw20
         refine wlo 2 3 rfl rfl rfl (wo_ct rfl rfl rfl rfl rfl rfl rfl cf65 S24 (FormW_t hw3 (by omega) S24.lend) ?_)
         intro vw21 w21 M15 hle18 S25 hRw21; clear S24
         replace hdcrs := hdcrs.mono (Hp.un_mono hle18 S25.mx)
         replace hsb12 := hsb12.mono hle18
         replace hsc12 := hsc12.mono hle18
         replace hsi12 := hsi12.mono hle18
         replace hso12 := hso12.mono hle18
         replace hd8 := hd8.mono hle18
         replace hW7 := hW7.mono hle18
         replace hr13 := hr13.mono hle18
         replace hW8 := hW8.mono hle18
         replace hd9 := hd9.mono hle18
         replace hd10 := hd10.mono hle18
         replace hm2 := hm2.mono hle18
         replace hm3 := hm3.mono hle18
         replace hr16 := hr16.mono hle18
         replace hw3 := hw3.mono hle18
         obtain ⟨A11, c11, l5, rfl, hr17, hcan5, hbd5, hmk5⟩ := hRw21
         refine wlo 3 4 rfl rfl rfl (wo_ct rfl rfl rfl rfl rfl rfl rfl cf64 S25 (Normal_t l5 hr17 12 hcan5 hbd5 (by omega) S25.lend) ?_)
         intro vw22 w22 M16 hle19 S26 hRw22; clear S25
         replace hdcrs := hdcrs.mono (Hp.un_mono hle19 S26.mx)
         replace hsb12 := hsb12.mono hle19
         replace hsc12 := hsc12.mono hle19
         replace hsi12 := hsi12.mono hle19
         replace hso12 := hso12.mono hle19
         replace hd8 := hd8.mono hle19
         replace hW7 := hW7.mono hle19
         replace hr13 := hr13.mono hle19
         replace hW8 := hW8.mono hle19
         replace hd9 := hd9.mono hle19
         replace hd10 := hd10.mono hle19
         replace hm2 := hm2.mono hle19
         replace hm3 := hm3.mono hle19
         replace hr16 := hr16.mono hle19
         replace hw3 := hw3.mono hle19
         replace hr17 := hr17.mono hle19
         obtain ⟨A12, c12, l6, rfl, hr18, hcan6, hbd6, hmk6⟩ := hRw22
         refine wla 4 5 rfl rfl rfl rfl rfl rfl rfl ?_
         refine wla 5 6 rfl rfl rfl rfl rfl rfl rfl ?_
         refine wl_end rfl ?_
         refine nm_sub [(2, _), (3, _)] ⟨rfl, rfl, trivial⟩ ?_
         refine nm_thn ?_
         refine ws_ret hC [_, _] rfl rfl ⟨rfl, rfl, trivial⟩ ?_
         refine ⟨_, rfl, _, ((((hle1.trans hle14).trans hle16).trans hle17).trans hle18).trans hle19, (S26.pick [] [] (by decide) trivial), ?_⟩
         refine .inr ⟨hopn12, _, _, _, rfl, hr18, ?_⟩
         unfold IsAlex
         rw [if_neg (by omega), if_neg (by omega)]
         exact ⟨_, hcan5, hbd5, hmk5, can_ext hcan6 (unT_can hcan5 hbd5 (by omega)).1 (by rw [hmk6, mk_unT]; rfl)⟩
      ·have hb55 := of_decide_eq_false hb55
       refine ws_seqN Alexander_n62 Alexander_n63 rfl rfl rfl ?_
       refine ws_region rfl ?_
       refine wlm 0 1 rfl rfl rfl rfl rfl rfl rfl ?_
       refine wlo 1 2 rfl rfl rfl (wo_run rfl rfl (run_add rfl rfl rfl (by first | omega | (simp only [lens]; omega))) ?_)
       refine wlo 2 3 rfl rfl rfl (wo_run rfl rfl (run_eql rfl rfl rfl) ?_)
       refine wla 3 4 rfl rfl rfl rfl rfl rfl rfl ?_
       refine wl_end rfl ?_
       refine nm_sub [(7, _), (8, _), (62, _)] ⟨rfl, rfl, rfl, trivial⟩ ?_
       refine nm_thn ?_
       refine ws_condN Alexander_n64 Alexander_n65 rfl rfl rfl rfl (fun hb62 => ?_) (fun hb62 => ?_)
       ·have hb62 := of_decide_eq_true hb62
        refine ws_skip rfl ?_
        refine nm_blk ?_
        refine nm_sub [(7, _), (8, _)] ⟨rfl, rfl, trivial⟩ ?_
        refine nm_thn ?_
        refine ws_seqN Alexander_n43 Alexander_n44 rfl rfl rfl ?_
        refine ws_seqN Alexander_n45 Alexander_n46 rfl rfl rfl ?_
        have hK : (wv2).length = (mny d - 1) := by omega
        have hP : ∀ q, q < (mny d - 1) → ga (((tblA d).map fun r => r.map fW)) q = (rowL d q).map fW := fun q hq => by rw [ga_map _ _ _ (by rw [tblA_len]; omega), tblA_ga d (by omega)]
        refine ws_region rfl ?_
        refine wlm 0 1 rfl rfl rfl rfl rfl rfl rfl ?_
        refine wlo 1 2 rfl rfl rfl (wo_run rfl rfl (run_lenR (C := (cdV 94)) (i := 0) rfl rfl rfl rfl rfl rfl sl93 S19 rfl) ?_)
        refine wl_eq 67 (.int .i64 ((mny d - 1 : Nat) : Int)) rfl (int_eq (by omega)) ?_
        refine wlm 2 3 rfl rfl rfl rfl rfl rfl rfl ?_
        refine wl_end rfl ?_
        refine nm_sub [(7, _), (8, _), (67, _), (68, _)] ⟨rfl, rfl, rfl, rfl, trivial⟩ ?_
        refine nm_thn ?_
        refine ws_blockN Alexander_n47 2 rfl rfl rfl ?_
        refine ws_loopE (fun mx_ ax_ wx_ => ∃ (i : Nat) (mv : List SlV) (mg : List (List (Option Nat))) (mp : List (List (Option Pol))) (vrm : Value), mx_ = (mny d - 1) - i ∧ Env 86 [(7, vrm), (8, .int .i64 (mny d : Int)), (67, .int .i64 ((mny d - 1 : Nat) : Int)), (68, .int .i64 (i : Int))] ax_ ∧ SH wx_ M12 X [Rs.row (cdV 94) vrm mv] ∧ i ≤ (mny d - 1) ∧ mv.length = (mny d - 1) ∧ (∀ q, q < (mny d - 1) → ga mp q = if q < i then ((rowL d q).map fW).take (mny d - 1) else (rowL d q).map fW) ∧ Rd2 (cdMap 87) M12 mv mg ∧ WksA (fun _ => 1) M12 mg mp) rfl ?_ ?_
        ·intro ax_ hax_
         refine ⟨_, ⟨0, _, wg2, ((tblA d).map fun r => r.map fW), _, rfl, hax_.sub ⟨rfl, rfl, rfl, rfl, trivial⟩, S19.pick [0] [_] (by decide) ⟨rfl, trivial⟩, ?hq7f0, ?hq7f1, ?hq7f2, ?hq7f3, ?hq7f4⟩⟩
         case hq7f0 => omega
         case hq7f1 => exact hK
         case hq7f2 => (intro q hq; rw [if_neg (by omega)]; exact hP q hq)
         case hq7f3 => exact hd8
         case hq7f4 => exact hW7
        ·rintro m4 a4 w23 ⟨i, mv, mg, mp, vrm, rfl, he4, S27, hi, hml, hmp, hm2, hm3⟩
         clear S19
         refine ws_in he4 (c := Alexander_n48) rfl ?_
         clear he4 a4
         have hm21 := hm2.1
         have hm31 := hm3.1
         have hpi : i < (mny d - 1) → (ga mp i).length = mny d := fun h => by rw [hmp i h, if_neg (by omega), List.length_map, rowL_len]
         refine ws_seqN Alexander_n49 Alexander_n50 rfl rfl rfl ?_
         refine ws_region rfl ?_
         refine wlo 0 1 rfl rfl rfl (wo_run rfl rfl (run_lss rfl rfl rfl) ?_)
         refine wl_end rfl ?_
         refine nm_thn ?_
         refine ws_seqN Alexander_n51 Alexander_n52 rfl rfl rfl ?_
         refine ws_condN Alexander_n53 Alexander_n54 rfl rfl rfl rfl (fun hb69 => ?_) (fun hb69 => ?_)
         ·have hb69 := of_decide_eq_true hb69
          refine ws_skip rfl ?_
          refine nm_sub [(7, _), (8, _), (67, _), (68, _)] ⟨rfl, rfl, rfl, rfl, trivial⟩ ?_
          refine nm_thn ?_
          refine ws_seqN Alexander_n55 Alexander_n56 rfl rfl rfl ?_
          refine ws_blockN Alexander_n57 3 rfl rfl rfl ?_
          refine ws_seqN Alexander_n58 Alexander_n59 rfl rfl rfl ?_
          refine ws_region rfl ?_
          refine wlm 0 1 rfl rfl rfl rfl rfl rfl rfl ?_
          refine wla 1 2 rfl rfl rfl rfl rfl rfl rfl ?_
          refine wl_end rfl ?_
          refine nm_sub [(7, _), (8, _), (67, _), (68, _), (9, _)] ⟨rfl, rfl, rfl, rfl, rfl, trivial⟩ ?_
          refine nm_thn ?_
          have hpi2 := hpi (by omega)
          refine ws_region rfl ?_
          refine wlm 0 1 rfl rfl rfl rfl rfl rfl rfl ?_
          refine wlm 1 2 rfl rfl rfl rfl rfl rfl rfl ?_
          refine wlm 2 3 rfl rfl rfl rfl rfl rfl rfl ?_
          refine wlm 3 4 rfl rfl rfl rfl rfl rfl rfl ?_
          refine wlo 4 5 rfl rfl rfl (wo_run rfl rfl (run_indexR (C := (cdV 94)) (i := 0) i rfl rfl rfl sl93 S27 rfl (by first | rfl | omega) (by first | omega | (simp only [lens]; omega))) ?_)
          obtain ⟨hn6, hr19⟩ := hm2.2 i (by first | omega | (simp only [lens]; omega))
          have hW11 := hm3.2 i (by have := hm3.1; have := hm2.1; first | omega | (simp_all; omega))
          have hW11l := hW11.1
          refine wlo 5 6 rfl rfl rfl (wo_run rfl rfl (run_load1 rfl rfl Try.underlying94 rfl (S27.rowc (i := 0) (e := i) (j := 0) rfl (by first | omega | (simp only [lens]; omega)) rfl (congrArg (fun n => some (Value.slice _ n _)) hn6))) ?_)
          refine wlm 6 7 rfl rfl rfl rfl rfl rfl rfl ?_
          refine wlo 7 8 rfl rfl rfl (wo_run rfl rfl (run_sub rfl rfl rfl (by first | omega | (simp only [lens]; omega))) ?_)
          refine wl_eq 78 (.int .i64 ((mny d - 1 : Nat) : Int)) rfl (int_eq (by omega)) ?_
          refine wlo 8 9 rfl rfl rfl (wo_sliceT (C := (cdMap 87)) (mny d - 1) rfl rfl rfl rfl rfl sl94 (by first | rfl | omega) (by first | omega | (simp only [lens]; omega)) hr19 ?_)
          intro A13 c13 hr20
          have hW12 := hW11.take_ (mny d - 1)
          refine wlo 9 10 rfl rfl rfl (wo_run rfl rfl (run_indexR (C := (cdV 94)) (i := 0) i rfl rfl rfl sl93 S27 rfl (by first | rfl | omega) (by first | omega | (simp only [lens]; omega))) ?_)
          refine wlo 10 11 rfl rfl rfl (wo_storeR (C := (cdV 94)) (i := 0) (e := i) (j := 0) (us := [_]) (H' := [_]) (⟨A13, ((ga mg i).take (mny d - 1)).length, c13⟩ : SlV) rfl rfl S27 rfl (by first | omega | (simp only [lens]; omega)) rfl rfl rfl sz94 rfl rfl rfl rfl ?_)
          intro w24 S28; clear S27
          have hd13 := hm2.set_ hr20 i (by first | omega | (simp only [lens]; omega))
          have hd14 := hm3.set_ (i := i) hW12 (by first | omega | (simp only [lens]; omega))
          refine wl_end rfl ?_
          refine nm_blk ?_
          refine nm_sub [(7, _), (8, _), (67, _), (68, _)] ⟨rfl, rfl, rfl, rfl, trivial⟩ ?_
          refine nm_thn ?_
          refine ws_region rfl ?_
          refine wlo 0 1 rfl rfl rfl (wo_run rfl rfl (run_add rfl rfl rfl (by first | omega | (simp only [lens]; omega))) ?_)
          refine wlm 1 2 rfl rfl rfl rfl rfl rfl rfl ?_
          refine wl_end rfl ?_
          refine nm_lp ?_
          intro ax_ hax_
          refine ⟨_, ?hq8m, ⟨i + 1, _, (mg.set i ((ga mg i).take (mny d - 1))), (mp.set i ((ga mp i).take (mny d - 1))), _, rfl, hax_.sub ⟨rfl, rfl, rfl, rfl, trivial⟩, S28.pick [0] [_] (by decide) ⟨rfl, trivial⟩, ?hq8f0, ?hq8f1, ?hq8f2, ?hq8f3, ?hq8f4⟩⟩
          case hq8f0 => omega
          case hq8f1 => (rw [List.length_set]; exact hml)
          case hq8f2 => (intro q hq; rw [ga_set _ _ _ _ (by omega)]; split; (rename_i e; subst e; rw [if_pos (by omega), hmp _ hq, if_neg (by omega)]); (rw [hmp q hq]; by_cases h : q < i; (rw [if_pos h, if_pos (by omega)]); (rw [if_neg h, if_neg (by omega)])))
          case hq8f3 => exact hd13
          case hq8f4 => exact hd14
          case hq8m => omega
         ·have hb69 := of_decide_eq_false hb69
          refine ws_exit rfl rfl ?_
          refine nm_sub [(7, _)] ⟨rfl, trivial⟩ ?_
          refine nm_thn ?_
          refine ws_seqN Alexander_n60 Alexander_n61 rfl rfl rfl ?_
          obtain ⟨M17, hle21, S29, ⟨A14, c14, e4, hr21⟩⟩ := S27.pubrow (i := 0) (H' := [_]) rfl rfl (by show _ * 24 ≤ _; first | omega | (simp only [lens]; omega))
          clear S27; subst e4
          replace hdcrs := hdcrs.mono (Hp.un_mono hle21 S29.mx)
          replace hsb12 := hsb12.mono hle21
          replace hsc12 := hsc12.mono hle21
          replace hsi12 := hsi12.mono hle21
          replace hso12 := hso12.mono hle21
          replace hd8 := hd8.mono hle21
          replace hW7 := hW7.mono hle21
          replace hr13 := hr13.mono hle21
          replace hW8 := hW8.mono hle21
          replace hm2 := hm2.mono hle21
          replace hm3 := hm3.mono hle21
          obtain rfl : i = (mny d - 1) := by omega
          have hgl1 : ∀ q, q < (mny d - 1) → (ga mg q).length = (mny d - 1) := fun q hq => by have h1 := (hm3.2 q (by omega)).1; rw [h1, hmp q hq, if_pos hq, List.length_take, List.length_map, rowL_len]; omega
          have hpss : ∀ q, q < (mny d - 1) → ∀ k, k < (mny d - 1) → ga (ga mp q) k = some (mmA d q k) := fun q hq k hk => by rw [hmp q hq, if_pos hq, ga_take _ _ _ hk, fW_ga _ (by rw [rowL_len]; omega)]; rfl
          refine ws_region rfl ?_
          refine wlm 0 1 rfl rfl rfl rfl rfl rfl rfl ?_
          refine wlo 1 2 rfl rfl rfl (wo_ct rfl rfl rfl rfl rfl rfl rfl cf76 S29 (Determinant_t (B := 1) mg mp hr21 hm2 hm3 (mny d - 1) (mmA d) (by omega) (by omega) hml hgl1 hpss S29.lend) ?_)
          intro vw25 w25 M18 hle22 S30 hRw25; clear S29
          replace hdcrs := hdcrs.mono (Hp.un_mono hle22 S30.mx)
          replace hsb12 := hsb12.mono hle22
          replace hsc12 := hsc12.mono hle22
          replace hsi12 := hsi12.mono hle22
          replace hso12 := hso12.mono hle22
          replace hd8 := hd8.mono hle22
          replace hW7 := hW7.mono hle22
          replace hr13 := hr13.mono hle22
          replace hW8 := hW8.mono hle22
          replace hm2 := hm2.mono hle22
          replace hm3 := hm3.mono hle22
          replace hr21 := hr21.mono hle22
          obtain ⟨gw4, rfl, hw4⟩ := hRw25
          refine wlo 2 3 rfl rfl rfl (wo_ct rfl rfl rfl rfl rfl rfl rfl cf65 S30 (FormW_t hw4 (by omega) S30.lend) ?_)
          intro vw26 w26 M19 hle23 S31 hRw26; clear S30
          replace hdcrs := hdcrs.mono (Hp.un_mono hle23 S31.mx)
          replace hsb12 := hsb12.mono hle23
          replace hsc12 := hsc12.mono hle23
          replace hsi12 := hsi12.mono hle23
          replace hso12 := hso12.mono hle23
          replace hd8 := hd8.mono hle23
          replace hW7 := hW7.mono hle23
          replace hr13 := hr13.mono hle23
          replace hW8 := hW8.mono hle23
          replace hm2 := hm2.mono hle23
          replace hm3 := hm3.mono hle23
          replace hr21 := hr21.mono hle23
          replace hw4 := hw4.mono hle23
          obtain ⟨A15, c15, l7, rfl, hr22, hcan7, hbd7, hmk7⟩ := hRw26
          refine wlo 3 4 rfl rfl rfl (wo_ct rfl rfl rfl rfl rfl rfl rfl cf64 S31 (Normal_t l7 hr22 12 hcan7 hbd7 (by omega) S31.lend) ?_)
          intro vw27 w27 M20 hle24 S32 hRw27; clear S31
          replace hdcrs := hdcrs.mono (Hp.un_mono hle24 S32.mx)
          replace hsb12 := hsb12.mono hle24
          replace hsc12 := hsc12.mono hle24
          replace hsi12 := hsi12.mono hle24
          replace hso12 := hso12.mono hle24
          replace hd8 := hd8.mono hle24
          replace hW7 := hW7.mono hle24
          replace hr13 := hr13.mono hle24
          replace hW8 := hW8.mono hle24
          replace hm2 := hm2.mono hle24
          replace hm3 := hm3.mono hle24
          replace hr21 := hr21.mono hle24
          replace hw4 := hw4.mono hle24
          replace hr22 := hr22.mono hle24
          obtain ⟨A16, c16, l8, rfl, hr23, hcan8, hbd8, hmk8⟩ := hRw27
          refine wla 4 5 rfl rfl rfl rfl rfl rfl rfl ?_
          refine wla 5 6 rfl rfl rfl rfl rfl rfl rfl ?_
          refine wl_end rfl ?_
          refine nm_sub [(2, _), (3, _)] ⟨rfl, rfl, trivial⟩ ?_
          refine nm_thn ?_
          refine ws_ret hC [_, _] rfl rfl ⟨rfl, rfl, trivial⟩ ?_
          refine ⟨_, rfl, _, ((((hle1.trans hle14).trans hle21).trans hle22).trans hle23).trans hle24, (S32.pick [] [] (by decide) trivial), ?_⟩
          refine .inr ⟨hopn12, _, _, _, rfl, hr23, ?_⟩
          unfold IsAlex
          rw [if_neg (by omega), if_neg (by omega)]
          exact ⟨_, hcan7, hbd7, hmk7, can_ext hcan8 (unT_can hcan7 hbd7 (by omega)).1 (by rw [hmk8, mk_unT]; rfl)⟩
       ·have hb62 := of_decide_eq_false hb62
        refine ws_seqN Alexander_n66 Alexander_n67 rfl rfl rfl ?_
        refine ws_region rfl ?_
        refine wla 0 1 rfl rfl rfl rfl rfl rfl rfl ?_
        refine wla 1 2 rfl rfl rfl rfl rfl rfl rfl ?_
        refine wl_end rfl ?_
        refine nm_sub [(2, _), (3, _)] ⟨rfl, rfl, trivial⟩ ?_
        refine nm_thn ?_
        refine ws_ret hC [_, _] rfl rfl ⟨rfl, rfl, trivial⟩ ?_
        refine ⟨_, rfl, _, hle1.trans hle14, (S19.pick [] [] (by decide) trivial), ?_⟩
        exact .inr ⟨hopn12, none, 0, [], rfl, RdA.nil_, by unfold IsAlex; rw [if_neg (by omega), if_pos (by omega)]⟩
end Go.Proofs.Ytkcighnochjlgaa
