/- Part 10 of the proof of the law BracketTells: the walks through its functions and the plain laws that they need. -/
import Derived.Test.YtlmcnpbkmihjkaaDoorBtZ9
import Derived.LaidMore
import Derived.LaidHandle
import Derived.Stop.Joined
import Derived.Lib.SmallJoins
import Derived.Deep.Slices
import Derived.Deep.Fields
import Derived.ChangeSame
import Derived.Test.YtlmcnpbkmihjkaaDoorCards
import Derived.Test.YtlmcnpbkmihjkaaDoorTie
import Derived.OpenShut
import Derived.Lib.LaidTab
set_option linter.unusedSimpArgs false
set_option linter.unusedVariables false
namespace Go.Proofs.YtlmcnpbkmihjkaaDoor
open Go.ChangeShapes Go.WideShapes Go.ChangeAt Go.RowKit
def kdF (x : Kd) : List Value := [.int .i64 x.mo, .int .i64 x.ri]
def cdKd : Cd Kd := ⟨kdF, 2, 16, 59, ⟨0, 0⟩, fun _ => rfl, by
 intro x u hu
 simp [kdF] at hu
 rcases hu with rfl | rfl <;> rfl⟩
theorem mk59 : MapK Tryd.prog 59 (fun x => Value.agg (cdKd.f x).toArray) := mapK_st se59 (fun x y => ⟨x.mo = y.mo ∧ x.ri = y.ri, ⟨_, _, _, _, rfl, rfl, ⟨_, _, _, rfl, rfl, rfl⟩, rfl⟩, ⟨fun h => by cases x; cases y; simp at h; simp [h], fun h => by rw [h]; exact ⟨rfl, rfl⟩⟩⟩) (fun k => by simp [Instr.sameBits, cdKd, kdF])
theorem KsOk.at_ {n s : Nat} {es dn lf l1 l2 : List (Kd × Int)} {k : Kd} {v : Int} (h : KsOk n s es) (hp : (dn ++ lf).Perm es) (hl : lf = l1 ++ (k, v) :: l2) : (0 ≤ v ∧ v ≤ s) ∧ (1 ≤ k.ri ∧ k.ri ≤ 40) ∧ (-(n : Int) ≤ k.mo ∧ k.mo ≤ n) := h (k, v) (hp.mem_iff.1 (by rw [hl]; simp))
theorem kS_snoc (dn : List (Kd × Int)) (k : Kd) (v : Int) : kS (dn ++ [(k, v)]) = kS dn + kw k v := by
 rw [kS_app]
 show _ + (kw k v + Pol.o) = _
 rw [Pol.add_zero]
/-- The powers, as far as they are there. -/
def DlOk (L : Nat) (ps : List (Option Pol)) : Prop := ∀ j, j < L → ga ps j = some (dlp j)
theorem DlOk.snoc {L : Nat} {ps : List (Option Pol)} (h : DlOk L ps) (hl : ps.length = L) (h1 : 1 ≤ L) : DlOk (L + 1) (ps ++ [some (dlp (L - 1) * dlt)]) := fun j hj => by
 unfold ga
 rw [List.getD_eq_getElem?_getD]
 by_cases e : j < L
 ·rw [List.getElem?_append_left (by omega)]
  have := h j e
  unfold ga at this
  rwa [List.getD_eq_getElem?_getD] at this
 ·obtain rfl : j = L := by omega
  rw [← hl, List.getElem?_concat_length, Option.getD_some, hl]
  obtain ⟨m, rfl⟩ : ∃ m, j = m + 1 := ⟨j - 1, by omega⟩
  rfl
theorem DlOk.one : DlOk 1 [some (mk (mp 0 1 []))] := fun j hj => by
 obtain rfl : j = 0 := by omega
 rfl
theorem ents_dl : Ents (mp (-2) (-1) (mp 2 (-1) [])) 2 := mp_ents (mp_ents (Ents.nil_ 2) (by omega) (wr_id (by omega))) (by omega) (wr_id (by omega))
theorem Wks.one {bf : Nat → Nat} {N : Hp} {g : Nat} {p : Pol} (h : Wk N g (bf 0) p) : Wks bf N [some g] [some p] := (Wks.nil_ bf N).snoc h
theorem kS_step {n s : Nat} {d : Dg} {es : List (Kd × Int)} {S : Pol} (h : kS es = S) (k : Kd) : kS (mp k ((mg k es).getD 0 + 1) es) = S + kw k 1 := by rw [kS_one, h]
noncomputable def bracket_n0 : Code := Tryd.f12.body.getD .skip
noncomputable def bracket_n1 : Code := cL bracket_n0
noncomputable def bracket_n2 : Code := cR bracket_n0
noncomputable def bracket_n3 : Code := cL bracket_n2
noncomputable def bracket_n4 : Code := cR bracket_n2
noncomputable def bracket_n5 : Code := cL bracket_n4
noncomputable def bracket_n6 : Code := cR bracket_n4
noncomputable def bracket_n7 : Code := cL bracket_n6
noncomputable def bracket_n8 : Code := cR bracket_n6
noncomputable def bracket_n9 : Code := cL bracket_n7
noncomputable def bracket_n10 : Code := cR bracket_n7
noncomputable def bracket_n11 : Code := cL bracket_n10
noncomputable def bracket_n12 : Code := cL bracket_n11
noncomputable def bracket_n13 : Code := cL bracket_n12
noncomputable def bracket_n14 : Code := cR bracket_n12
noncomputable def bracket_n15 : Code := cL bracket_n14
noncomputable def bracket_n16 : Code := cR bracket_n14
noncomputable def bracket_n17 : Code := cL bracket_n15
noncomputable def bracket_n18 : Code := cR bracket_n15
noncomputable def bracket_n19 : Code := cL bracket_n16
noncomputable def bracket_n20 : Code := cR bracket_n16
noncomputable def bracket_n21 : Code := cL bracket_n19
noncomputable def bracket_n22 : Code := cL bracket_n21
noncomputable def bracket_n23 : Code := cR bracket_n21
noncomputable def bracket_n24 : Code := cL bracket_n8
noncomputable def bracket_n25 : Code := cR bracket_n8
noncomputable def bracket_n26 : Code := cL bracket_n25
noncomputable def bracket_n27 : Code := cR bracket_n25
noncomputable def bracket_n28 : Code := cL bracket_n27
noncomputable def bracket_n29 : Code := cR bracket_n27
noncomputable def bracket_n30 : Code := cL bracket_n28
noncomputable def bracket_n31 : Code := cR bracket_n28
noncomputable def bracket_n32 : Code := cL bracket_n31
noncomputable def bracket_n33 : Code := cL bracket_n32
noncomputable def bracket_n34 : Code := cL bracket_n33
noncomputable def bracket_n35 : Code := cR bracket_n33
noncomputable def bracket_n36 : Code := cL bracket_n35
noncomputable def bracket_n37 : Code := cR bracket_n35
noncomputable def bracket_n38 : Code := cL bracket_n36
noncomputable def bracket_n39 : Code := cR bracket_n36
noncomputable def bracket_n40 : Code := cL bracket_n29
noncomputable def bracket_n41 : Code := cR bracket_n29
noncomputable def bracket_n42 : Code := cL bracket_n37
noncomputable def bracket_n43 : Code := cL bracket_n42
noncomputable def bracket_n44 : Code := cR bracket_n42
noncomputable def bracket_n45 : Code := cL bracket_n44
noncomputable def bracket_n46 : Code := cR bracket_n44
noncomputable def bracket_n47 : Code := cL bracket_n45
noncomputable def bracket_n48 : Code := cL bracket_n47
noncomputable def bracket_n49 : Code := cL bracket_n48
noncomputable def bracket_n50 : Code := cR bracket_n48
noncomputable def bracket_n51 : Code := cL bracket_n49
noncomputable def bracket_n52 : Code := cR bracket_n49
noncomputable def bracket_n53 : Code := cL bracket_n52
noncomputable def bracket_n54 : Code := cR bracket_n52
noncomputable def bracket_n55 : Code := cL bracket_n50
set_option maxHeartbeats 4000000 in
set_option maxRecDepth 10000 in
theorem bracket_t {w : World} {M : Hp} {X : Fr} (d : Dg) {gsh : Nat} {cA iA oA : Option Addr} {cc ic oc : Nat} (hsb : BxM (M.un X.h) gsh 53 [.slice cA d.crs.length cc, .int .i64 d.loops, .slice iA (tabL d false (4 * d.crs.length)).length ic, .slice oA (tabL d true (4 * d.crs.length)).length oc]) (hsc : RdA cdCr (M.un X.h) cA cc d.crs) (hsi : RdA cdPl (M.un X.h) iA ic (tabL d false (4 * d.crs.length))) (hso : RdA cdPl (M.un X.h) oA oc (tabL d true (4 * d.crs.length))) (hn : d.crs.length ≤ 12) (hab : arcsB d = true) (hlo : 0 ≤ d.loops ∧ d.loops ≤ 16) (hne : ¬ (d.crs.length = 0 ∧ d.loops = 0)) (htd : TbW (M.un X.h) 0 tdL) (S : SH w M X []) : Ct Tryd.prog 12 [.pointer (some ⟨gsh, 0, none⟩)] w M X (WkR 92 (sumP (fun s => kw (kdP d s) 1) (2 ^ d.crs.length))) := by
 unfold Ct
 have hpw1 : 0 < 2 ^ d.crs.length := Nat.pow_pos (by decide)
 have hpw2 : 2 ^ d.crs.length ≤ 4096 := Nat.le_trans (Nat.pow_le_pow_right (by decide) hn) (by decide)
 refine calls_in (b := bracket_n0) Tryd.func12 rfl Tryd.ntmps12 rfl (fun C hC => ?_)
 refine ws_sub [(0, _)] ⟨rfl, trivial⟩ ?_
 refine ws_seqN bracket_n1 bracket_n2 rfl rfl rfl ?_
 refine ws_region rfl ?_
 refine wla 0 1 rfl rfl rfl rfl rfl rfl rfl ?_
 refine wl_end rfl ?_
 refine nm_sub [(0, _)] ⟨rfl, trivial⟩ ?_
 refine nm_thn ?_
 refine ws_seqN bracket_n3 bracket_n4 rfl rfl rfl ?_
 refine ws_region rfl ?_
 refine wlm 0 1 rfl rfl rfl rfl rfl rfl rfl ?_
 refine wlo 1 2 rfl rfl rfl (wo_run rfl rfl (run_nilCheck rfl rfl) ?_)
 refine wlo 2 3 rfl rfl rfl (wo_run rfl rfl (run_fieldAddr rfl rfl Tryd.underlying53 rfl (ce24) (nf24)) ?_)
 refine wlo 3 4 rfl rfl rfl (wo_run rfl rfl (run_fieldAddr rfl rfl Tryd.underlying24 rfl (ce22) (nf22)) ?_)
 refine wlo 4 5 rfl rfl rfl (wo_run rfl rfl (run_load1 rfl rfl Tryd.underlying22 rfl (hsb.cell S.um rfl)) ?_)
 refine wlo 5 6 rfl rfl rfl (wo_run rfl rfl (run_len rfl rfl rfl rfl rfl rfl Tryd.underlying22) ?_)
 refine wla 6 7 rfl rfl rfl rfl rfl rfl rfl ?_
 refine wl_end rfl ?_
 refine nm_sub [(0, _), (3, _)] ⟨rfl, rfl, trivial⟩ ?_
 refine nm_thn ?_
 refine ws_seqN bracket_n5 bracket_n6 rfl rfl rfl ?_
 refine ws_region rfl ?_
 refine wlo 0 1 rfl rfl rfl (wo_makeMap Kd Int (fun x => Value.agg (cdKd.f x).toArray) (Value.int .i64) rfl rfl rfl S ?_)
 intro gm1 w1 S1; clear S
 refine wla 1 2 rfl rfl rfl rfl rfl rfl rfl ?_
 refine wl_end rfl ?_
 refine nm_sub [(0, _), (3, _), (4, _)] ⟨rfl, rfl, rfl, trivial⟩ ?_
 refine nm_thn ?_
 refine ws_seqN bracket_n7 bracket_n8 rfl rfl rfl ?_
 refine ws_seqN bracket_n9 bracket_n10 rfl rfl rfl ?_
 refine ws_region rfl ?_
 refine wlm 0 1 rfl rfl rfl rfl rfl rfl rfl ?_
 refine wlo 1 2 rfl rfl rfl (wo_run rfl rfl (run_shl1N (n := d.crs.length) rfl rfl rfl (by first | omega | (simp only [lens]; omega))) ?_)
 refine wlm 2 3 rfl rfl rfl rfl rfl rfl rfl ?_
 refine wl_end rfl ?_
 refine nm_sub [(0, _), (3, _), (4, _), (18, _), (19, _)] ⟨rfl, rfl, rfl, rfl, rfl, trivial⟩ ?_
 refine nm_thn ?_
 refine ws_blockN bracket_n11 0 rfl rfl rfl ?_
 refine ws_loopE (fun mx_ ax_ wx_ => ∃ (t : Nat) (es : List (Kd × Int)), mx_ = 2 ^ d.crs.length - t ∧ Env 79 [(0, .pointer (some ⟨gsh, 0, none⟩)), (3, .int .i64 (d.crs.length : Int)), (4, .map (some gm1)), (18, .int .i64 ((2 ^ d.crs.length : Nat) : Int)), (19, .int .i64 (t : Int))] ax_ ∧ SH wx_ M X [Rs.mp (fun x => Value.agg (cdKd.f x).toArray) (Value.int .i64) gm1 es] ∧ t ≤ 2 ^ d.crs.length ∧ KsOk d.crs.length t es ∧ kS es = sumP (fun s => kw (kdP d s) 1) t) rfl ?_ ?_
 ·intro ax_ hax_
  refine ⟨_, ⟨0, [], rfl, hax_.sub ⟨rfl, rfl, rfl, rfl, rfl, trivial⟩, S1.pick [0] [_] (by decide) ⟨rfl, trivial⟩, ?hq1f0, ?hq1f1, ?hq1f2⟩⟩
  case hq1f0 => omega
  case hq1f1 => (intro q hq; cases hq)
  case hq1f2 => rfl
 ·rintro m2 a1 w2 ⟨t, es, rfl, he1, S2, ht, hks, hS⟩
  clear S1
  refine ws_in he1 (c := bracket_n12) rfl ?_
  clear he1 a1
  refine ws_seqN bracket_n13 bracket_n14 rfl rfl rfl ?_
  refine ws_region rfl ?_
  refine wlo 0 1 rfl rfl rfl (wo_run rfl rfl (run_lss rfl rfl rfl) ?_)
  refine wl_end rfl ?_
  refine nm_thn ?_
  refine ws_seqN bracket_n15 bracket_n16 rfl rfl rfl ?_
  refine ws_condN bracket_n17 bracket_n18 rfl rfl rfl rfl (fun hb20 => ?_) (fun hb20 => ?_)
  ·replace hb20 := of_decide_eq_true hb20
   refine ws_skip rfl ?_
   refine nm_sub [(0, _), (3, _), (4, _), (18, _), (19, _)] ⟨rfl, rfl, rfl, rfl, rfl, trivial⟩ ?_
   refine nm_thn ?_
   refine ws_seqN bracket_n19 bracket_n20 rfl rfl rfl ?_
   refine ws_blockN bracket_n21 1 rfl rfl rfl ?_
   refine ws_seqN bracket_n22 bracket_n23 rfl rfl rfl ?_
   refine ws_region rfl ?_
   refine wlm 0 1 rfl rfl rfl rfl rfl rfl rfl ?_
   refine wla 1 2 rfl rfl rfl rfl rfl rfl rfl ?_
   refine wl_end rfl ?_
   refine nm_sub [(0, _), (3, _), (4, _), (18, _), (19, _), (5, _)] ⟨rfl, rfl, rfl, rfl, rfl, rfl, trivial⟩ ?_
   refine nm_thn ?_
   obtain ⟨hpe, hpl⟩ := pc_eq (s := t) (n := d.crs.length) (by omega) hn
   have hrp8 := rngF_pos hab hlo.1 hne (flipN t)
   have hrl8 := rngF_le d (flipN t)
   refine ws_drawY rfl (by kernel_rfl) S2 16 rfl ?_
   clear S2
   refine waY_takeP (i := 0) (d := 22) 15 rfl (by kernel_rfl) (by kernel_rfl) (by kernel_rfl) rfl rfl rfl (fun w3 => run_move rfl rfl) ?_
   refine waY_takeP (i := 1) (d := 23) 14 rfl (by kernel_rfl) (by kernel_rfl) (by kernel_rfl) rfl rfl rfl (fun w4 => run_move rfl rfl) ?_
   refine waY_takeP (i := 2) (d := 24) 13 rfl (by kernel_rfl) (by kernel_rfl) (by kernel_rfl) rfl rfl rfl (fun w5 => run_move rfl rfl) ?_
   refine waY_take (i := 3) (d := 25) 12 rfl (by kernel_rfl) (by kernel_rfl) (by kernel_rfl) rfl rfl rfl (fun M4 N4 w6 hle5 S6 => .inl (run_convN (s := t) rfl rfl ⟨_, Tryd.underlying3⟩ Tryd.underlying56 (by first | omega | (simp only [lens]; omega)))) ?_
   refine waY_take (i := 4) (d := 26) 11 rfl (by kernel_rfl) (by kernel_rfl) (by kernel_rfl) rfl rfl rfl (fun M5 N5 w7 hle6 S7 => yield_cq rfl rfl rfl rfl rfl cf22 S7 (OC_q t ((by omega)) S7.lend)) ?_
   refine waY_takeP (i := 5) (d := 27) 10 rfl (by kernel_rfl) (by kernel_rfl) (by kernel_rfl) rfl rfl rfl (fun w8 => run_mul rfl rfl rfl (by first | omega | (simp only [lens]; omega))) ?_
   refine waY_takeP (i := 6) (d := 28) 9 rfl (by kernel_rfl) (by kernel_rfl) (by kernel_rfl) rfl rfl rfl (fun w9 => run_sub rfl rfl rfl (by first | omega | (simp only [lens]; omega))) ?_
   refine waY_takeP (i := 7) (d := 29) 8 rfl (by kernel_rfl) (by kernel_rfl) (by kernel_rfl) rfl rfl rfl (fun w10 => run_move rfl rfl) ?_
   refine waY_takeP (i := 8) (d := 30) 7 rfl (by kernel_rfl) (by kernel_rfl) (by kernel_rfl) rfl rfl rfl (fun w11 => run_move rfl rfl) ?_
   refine waY_take (i := 9) (d := 31) 6 rfl (by kernel_rfl) (by kernel_rfl) (by kernel_rfl) rfl rfl rfl (fun M10 N10 w12 hle11 S12 => yield_cq rfl rfl rfl rfl rfl cf23 S12 (rings_q d t ((hsb.mono (Hp.un_mono hle11 S12.mx)).mono S12.un_XH) ((hsc.mono (Hp.un_mono hle11 S12.mx)).mono S12.un_XH) ((hsi.mono (Hp.un_mono hle11 S12.mx)).mono S12.un_XH) ((hso.mono (Hp.un_mono hle11 S12.mx)).mono S12.un_XH) hn hab hlo ((htd.mono (Hp.un_mono hle11 S12.mx)).mono S12.un_XH) S12.lend)) ?_
   refine waY_take (i := 10) (d := 32) 5 rfl (by kernel_rfl) (by kernel_rfl) (by kernel_rfl) rfl rfl rfl (fun M11 N11 w13 hle12 S13 => .inl (run_build (l := [_, _]) rfl rfl st59 rfl rfl)) ?_
   refine waY_two (i := 11) (j := 13) 4 rfl rfl (by kernel_rfl) rfl rfl rfl rfl (fun w16 S16 => ?_) (fun w16 S16 => ?_)
   ·refine (wo_run rfl rfl (run_lookup (kc := (fun x => Value.agg (cdKd.f x).toArray)) (vc := Value.int .i64) (es := es) (k := (⟨(d.crs.length : Int) - (2 * (pcN t 12 : Int)), (rngF d (flipN t))⟩ : Kd)) (zv := 0) (i := 0) rfl rfl rfl Tryd.underlying54 mk59 zr3 S16 rfl) ?_)
    refine LeftWY.grow [] (Hp.le_refl _) S16 ?_; clear S16
    change WAY _ _ _ _ _ _ _ _ _ _ _ _ [_]
    have hb34 : 0 ≤ (mg (⟨(d.crs.length : Int) - (2 * (pcN t 12 : Int)), (rngF d (flipN t))⟩ : Kd) es).getD 0 ∧ (mg (⟨(d.crs.length : Int) - (2 * (pcN t 12 : Int)), (rngF d (flipN t))⟩ : Kd) es).getD 0 ≤ (t : Int) := by first | exact mgK_bd (by omega) (fun q hq => (hks q hq).1) _ | (rw [mg_mp_self]; exact mgK_bd (by omega) (fun q hq => (hks q hq).1) _)
    refine waY_takeP (i := 12) (d := 34) 3 rfl (by kernel_rfl) (by kernel_rfl) (by kernel_rfl) rfl rfl rfl (fun w17 => run_add rfl rfl rfl (by first | omega | (simp only [lens]; omega))) ?_
    refine waY_only (i := 13) 2 rfl (by kernel_rfl) rfl rfl (fun w19 S19 => ?_)
    refine (wo_mapEntry (kc := (fun x => Value.agg (cdKd.f x).toArray)) (vc := Value.int .i64) (es := es) (k := (⟨(d.crs.length : Int) - (2 * (pcN t 12 : Int)), (rngF d (flipN t))⟩ : Kd)) (zv := 0) (i := 0) rfl rfl rfl S19 rfl rfl rfl Tryd.underlying54 mk59 zr3 ?_)
    intro sx1 w20 S20; clear S19
    change SH _ _ _ [Rs.mpS (fun x => Value.agg (cdKd.f x).toArray) (Value.int .i64) gm1 (mp (⟨(d.crs.length : Int) - (2 * (pcN t 12 : Int)), (rngF d (flipN t))⟩ : Kd) ((mg (⟨(d.crs.length : Int) - (2 * (pcN t 12 : Int)), (rngF d (flipN t))⟩ : Kd) es).getD 0) es) (⟨(d.crs.length : Int) - (2 * (pcN t 12 : Int)), (rngF d (flipN t))⟩ : Kd) sx1] at S20
    refine LeftWY.turn (by kernel_rfl) S20 ?_; clear S20
    change WAY _ _ _ _ _ _ _ _ _ _ _ _ [_]
    refine waY_takeP (i := 14) (d := 36) 1 rfl (by kernel_rfl) (by kernel_rfl) (by kernel_rfl) rfl rfl rfl (fun w21 => run_extract rfl rfl rfl) ?_
    refine waY_only (i := 15) 0 rfl (by kernel_rfl) rfl rfl (fun w23 S23 => ?_)
    refine (wo_entryStore (kc := (fun x => Value.agg (cdKd.f x).toArray)) (vc := Value.int .i64) (es := (mp (⟨(d.crs.length : Int) - (2 * (pcN t 12 : Int)), (rngF d (flipN t))⟩ : Kd) ((mg (⟨(d.crs.length : Int) - (2 * (pcN t 12 : Int)), (rngF d (flipN t))⟩ : Kd) es).getD 0) es)) (k := (⟨(d.crs.length : Int) - (2 * (pcN t 12 : Int)), (rngF d (flipN t))⟩ : Kd)) (e := (((mg (⟨(d.crs.length : Int) - (2 * (pcN t 12 : Int)), (rngF d (flipN t))⟩ : Kd) es).getD 0) + 1)) (st := sx1) (i := 0) (H' := [_]) rfl rfl S23 rfl rfl rfl rfl rfl ?_)
    intro w24 S24; clear S23
    refine LeftWY.turn (by kernel_rfl) S24 ?_; clear S24
    change WAY _ _ _ _ _ _ _ _ _ _ _ _ [_]
    refine waY_end (by kernel_rfl) (fun w25 S25 => ?_)
    refine nm_blk ?_
    refine nm_sub [(0, _), (3, _), (4, _), (18, _), (19, _)] ⟨rfl, rfl, rfl, rfl, rfl, trivial⟩ ?_
    refine nm_thn ?_
    refine ws_region rfl ?_
    refine wlo 0 1 rfl rfl rfl (wo_run rfl rfl (run_add rfl rfl rfl (by first | omega | (simp only [lens]; omega))) ?_)
    refine wlm 1 2 rfl rfl rfl rfl rfl rfl rfl ?_
    refine wl_end rfl ?_
    refine nm_lp ?_
    intro ax_ hax_
    refine ⟨_, ?hq2m, ⟨t + 1, mp (⟨(d.crs.length : Int) - (2 * (pcN t 12 : Int)), (rngF d (flipN t))⟩ : Kd) (((mg (⟨(d.crs.length : Int) - (2 * (pcN t 12 : Int)), (rngF d (flipN t))⟩ : Kd) es).getD 0) + 1) (mp (⟨(d.crs.length : Int) - (2 * (pcN t 12 : Int)), (rngF d (flipN t))⟩ : Kd) ((mg (⟨(d.crs.length : Int) - (2 * (pcN t 12 : Int)), (rngF d (flipN t))⟩ : Kd) es).getD 0) es), rfl, hax_.sub ⟨rfl, rfl, rfl, rfl, rfl, trivial⟩, S25.pick [0] [_] (by decide) ⟨rfl, trivial⟩, ?hq2f0, ?hq2f1, ?hq2f2⟩⟩
    case hq2f0 => omega
    case hq2f1 => ((first | rw [mg_mp_self, mp_mp] | rw [mp_mp]); exact hks.put ⟨hrp8, by show rngF _ _ ≤ _; omega⟩ ⟨by show _ ≤ _ - _; omega, by show _ - _ ≤ _; omega⟩)
    case hq2f2 => ((first | rw [mg_mp_self, mp_mp] | rw [mp_mp]); exact kS_step (s := 0) (n := 0) (d := d) hS _)
    case hq2m => omega
   ·refine (wo_mapEntry (kc := (fun x => Value.agg (cdKd.f x).toArray)) (vc := Value.int .i64) (es := es) (k := (⟨(d.crs.length : Int) - (2 * (pcN t 12 : Int)), (rngF d (flipN t))⟩ : Kd)) (zv := 0) (i := 0) rfl rfl rfl S16 rfl rfl rfl Tryd.underlying54 mk59 zr3 ?_)
    intro sx2 w26 S26; clear S16
    change SH _ _ _ [Rs.mpS (fun x => Value.agg (cdKd.f x).toArray) (Value.int .i64) gm1 (mp (⟨(d.crs.length : Int) - (2 * (pcN t 12 : Int)), (rngF d (flipN t))⟩ : Kd) ((mg (⟨(d.crs.length : Int) - (2 * (pcN t 12 : Int)), (rngF d (flipN t))⟩ : Kd) es).getD 0) es) (⟨(d.crs.length : Int) - (2 * (pcN t 12 : Int)), (rngF d (flipN t))⟩ : Kd) sx2] at S26
    refine LeftWY.turn (by kernel_rfl) S26 ?_; clear S26
    change WAY _ _ _ _ _ _ _ _ _ _ _ _ [_]
    refine waY_takeP (i := 14) (d := 36) 3 rfl (by kernel_rfl) (by kernel_rfl) (by kernel_rfl) rfl rfl rfl (fun w28 => run_extract rfl rfl rfl) ?_
    refine waY_only (i := 11) 2 rfl (by kernel_rfl) rfl rfl (fun w30 S30 => ?_)
    refine (wo_run rfl rfl (run_lookupS (kc := (fun x => Value.agg (cdKd.f x).toArray)) (vc := Value.int .i64) (es := (mp (⟨(d.crs.length : Int) - (2 * (pcN t 12 : Int)), (rngF d (flipN t))⟩ : Kd) ((mg (⟨(d.crs.length : Int) - (2 * (pcN t 12 : Int)), (rngF d (flipN t))⟩ : Kd) es).getD 0) es)) (k := (⟨(d.crs.length : Int) - (2 * (pcN t 12 : Int)), (rngF d (flipN t))⟩ : Kd)) (zv := 0) (i := 0) rfl rfl rfl Tryd.underlying54 mk59 zr3 S30 rfl) ?_)
    refine LeftWY.grow [] (Hp.le_refl _) S30 ?_; clear S30
    change WAY _ _ _ _ _ _ _ _ _ _ _ _ [_]
    have hb34 : 0 ≤ (mg (⟨(d.crs.length : Int) - (2 * (pcN t 12 : Int)), (rngF d (flipN t))⟩ : Kd) (mp (⟨(d.crs.length : Int) - (2 * (pcN t 12 : Int)), (rngF d (flipN t))⟩ : Kd) ((mg (⟨(d.crs.length : Int) - (2 * (pcN t 12 : Int)), (rngF d (flipN t))⟩ : Kd) es).getD 0) es)).getD 0 ∧ (mg (⟨(d.crs.length : Int) - (2 * (pcN t 12 : Int)), (rngF d (flipN t))⟩ : Kd) (mp (⟨(d.crs.length : Int) - (2 * (pcN t 12 : Int)), (rngF d (flipN t))⟩ : Kd) ((mg (⟨(d.crs.length : Int) - (2 * (pcN t 12 : Int)), (rngF d (flipN t))⟩ : Kd) es).getD 0) es)).getD 0 ≤ (t : Int) := by first | exact mgK_bd (by omega) (fun q hq => (hks q hq).1) _ | (rw [mg_mp_self]; exact mgK_bd (by omega) (fun q hq => (hks q hq).1) _)
    refine waY_takeP (i := 12) (d := 34) 1 rfl (by kernel_rfl) (by kernel_rfl) (by kernel_rfl) rfl rfl rfl (fun w31 => run_add rfl rfl rfl (by first | omega | (simp only [lens]; omega))) ?_
    refine waY_only (i := 15) 0 rfl (by kernel_rfl) rfl rfl (fun w33 S33 => ?_)
    refine (wo_entryStore (kc := (fun x => Value.agg (cdKd.f x).toArray)) (vc := Value.int .i64) (es := (mp (⟨(d.crs.length : Int) - (2 * (pcN t 12 : Int)), (rngF d (flipN t))⟩ : Kd) ((mg (⟨(d.crs.length : Int) - (2 * (pcN t 12 : Int)), (rngF d (flipN t))⟩ : Kd) es).getD 0) es)) (k := (⟨(d.crs.length : Int) - (2 * (pcN t 12 : Int)), (rngF d (flipN t))⟩ : Kd)) (e := (((mg (⟨(d.crs.length : Int) - (2 * (pcN t 12 : Int)), (rngF d (flipN t))⟩ : Kd) (mp (⟨(d.crs.length : Int) - (2 * (pcN t 12 : Int)), (rngF d (flipN t))⟩ : Kd) ((mg (⟨(d.crs.length : Int) - (2 * (pcN t 12 : Int)), (rngF d (flipN t))⟩ : Kd) es).getD 0) es)).getD 0) + 1)) (st := sx2) (i := 0) (H' := [_]) rfl rfl S33 rfl rfl rfl rfl rfl ?_)
    intro w34 S34; clear S33
    refine LeftWY.turn (by kernel_rfl) S34 ?_; clear S34
    change WAY _ _ _ _ _ _ _ _ _ _ _ _ [_]
    refine waY_end (by kernel_rfl) (fun w35 S35 => ?_)
    refine nm_blk ?_
    refine nm_sub [(0, _), (3, _), (4, _), (18, _), (19, _)] ⟨rfl, rfl, rfl, rfl, rfl, trivial⟩ ?_
    refine nm_thn ?_
    refine ws_region rfl ?_
    refine wlo 0 1 rfl rfl rfl (wo_run rfl rfl (run_add rfl rfl rfl (by first | omega | (simp only [lens]; omega))) ?_)
    refine wlm 1 2 rfl rfl rfl rfl rfl rfl rfl ?_
    refine wl_end rfl ?_
    refine nm_lp ?_
    intro ax_ hax_
    refine ⟨_, ?hq3m, ⟨t + 1, mp (⟨(d.crs.length : Int) - (2 * (pcN t 12 : Int)), (rngF d (flipN t))⟩ : Kd) (((mg (⟨(d.crs.length : Int) - (2 * (pcN t 12 : Int)), (rngF d (flipN t))⟩ : Kd) (mp (⟨(d.crs.length : Int) - (2 * (pcN t 12 : Int)), (rngF d (flipN t))⟩ : Kd) ((mg (⟨(d.crs.length : Int) - (2 * (pcN t 12 : Int)), (rngF d (flipN t))⟩ : Kd) es).getD 0) es)).getD 0) + 1) (mp (⟨(d.crs.length : Int) - (2 * (pcN t 12 : Int)), (rngF d (flipN t))⟩ : Kd) ((mg (⟨(d.crs.length : Int) - (2 * (pcN t 12 : Int)), (rngF d (flipN t))⟩ : Kd) es).getD 0) es), rfl, hax_.sub ⟨rfl, rfl, rfl, rfl, rfl, trivial⟩, S35.pick [0] [_] (by decide) ⟨rfl, trivial⟩, ?hq3f0, ?hq3f1, ?hq3f2⟩⟩
    case hq3f0 => omega
    case hq3f1 => ((first | rw [mg_mp_self, mp_mp] | rw [mp_mp]); exact hks.put ⟨hrp8, by show rngF _ _ ≤ _; omega⟩ ⟨by show _ ≤ _ - _; omega, by show _ - _ ≤ _; omega⟩)
    case hq3f2 => ((first | rw [mg_mp_self, mp_mp] | rw [mp_mp]); exact kS_step (s := 0) (n := 0) (d := d) hS _)
    case hq3m => omega
  ·replace hb20 := of_decide_eq_false hb20
   refine ws_exit rfl rfl ?_
   refine nm_sub [(4, _)] ⟨rfl, trivial⟩ ?_
   refine nm_thn ?_
   refine ws_seqN bracket_n24 bracket_n25 rfl rfl rfl ?_
   refine ws_region rfl ?_
   refine wlo 0 1 rfl rfl rfl (wo_makeMap Int Int (Value.int .i64) (Value.int .i64) rfl rfl rfl S2 ?_)
   intro gm3 w36 S36; clear S2
   refine wlo 1 2 rfl rfl rfl (wo_mapUpdate (kc := Value.int .i64) (vc := Value.int .i64) (es := ([])) (k := 0) (e := 1) (i := 0) (H' := [_, _]) (.inr rfl) rfl S36 rfl rfl rfl rfl Tryd.underlying38 mk3 rfl ?_)
   intro w37 S37; clear S36
   refine wlm 2 3 rfl rfl rfl rfl rfl rfl rfl ?_
   obtain ⟨M23, hle24, S38, hm1⟩ := S37.pubmap (i := 0) (H' := [_, _]) rfl rfl; clear S37
   replace hsb := hsb.mono (Hp.un_mono hle24 S38.mx)
   replace hsc := hsc.mono (Hp.un_mono hle24 S38.mx)
   replace hsi := hsi.mono (Hp.un_mono hle24 S38.mx)
   replace hso := hso.mono (Hp.un_mono hle24 S38.mx)
   replace htd := htd.mono (Hp.un_mono hle24 S38.mx)
   have hw1 : Wk M23 gm3 (0) (mk (mp 0 1 ([]))) := ⟨_, hm1, (mp_ents (Ents.nil_ 0) (by omega) (wr_id (by omega))), rfl⟩
   refine wlo 3 4 rfl rfl rfl (wo_buildSlice1 (C := (cdMap 38)) (l := [_]) rfl rfl rfl rfl sl60 rfl rfl rfl rfl S38 ?_)
   intro gb1 w38 S39; clear S38
   refine wla 4 5 rfl rfl rfl rfl rfl rfl rfl ?_
   refine wl_end rfl ?_
   refine nm_sub [(4, _), (6, _)] ⟨rfl, rfl, trivial⟩ ?_
   refine nm_thn ?_
   refine ws_seqN bracket_n26 bracket_n27 rfl rfl rfl ?_
   have S40 := S39.boxrow (C := (cdMap 38)) [(some gm3)] (i := 0) (H' := [_, _, _]) rfl rfl (by simp) rfl; clear S39
   obtain ⟨vr1, er1⟩ : ∃ v, v = Value.slice (some ⟨gb1, 0, none⟩) ([(some gm3)]).length ([(some gm3)]).length := ⟨_, rfl⟩
   rw [← er1] at S40
   have hd1 : Wks (fun i => 2 * i) M23 [(some gm3)] [some (mk (mp 0 1 ([])))] := Wks.one (hw1.up (Nat.zero_le _))
   refine ws_eq 6 (vr1) rfl er1.symm ?_
   refine ws_region rfl ?_
   refine wlo 0 1 rfl rfl rfl (wo_makeMap Int Int (Value.int .i64) (Value.int .i64) rfl rfl rfl S40 ?_)
   intro gm4 w39 S41; clear S40
   refine wla 1 2 rfl rfl rfl rfl rfl rfl rfl ?_
   refine wl_end rfl ?_
   refine nm_sub [(4, _), (6, _), (7, _)] ⟨rfl, rfl, rfl, trivial⟩ ?_
   refine nm_thn ?_
   refine ws_seqN bracket_n28 bracket_n29 rfl rfl rfl ?_
   refine ws_seqN bracket_n30 bracket_n31 rfl rfl rfl ?_
   obtain ⟨M24, hle25, S42, hm2⟩ := S41.pubmap (i := 0) (H' := [_, _, _, _]) rfl rfl; clear S41
   replace hsb := hsb.mono (Hp.un_mono hle25 S42.mx)
   replace hsc := hsc.mono (Hp.un_mono hle25 S42.mx)
   replace hsi := hsi.mono (Hp.un_mono hle25 S42.mx)
   replace hso := hso.mono (Hp.un_mono hle25 S42.mx)
   replace htd := htd.mono (Hp.un_mono hle25 S42.mx)
   replace hm1 := hm1.mono hle25
   replace hw1 := hw1.mono hle25
   replace hd1 := hd1.mono hle25
   refine ws_region rfl ?_
   refine wlm 0 1 rfl rfl rfl rfl rfl rfl rfl ?_
   obtain ⟨M25, hle26, S43, hm3⟩ := S42.pubmap (i := 3) (H' := [_, _, _, _]) rfl rfl; clear S42
   replace hsb := hsb.mono (Hp.un_mono hle26 S43.mx)
   replace hsc := hsc.mono (Hp.un_mono hle26 S43.mx)
   replace hsi := hsi.mono (Hp.un_mono hle26 S43.mx)
   replace hso := hso.mono (Hp.un_mono hle26 S43.mx)
   replace htd := htd.mono (Hp.un_mono hle26 S43.mx)
   replace hm1 := hm1.mono hle26
   replace hw1 := hw1.mono hle26
   replace hd1 := hd1.mono hle26
   replace hm2 := hm2.mono hle26
   obtain ⟨arr1, clk1, hE1⟩ := hm3.ents
   refine wlo 1 2 rfl rfl rfl (wo_range rfl rfl rfl rfl Tryd.underlying54 S43 hE1 S43.m ?_)
   intro r2 w40 S44; clear S43
   refine wl_end rfl ?_
   refine nm_sub [(6, _), (7, _), (43, _)] ⟨rfl, rfl, rfl, trivial⟩ ?_
   refine nm_thn ?_
   refine ws_blockN bracket_n32 2 rfl rfl rfl ?_
   refine ws_loopE (fun mx_ ax_ wx_ => ∃ (sn : Array Nat) (dn : List (Kd × Int)) (lf : List (Kd × Int)) (gs : List (Option Nat)) (ps : List (Option Pol)) (go : Nat) (p : Pol) (vrp : Value) (M26 : Hp), M25.le M26 ∧ mx_ = lf.length ∧ Env 79 [(6, vrp), (7, .map (some go)), (43, .pointer (some ⟨r2, 0, none⟩))] ax_ ∧ SH wx_ M26 X [Rs.itr gm1 clk1 r2 sn, Rs.row (cdMap 38) vrp gs] ∧ Lft (fun x => Value.agg (cdKd.f x).toArray) (Value.int .i64) arr1 sn lf ∧ (dn ++ lf).Perm es ∧ (1 ≤ gs.length ∧ gs.length ≤ 40) ∧ DlOk gs.length ps ∧ Wk M26 go 92 p ∧ p = kS dn ∧ Wks (fun i => 2 * i) M26 gs ps) rfl ?_ ?_
   ·intro ax_ hax_
    refine ⟨_, ⟨#[], [], es, _, ([some (mk (mp 0 1 ([])))]), gm4, Pol.o, _, _, Hp.le_refl _, rfl, hax_.sub ⟨rfl, rfl, rfl, trivial⟩, S44.pick [0, 2] [_, _] (by decide) ⟨rfl, rfl, trivial⟩, ?hq4f0, ?hq4f1, ?hq4f2, ?hq4f3, ?hq4f4, ?hq4f5, ?hq4f6⟩⟩
    case hq4f0 => exact hE1.lft
    case hq4f1 => exact List.Perm.refl _
    case hq4f2 => (simp)
    case hq4f3 => exact DlOk.one
    case hq4f4 => exact ⟨_, hm2, Ents.nil_ _, rfl⟩
    case hq4f5 => rfl
    case hq4f6 => exact hd1
   ·rintro m5 a2 w41 ⟨sn, dn, lf, gs, ps, go, p, vrp, M26, hle27, rfl, he2, S45, hlf, hpm, hgl, hps, hwo, hp, hws⟩
    clear S44
    refine ws_in he2 (c := bracket_n33) rfl ?_
    clear he2 a2
    replace hsb := hsb.mono (Hp.un_mono hle27 S45.mx)
    replace hsc := hsc.mono (Hp.un_mono hle27 S45.mx)
    replace hsi := hsi.mono (Hp.un_mono hle27 S45.mx)
    replace hso := hso.mono (Hp.un_mono hle27 S45.mx)
    replace htd := htd.mono (Hp.un_mono hle27 S45.mx)
    replace hm1 := hm1.mono hle27
    replace hw1 := hw1.mono hle27
    replace hd1 := hd1.mono hle27
    replace hm2 := hm2.mono hle27
    replace hm3 := hm3.mono hle27
    replace hE1 := hE1.mono hle27
    have hwl := hws.1
    refine ws_seqN bracket_n34 bracket_n35 rfl rfl rfl ?_
    refine ws_region rfl ?_
    refine wlo 0 1 rfl rfl rfl (wo_next (i := 0) rfl rfl rfl rfl S45 rfl hE1 S45.m hlf (fun hlf1 => ?_) (fun k1 v1 l1_1 l2_1 sn1 w42 hlf1 hlft1 hlst1 S46 => ?_))
    ·refine wlo 1 2 rfl rfl rfl (wo_run rfl rfl (run_extract rfl rfl rfl) ?_)
     refine wl_end rfl ?_
     refine nm_sub [(6, _), (7, _), (43, _), (45, _)] ⟨rfl, rfl, rfl, rfl, trivial⟩ ?_
     refine nm_thn ?_
     refine ws_seqN bracket_n36 bracket_n37 rfl rfl rfl ?_
     refine ws_condFN bracket_n39 rfl rfl rfl ?_
     refine ws_exit rfl rfl ?_
     refine nm_sub [(7, _)] ⟨rfl, trivial⟩ ?_
     refine nm_thn ?_
     refine ws_seqN bracket_n40 bracket_n41 rfl rfl rfl ?_
     refine ws_region rfl ?_
     refine wlm 0 1 rfl rfl rfl rfl rfl rfl rfl ?_
     refine wla 1 2 rfl rfl rfl rfl rfl rfl rfl ?_
     refine wl_end rfl ?_
     refine nm_sub [(2, _)] ⟨rfl, trivial⟩ ?_
     refine nm_thn ?_
     refine ws_ret hC [_] rfl rfl ⟨rfl, trivial⟩ ?_
     refine ⟨_, rfl, _, ((hle24.trans hle25).trans hle26).trans hle27, (S45.pick [] [] (by decide) trivial), ?_⟩
     obtain rfl : lf = [] := hlf1
     rw [List.append_nil] at hpm
     have hte : t = 2 ^ d.crs.length := by omega
     rw [← hte, ← hS, ← kS_perm hpm, ← hp]
     exact ⟨_, rfl, hwo⟩
    ·clear S45
     change SH _ _ _ [Rs.itr gm1 clk1 r2 sn1, _] at S46
     refine wlo 1 2 rfl rfl rfl (wo_run rfl rfl (run_extract rfl rfl rfl) ?_)
     refine wl_end rfl ?_
     refine nm_sub [(6, _), (7, _), (43, _), (45, _)] ⟨rfl, rfl, rfl, rfl, trivial⟩ ?_
     refine nm_thn ?_
     refine ws_seqN bracket_n36 bracket_n37 rfl rfl rfl ?_
     refine ws_condTN bracket_n38 rfl rfl rfl ?_
     refine ws_skip rfl ?_
     refine nm_sub [(6, _), (7, _), (43, _)] ⟨rfl, rfl, rfl, trivial⟩ ?_
     refine nm_thn ?_
     refine ws_blockN bracket_n42 3 rfl rfl rfl ?_
     refine ws_seqN bracket_n43 bracket_n44 rfl rfl rfl ?_
     have hkb := hks.at_ hpm hlf1
     refine ws_region rfl ?_
     refine wlo 0 1 rfl rfl rfl (wo_run rfl rfl (run_entry (i := 0) rfl rfl S46 rfl hE1 S46.m hlst1) ?_)
     refine wlo 1 2 rfl rfl rfl (wo_run rfl rfl (run_extract rfl rfl rfl) ?_)
     refine wlo 2 3 rfl rfl rfl (wo_run rfl rfl (run_extract rfl rfl rfl) ?_)
     refine wlo 3 4 rfl rfl rfl (wo_alloc (l := [_, _]) rfl rfl rfl zr59 rfl S46 ?_)
     intro gb2 w43 S47; clear S46
     refine wlo 4 5 rfl rfl rfl (wo_storeB (i := 0) (us := [_, _]) (l' := [_, _]) (H' := [_, _, _]) rfl rfl S47 rfl rfl rfl rfl sz59 rfl rfl rfl rfl ?_)
     intro w44 S48; clear S47
     refine wla 5 6 rfl rfl rfl rfl rfl rfl rfl ?_
     refine wl_end rfl ?_
     refine nm_sub [(6, _), (7, _), (43, _), (8, _), (9, _)] ⟨rfl, rfl, rfl, rfl, rfl, trivial⟩ ?_
     refine nm_thn ?_
     refine ws_seqN bracket_n45 bracket_n46 rfl rfl rfl ?_
     refine ws_blockN bracket_n47 4 rfl rfl rfl ?_
     refine ws_loopE (fun mx_ ax_ wx_ => ∃ (gs2 : List (Option Nat)) (ps2 : List (Option Pol)) (vrp2 : Value) (M27 : Hp), M26.le M27 ∧ mx_ = 40 - gs2.length ∧ Env 79 [(6, vrp2), (7, .map (some go)), (43, .pointer (some ⟨r2, 0, none⟩)), (8, .pointer (some ⟨gb2, 0, none⟩)), (9, .int .i64 v1)] ax_ ∧ SH wx_ M27 X [Rs.box gb2 59 [.int .i64 k1.mo, .int .i64 k1.ri], Rs.itr gm1 clk1 r2 sn1, Rs.row (cdMap 38) vrp2 gs2] ∧ (1 ≤ gs2.length ∧ gs2.length ≤ 40) ∧ DlOk gs2.length ps2 ∧ Wks (fun i => 2 * i) M27 gs2 ps2) rfl ?_ ?_
     ·intro ax_ hax_
      refine ⟨_, ⟨_, ps, _, _, Hp.le_refl _, rfl, hax_.sub ⟨rfl, rfl, rfl, rfl, rfl, trivial⟩, S48.pick [0, 1, 2] [_, _, _] (by decide) ⟨rfl, rfl, rfl, trivial⟩, ?hq5f0, ?hq5f1, ?hq5f2⟩⟩
      case hq5f0 => exact hgl
      case hq5f1 => exact hps
      case hq5f2 => exact hws
     ·rintro m6 a3 w45 ⟨gs2, ps2, vrp2, M27, hle28, rfl, he3, S49, hgl2, hps2, hws2⟩
      clear S48
      refine ws_in he3 (c := bracket_n48) rfl ?_
      clear he3 a3
      replace hsb := hsb.mono (Hp.un_mono hle28 S49.mx)
      replace hsc := hsc.mono (Hp.un_mono hle28 S49.mx)
      replace hsi := hsi.mono (Hp.un_mono hle28 S49.mx)
      replace hso := hso.mono (Hp.un_mono hle28 S49.mx)
      replace htd := htd.mono (Hp.un_mono hle28 S49.mx)
      replace hm1 := hm1.mono hle28
      replace hw1 := hw1.mono hle28
      replace hd1 := hd1.mono hle28
      replace hm2 := hm2.mono hle28
      replace hm3 := hm3.mono hle28
      replace hE1 := hE1.mono hle28
      replace hws := hws.mono hle28
      replace hwo := hwo.mono hle28
      have hwl2 := hws2.1
      refine ws_seqN bracket_n49 bracket_n50 rfl rfl rfl ?_
      refine ws_seqN bracket_n51 bracket_n52 rfl rfl rfl ?_
      refine ws_region rfl ?_
      refine wlm 0 1 rfl rfl rfl rfl rfl rfl rfl ?_
      refine wlo 1 2 rfl rfl rfl (wo_run rfl rfl (run_lenR (C := (cdMap 38)) (i := 2) rfl rfl rfl rfl rfl rfl sl60 S49 rfl) ?_)
      refine wlo 2 3 rfl rfl rfl (wo_run rfl rfl (run_fieldAddr rfl rfl Tryd.underlying59 rfl (ce3) (nf3)) ?_)
      refine wlo 3 4 rfl rfl rfl (wo_run rfl rfl (run_load1 rfl rfl Tryd.underlying3 rfl (S49.boxc (i := 0) rfl rfl)) ?_)
      refine wlo 4 5 rfl rfl rfl (wo_run rfl rfl (run_lss rfl rfl rfl) ?_)
      refine wl_end rfl ?_
      refine nm_sub [(6, _), (7, _), (43, _), (8, _), (9, _), (53, _)] ⟨rfl, rfl, rfl, rfl, rfl, rfl, trivial⟩ ?_
      refine nm_thn ?_
      refine ws_condN bracket_n53 bracket_n54 rfl rfl rfl rfl (fun hb53 => ?_) (fun hb53 => ?_)
      ·replace hb53 := of_decide_eq_true hb53
       refine ws_skip rfl ?_
       refine nm_sub [(6, _), (7, _), (43, _), (8, _), (9, _)] ⟨rfl, rfl, rfl, rfl, rfl, trivial⟩ ?_
       refine nm_thn ?_
       refine ws_blockN bracket_n55 5 rfl rfl rfl ?_
       refine ws_region rfl ?_
       refine wlm 0 1 rfl rfl rfl rfl rfl rfl rfl ?_
       refine wlm 1 2 rfl rfl rfl rfl rfl rfl rfl ?_
       refine wlm 2 3 rfl rfl rfl rfl rfl rfl rfl ?_
       refine wlo 3 4 rfl rfl rfl (wo_run rfl rfl (run_lenR (C := (cdMap 38)) (i := 2) rfl rfl rfl rfl rfl rfl sl60 S49 rfl) ?_)
       refine wlo 4 5 rfl rfl rfl (wo_run rfl rfl (run_sub rfl rfl rfl (by first | omega | (simp only [lens]; omega))) ?_)
       refine wlo 5 6 rfl rfl rfl (wo_run rfl rfl (run_indexR (C := (cdMap 38)) (i := 2) (((gs2.length : Int) - 1).toNat) rfl rfl rfl sl60 S49 rfl (by first | rfl | omega) (by first | omega | (simp only [lens]; omega))) ?_)
       obtain ⟨gw1, eg1, hw2⟩ := hws2.get (i := ((gs2.length : Int) - 1).toNat) (p := dlp (gs2.length - 1)) (by first | omega | (simp only [lens]; omega)) (by rw [show (((gs2.length : Int) - 1).toNat) = gs2.length - 1 by omega]; exact hps2 _ (by omega))
       replace hw2 : Wk _ gw1 (2 * (((gs2.length : Int) - 1).toNat)) (dlp (gs2.length - 1)) := hw2
       refine wlo 6 7 rfl rfl rfl (wo_run rfl rfl (run_load1 rfl rfl Tryd.underlying38 rfl (S49.rowc (i := 2) (e := ((gs2.length : Int) - 1).toNat) (j := 0) rfl (by first | omega | (simp only [lens]; omega)) rfl (congrArg (fun n => some (Value.map n)) eg1))) ?_)
       refine wlo 7 8 rfl rfl rfl (wo_makeMap Int Int (Value.int .i64) (Value.int .i64) rfl rfl rfl S49 ?_)
       intro gm7 w46 S50; clear S49
       refine wlo 8 9 rfl rfl rfl (wo_mapUpdate (kc := Value.int .i64) (vc := Value.int .i64) (es := ([])) (k := 2) (e := (-1)) (i := 0) (H' := [_, _, _, _]) (.inr rfl) rfl S50 rfl rfl rfl rfl Tryd.underlying38 mk3 rfl ?_)
       intro w47 S51; clear S50
       refine wlo 9 10 rfl rfl rfl (wo_mapUpdate (kc := Value.int .i64) (vc := Value.int .i64) (es := (mp 2 (-1) ([]))) (k := (-2)) (e := (-1)) (i := 0) (H' := [_, _, _, _]) (.inr rfl) rfl S51 rfl rfl rfl rfl Tryd.underlying38 mk3 rfl ?_)
       intro w48 S52; clear S51
       refine wlm 10 11 rfl rfl rfl rfl rfl rfl rfl ?_
       obtain ⟨M28, hle29, S53, hm4⟩ := S52.pubmap (i := 0) (H' := [_, _, _, _]) rfl rfl; clear S52
       replace hsb := hsb.mono (Hp.un_mono hle29 S53.mx)
       replace hsc := hsc.mono (Hp.un_mono hle29 S53.mx)
       replace hsi := hsi.mono (Hp.un_mono hle29 S53.mx)
       replace hso := hso.mono (Hp.un_mono hle29 S53.mx)
       replace htd := htd.mono (Hp.un_mono hle29 S53.mx)
       replace hm1 := hm1.mono hle29
       replace hw1 := hw1.mono hle29
       replace hd1 := hd1.mono hle29
       replace hm2 := hm2.mono hle29
       replace hm3 := hm3.mono hle29
       replace hE1 := hE1.mono hle29
       replace hws := hws.mono hle29
       replace hwo := hwo.mono hle29
       replace hws2 := hws2.mono hle29
       replace hw2 := hw2.mono hle29
       have hw3 : Wk M28 gm7 (2) (mk (mp (-2) (-1) (mp 2 (-1) ([])))) := ⟨_, hm4, ents_dl, rfl⟩
       refine wlo 11 12 rfl rfl rfl (wo_ct rfl rfl rfl rfl rfl rfl rfl cf24 S53 (TimesW_t hw2 hw3 (by omega) S53.lend) ?_)
       intro vw49 w49 M29 hle30 S54 hRw49; clear S53
       replace hsb := hsb.mono (Hp.un_mono hle30 S54.mx)
       replace hsc := hsc.mono (Hp.un_mono hle30 S54.mx)
       replace hsi := hsi.mono (Hp.un_mono hle30 S54.mx)
       replace hso := hso.mono (Hp.un_mono hle30 S54.mx)
       replace htd := htd.mono (Hp.un_mono hle30 S54.mx)
       replace hm1 := hm1.mono hle30
       replace hw1 := hw1.mono hle30
       replace hd1 := hd1.mono hle30
       replace hm2 := hm2.mono hle30
       replace hm3 := hm3.mono hle30
       replace hE1 := hE1.mono hle30
       replace hws := hws.mono hle30
       replace hwo := hwo.mono hle30
       replace hws2 := hws2.mono hle30
       replace hw2 := hw2.mono hle30
       replace hm4 := hm4.mono hle30
       replace hw3 := hw3.mono hle30
       obtain ⟨gw2, rfl, hw4⟩ := hRw49
       refine wlo 12 13 rfl rfl rfl (wo_buildSlice1 (C := (cdMap 38)) (l := [_]) rfl rfl rfl rfl sl60 rfl rfl rfl rfl S54 ?_)
       intro gb3 w50 S55; clear S54
       refine wlo 13 14 rfl rfl rfl (wo_append1 (C := (cdMap 38)) (i := 4) (q := 0) (some gw2) rfl rfl rfl rfl rfl rfl rfl rfl sl60 S55 rfl rfl rfl (by show (_ + 1) * 8 ≤ _; first | omega | (simp only [lens]; omega)) ?_)
       intro vrp1 w51 S56; clear S55
       have S57 := S56.pick [1, 2, 3, 4] [_, _, _, _] (by decide) ⟨rfl, rfl, rfl, rfl, trivial⟩; clear S56
       have hd2 := hws2.snoc (hw4.up (by (show 2 * _ + 2 ≤ 2 * _; omega)))
       refine wla 14 15 rfl rfl rfl rfl rfl rfl rfl ?_
       refine wl_end rfl ?_
       refine nm_blk ?_
       refine nm_lp ?_
       intro ax_ hax_
       refine ⟨_, ?hq6m, ⟨_, (ps2 ++ [some ((dlp (gs2.length - 1)) * (mk (mp (-2) (-1) (mp 2 (-1) ([])))))]), _, _, ((hle28.trans hle29).trans hle30), rfl, hax_.sub ⟨rfl, rfl, rfl, rfl, rfl, trivial⟩, S57.pick [1, 2, 3] [_, _, _] (by decide) ⟨rfl, rfl, rfl, trivial⟩, ?hq6f0, ?hq6f1, ?hq6f2⟩⟩
       case hq6f0 => (rw [List.length_append]; simp only [List.length_cons, List.length_nil]; omega)
       case hq6f1 => (rw [List.length_append]; exact hps2.snoc hwl2.symm hgl2.1)
       case hq6f2 => exact hd2
       case hq6m => (rw [List.length_append]; simp only [List.length_cons, List.length_nil]; omega)
      ·replace hb53 := of_decide_eq_false hb53
       refine ws_exit rfl rfl ?_
       refine nm_sub [(6, _), (7, _), (43, _), (8, _), (9, _)] ⟨rfl, rfl, rfl, rfl, rfl, trivial⟩ ?_
       refine nm_thn ?_
       refine ws_drawY rfl (by kernel_rfl) S49 13 rfl ?_
       clear S49
       refine waY_takeP (i := 0) (d := 66) 12 rfl (by kernel_rfl) (by kernel_rfl) (by kernel_rfl) rfl rfl rfl (fun w52 => run_move rfl rfl) ?_
       refine waY_takeP (i := 1) (d := 67) 11 rfl (by kernel_rfl) (by kernel_rfl) (by kernel_rfl) rfl rfl rfl (fun w53 => run_move rfl rfl) ?_
       refine waY_takeP (i := 2) (d := 68) 10 rfl (by kernel_rfl) (by kernel_rfl) (by kernel_rfl) rfl rfl rfl (fun w54 => run_fieldAddr rfl rfl Tryd.underlying59 rfl (ce3) (nf3)) ?_
       refine waY_take (i := 3) (d := 69) 9 rfl (by kernel_rfl) (by kernel_rfl) (by kernel_rfl) rfl rfl rfl (fun M33 N26 w55 hle34 S61 => .inl (run_load1 rfl rfl Tryd.underlying3 rfl (S61.suf.boxc (i := 0) rfl rfl))) ?_
       refine waY_takeP (i := 4) (d := 70) 8 rfl (by kernel_rfl) (by kernel_rfl) (by kernel_rfl) rfl rfl rfl (fun w56 => run_sub rfl rfl rfl (by first | omega | (simp only [lens]; omega))) ?_
       refine waY_take (i := 5) (d := 71) 7 rfl (by kernel_rfl) (by kernel_rfl) (by kernel_rfl) rfl rfl rfl (fun M35 N28 w57 hle36 S63 => .inl (run_indexR (C := (cdMap 38)) (i := 2) ((k1.ri - 1).toNat) rfl rfl rfl sl60 S63.suf rfl (by first | rfl | omega) (by first | omega | (simp only [lens]; omega)))) ?_
       obtain ⟨gw3, eg2, hw5⟩ := hws2.get (i := (k1.ri - 1).toNat) (p := dlp (k1.ri.toNat - 1)) (by first | omega | (simp only [lens]; omega)) (by rw [show ((k1.ri - 1).toNat) = k1.ri.toNat - 1 by omega]; exact hps2 _ (by omega))
       replace hw5 : Wk _ gw3 (2 * ((k1.ri - 1).toNat)) (dlp (k1.ri.toNat - 1)) := hw5
       refine waY_take (i := 6) (d := 72) 6 rfl (by kernel_rfl) (by kernel_rfl) (by kernel_rfl) rfl rfl rfl (fun M36 N29 w58 hle37 S64 => .inl (run_load1 rfl rfl Tryd.underlying38 rfl (S64.suf.rowc (i := 2) (e := (k1.ri - 1).toNat) (j := 0) rfl (by first | omega | (simp only [lens]; omega)) rfl (congrArg (fun n => some (Value.map n)) eg2)))) ?_
       refine waY_takeP (i := 7) (d := 73) 5 rfl (by kernel_rfl) (by kernel_rfl) (by kernel_rfl) rfl rfl rfl (fun w59 => run_fieldAddr rfl rfl Tryd.underlying59 rfl (ce3) (nf3)) ?_
       refine waY_take (i := 8) (d := 74) 4 rfl (by kernel_rfl) (by kernel_rfl) (by kernel_rfl) rfl rfl rfl (fun M38 N31 w60 hle39 S66 => .inl (run_load1 rfl rfl Tryd.underlying3 rfl (S66.suf.boxc (i := 0) rfl rfl))) ?_
       refine waY_takeP (i := 9) (d := 75) 3 rfl (by kernel_rfl) (by kernel_rfl) (by kernel_rfl) rfl rfl rfl (fun w61 => run_move rfl rfl) ?_
       refine waY_only (i := 10) 2 rfl (by kernel_rfl) rfl rfl (fun w63 S69 => ?_)
       refine (wo_ct rfl rfl rfl rfl rfl rfl rfl cf15 S69 (ShiftW_t hw5 k1.mo v1 12 (by omega) (by omega) S69.lend) ?_)
       intro vw64 w64 M41 hle42 S70 hRw64; clear S69
       replace hsb := hsb.mono (Hp.un_mono hle42 S70.mx)
       replace hsc := hsc.mono (Hp.un_mono hle42 S70.mx)
       replace hsi := hsi.mono (Hp.un_mono hle42 S70.mx)
       replace hso := hso.mono (Hp.un_mono hle42 S70.mx)
       replace htd := htd.mono (Hp.un_mono hle42 S70.mx)
       replace hm1 := hm1.mono hle42
       replace hw1 := hw1.mono hle42
       replace hd1 := hd1.mono hle42
       replace hm2 := hm2.mono hle42
       replace hm3 := hm3.mono hle42
       replace hE1 := hE1.mono hle42
       replace hws := hws.mono hle42
       replace hwo := hwo.mono hle42
       replace hws2 := hws2.mono hle42
       replace hw5 := hw5.mono hle42
       obtain ⟨gw4, rfl, hw6⟩ := hRw64
       refine LeftWY.grow [] (hle42) S70 ?_; clear S70
       change WAY _ _ _ _ _ _ _ _ _ _ _ _ [_, _, _]
       refine waY_base ?_
       refine waY_only (i := 11) 1 rfl (by kernel_rfl) rfl rfl (fun w66 S72 => ?_)
       refine (wo_ct rfl rfl rfl rfl rfl rfl rfl cf25 S72 (PlusW_t hwo hw6 (max 92 ((2 * ((k1.ri - 1).toNat)) + 12)) (by omega) (by omega) (by omega) S72.lend) ?_)
       intro vw67 w67 M43 hle44 S73 hRw67; clear S72
       replace hsb := hsb.mono (Hp.un_mono hle44 S73.mx)
       replace hsc := hsc.mono (Hp.un_mono hle44 S73.mx)
       replace hsi := hsi.mono (Hp.un_mono hle44 S73.mx)
       replace hso := hso.mono (Hp.un_mono hle44 S73.mx)
       replace htd := htd.mono (Hp.un_mono hle44 S73.mx)
       replace hm1 := hm1.mono hle44
       replace hw1 := hw1.mono hle44
       replace hd1 := hd1.mono hle44
       replace hm2 := hm2.mono hle44
       replace hm3 := hm3.mono hle44
       replace hE1 := hE1.mono hle44
       replace hws := hws.mono hle44
       replace hwo := hwo.mono hle44
       replace hws2 := hws2.mono hle44
       replace hw5 := hw5.mono hle44
       replace hw6 := hw6.mono hle44
       obtain ⟨gw5, rfl, hw7⟩ := hRw67
       refine LeftWY.grow [] (hle44) S73 ?_; clear S73
       change WAY _ _ _ _ _ _ _ _ _ _ _ _ [_, _, _]
       refine waY_base ?_
       refine waY_takeP (i := 12) (d := 7) 0 rfl (by kernel_rfl) (by kernel_rfl) (by kernel_rfl) rfl rfl rfl (fun w68 => run_assign rfl rfl) ?_
       refine waY_end (by kernel_rfl) (fun w69 S75 => ?_)
       refine nm_blk ?_
       refine nm_lp ?_
       intro ax_ hax_
       refine ⟨_, ?hq7m, ⟨sn1, dn ++ [(k1, v1)], l1_1 ++ l2_1, _, ps2, gw5, p + ((dlp (k1.ri.toNat - 1)) * mono k1.mo v1), _, _, (((hle27.trans hle28).trans hle42).trans hle44), rfl, hax_.sub ⟨rfl, rfl, rfl, trivial⟩, S75.pick [1, 2] [_, _] (by decide) ⟨rfl, rfl, trivial⟩, ?hq7f0, ?hq7f1, ?hq7f2, ?hq7f3, ?hq7f4, ?hq7f5, ?hq7f6⟩⟩
       case hq7f0 => assumption
       case hq7f1 => (refine List.Perm.trans ?_ hpm; simp only [*, List.append_assoc, List.cons_append, List.nil_append]; exact (List.perm_append_left_iff _).2 (List.perm_middle.symm))
       case hq7f2 => omega
       case hq7f3 => assumption
       case hq7f4 => exact hw7.up (by omega)
       case hq7f5 => (rw [hp, kS_snoc]; rfl)
       case hq7f6 => exact hws2
       case hq7m => (simp only [*, List.length_append, List.length_cons]; omega)
end Go.Proofs.YtlmcnpbkmihjkaaDoor
namespace Go.Proofs.YtlmcnpbkmihjkaaDoor
open Go.ChangeShapes Go.WideShapes Go.ChangeAt Go.RowKit
theorem mayO_ne {d : Dg} (h : mayB d = true) : ¬ (d.crs.length = 0 ∧ d.loops = 0) := by
 intro h1
 have := mayB_size (d := d) (fun h2 => h2.2.2.2 h1)
 rw [this] at h; cases h
/-- What may be said of a diagram that was opened. -/
theorem errK_all {d : Dg} {m : Nat} (h : errK d m = 0) : d.crs.length ≤ m ∧ arcsB d = true ∧ (0 ≤ d.loops ∧ d.loops ≤ 16) ∧ ¬ (d.crs.length = 0 ∧ d.loops = 0) := by
 obtain ⟨h1, h2⟩ := errK_ok h
 obtain ⟨h3, _⟩ := errO_ok h1
 obtain ⟨_, h4, h5, h6⟩ := mayO h3
 exact ⟨h2, h4, ⟨h5, h6⟩, mayO_ne h3⟩
def odI (w : Int) : Int := if Int.tmod w 2 = 0 then 0 else 1
def jnT (w : Int) (t : Tm) : Tm := ⟨t.e - 3 * w, if Int.tmod w 2 = 0 then t.c else wr (-t.c)⟩
theorem mk_jnT (w : Int) : ∀ l : List Tm, mk (pr (l.map (jnT w))) = mk (pr l) * mono (-3 * w) (1 - 2 * odI w)
 | [] => (Pol.zero_mul _).symm
 | t :: l => by
  show mono (t.e - 3 * w) (if Int.tmod w 2 = 0 then t.c else wr (-t.c)) + mk (pr (l.map (jnT w))) = (mono t.e t.c + mk (pr l)) * _
  rw [mk_jnT w l, Pol.add_mul, mono_mul, show t.e - 3 * w = t.e + -3 * w by omega]
  refine congrArg (· + _) (mono_congr rfl ?_)
  unfold odI
  split
  ·rw [show t.c * (1 - 2 * 0) = t.c by omega]
  ·rw [md_wr]; congr 1; omega
theorem jnT_can {a : List Tm} {B W : Nat} {w : Int} (hw : -(W : Int) ≤ w ∧ w ≤ W) (h : Can a) (hb : Bd a B) (hB : B + 3 * W ≤ 1099511627776) : Can (a.map (jnT w)) ∧ Bd (a.map (jnT w)) (B + 3 * W) := by
 have hbd : Bd (a.map (jnT w)) (B + 3 * W) := fun t ht => by
  obtain ⟨u, hu, rfl⟩ := List.mem_map.1 ht
  have := hb u hu
  unfold jnT; dsimp only; omega
 refine ⟨⟨by rw [List.pairwise_map]; exact h.1.imp (fun {s t} h => by unfold jnT; dsimp only; omega), fun t ht => ?_⟩, hbd⟩
 have h1 := hbd t ht
 obtain ⟨u, hu, rfl⟩ := List.mem_map.1 ht
 obtain ⟨c1, c2, _⟩ := h.2 u hu
 refine ⟨?_, ?_, wr_id (by omega)⟩
 ·unfold jnT; dsimp only; split
  ·exact c1
  ·exact wr_neg_ne c1 c2
 ·unfold jnT; dsimp only; split
  ·exact c2
  ·exact wr_idem _
theorem and_odI {w : Int} (h : -16 ≤ w ∧ w ≤ 16) : IntKind.i64.wrap (((BitVec.ofInt 64 w &&& BitVec.ofInt 64 1).toNat : Nat) : Int) = odI w := by
 have : w = -16 ∨ w = -15 ∨ w = -14 ∨ w = -13 ∨ w = -12 ∨ w = -11 ∨ w = -10 ∨ w = -9 ∨ w = -8 ∨ w = -7 ∨ w = -6 ∨ w = -5 ∨ w = -4 ∨ w = -3 ∨ w = -2 ∨ w = -1 ∨ w = 0 ∨ w = 1 ∨ w = 2 ∨ w = 3 ∨ w = 4 ∨ w = 5 ∨ w = 6 ∨ w = 7 ∨ w = 8 ∨ w = 9 ∨ w = 10 ∨ w = 11 ∨ w = 12 ∨ w = 13 ∨ w = 14 ∨ w = 15 ∨ w = 16 := by omega
 rcases this with rfl | rfl | rfl | rfl | rfl | rfl | rfl | rfl | rfl | rfl | rfl | rfl | rfl | rfl | rfl | rfl | rfl | rfl | rfl | rfl | rfl | rfl | rfl | rfl | rfl | rfl | rfl | rfl | rfl | rfl | rfl | rfl | rfl <;> decide
theorem odI_bd (w : Int) : 0 ≤ odI w ∧ odI w ≤ 1 := by unfold odI; split <;> omega
/-- The bracket, and Jones's polynomial. -/
def brP (d : Dg) : Pol := sumP (gD d) (2 ^ d.crs.length)
def jnP (d : Dg) : Pol := brP d * mono (-3 * turns d) (1 - 2 * odI (turns d))
def TmE (d : Dg) (B : Nat) (p : Pol) (u : Value) (N : Hp) : Prop := (errK d 12 ≠ 0 ∧ u = .tuple [.slice none 0 0, .int .i64 (errK d 12)].toArray) ∨ (errK d 12 = 0 ∧ ∃ A c l, u = .tuple [.slice A l.length c, .int .i64 0].toArray ∧ RdA cdTm N A c l ∧ Can l ∧ Bd l B ∧ mk (pr l) = p)
noncomputable def Bracket_n0 : Code := Tryd.f4.body.getD .skip
noncomputable def Bracket_n1 : Code := cL Bracket_n0
noncomputable def Bracket_n2 : Code := cR Bracket_n0
noncomputable def Bracket_n3 : Code := cL Bracket_n2
noncomputable def Bracket_n4 : Code := cR Bracket_n2
noncomputable def Bracket_n5 : Code := cL Bracket_n4
noncomputable def Bracket_n6 : Code := cR Bracket_n4
noncomputable def Bracket_n7 : Code := cL Bracket_n5
noncomputable def Bracket_n8 : Code := cR Bracket_n5
noncomputable def Bracket_n9 : Code := cL Bracket_n8
noncomputable def Bracket_n10 : Code := cR Bracket_n8
noncomputable def Bracket_n11 : Code := cL Bracket_n9
noncomputable def Bracket_n12 : Code := cR Bracket_n9
noncomputable def Bracket_n13 : Code := cL Bracket_n6
noncomputable def Bracket_n14 : Code := cR Bracket_n6
set_option maxHeartbeats 1000000 in
set_option maxRecDepth 10000 in
theorem Bracket_t {w : World} {M : Hp} {X : Fr} (d : Dg) {dcrsA : Option Addr} {dcrsc : Nat} (hdcrs : RdA cdCr (M.un X.h) dcrsA dcrsc d.crs) (htd : TbW (M.un X.h) 0 tdL) (S : SH w M X []) : Ct Tryd.prog 4 [.agg [.slice dcrsA d.crs.length dcrsc, .int .i64 d.loops].toArray] w M X (TmE d 92 (brP d)) := by
 unfold Ct
 have rmhdcrs : d.crs.length * 40 ≤ 140737488355328 := hdcrs.room
 refine calls_in (b := Bracket_n0) Tryd.func4 rfl Tryd.ntmps4 rfl (fun C hC => ?_)
 refine ws_sub [(0, _)] ⟨rfl, trivial⟩ ?_
 refine ws_seqN Bracket_n1 Bracket_n2 rfl rfl rfl ?_
 refine ws_region rfl ?_
 refine wlo 0 1 rfl rfl rfl (wo_box (l := [_, _]) rfl rfl rfl rfl rfl S ?_)
 intro gb1 w1 S1; clear S
 refine wla 1 2 rfl rfl rfl rfl rfl rfl rfl ?_
 refine wla 2 3 rfl rfl rfl rfl rfl rfl rfl ?_
 refine wl_end rfl ?_
 refine nm_sub [(1, _)] ⟨rfl, trivial⟩ ?_
 refine nm_thn ?_
 refine ws_seqN Bracket_n3 Bracket_n4 rfl rfl rfl ?_
 refine ws_region rfl ?_
 refine wlo 0 1 rfl rfl rfl (wo_run rfl rfl (run_loadN (us := [_, _]) rfl rfl Tryd.underlying24 rfl sz24 (S1.boxcs (i := 0) rfl ⟨rfl, rfl, trivial⟩)) ?_)
 refine wlo 1 2 rfl rfl rfl (wo_ct rfl rfl rfl rfl rfl rfl rfl cf11 S1 (BOpen_t d (hdcrs.mono S1.un_XH) S1.lend) ?_)
 intro vw2 w2 M1 hle1 S2 hRw2; clear S1
 replace hdcrs := hdcrs.mono (Hp.un_mono hle1 S2.mx)
 replace htd := htd.mono (Hp.un_mono hle1 S2.mx)
 rcases hRw2 with ⟨hopn8, rfl⟩ | ⟨hopn8, g1, cA8, iA8, oA8, cc8, ic8, oc8, rfl, hsb8, hsc8, hsi8, hso8⟩
 ·refine wlm 2 3 rfl rfl rfl rfl rfl rfl rfl ?_
  refine wlo 3 4 rfl rfl rfl (wo_run rfl rfl (run_extract rfl rfl rfl) ?_)
  refine wlo 4 5 rfl rfl rfl (wo_run rfl rfl (run_extract rfl rfl rfl) ?_)
  refine wla 5 6 rfl rfl rfl rfl rfl rfl rfl ?_
  refine wla 6 7 rfl rfl rfl rfl rfl rfl rfl ?_
  refine wl_end rfl ?_
  refine nm_sub [(4, _), (5, _)] ⟨rfl, rfl, trivial⟩ ?_
  refine nm_thn ?_
  refine ws_seqN Bracket_n5 Bracket_n6 rfl rfl rfl ?_
  refine ws_seqN Bracket_n7 Bracket_n8 rfl rfl rfl ?_
  refine ws_region rfl ?_
  refine wlm 0 1 rfl rfl rfl rfl rfl rfl rfl ?_
  refine wlo 1 2 rfl rfl rfl (wo_run rfl rfl (run_neq rfl rfl rfl) ?_)
  refine wl_end rfl ?_
  refine nm_sub [(4, _), (5, _), (12, _)] ⟨rfl, rfl, rfl, trivial⟩ ?_
  refine nm_thn ?_
  refine ws_condN Bracket_n9 Bracket_n10 rfl rfl rfl rfl (fun hb12 => ?_) (fun hb12 => ?_)
  ·replace hb12 := of_decide_eq_true hb12
   refine ws_seqN Bracket_n11 Bracket_n12 rfl rfl rfl ?_
   refine ws_region rfl ?_
   refine wlm 0 1 rfl rfl rfl rfl rfl rfl rfl ?_
   refine wla 1 2 rfl rfl rfl rfl rfl rfl rfl ?_
   refine wla 2 3 rfl rfl rfl rfl rfl rfl rfl ?_
   refine wl_end rfl ?_
   refine nm_sub [(2, _), (3, _)] ⟨rfl, rfl, trivial⟩ ?_
   refine nm_thn ?_
   refine ws_ret hC [_, _] rfl rfl ⟨rfl, rfl, trivial⟩ ?_
   refine ⟨_, rfl, _, hle1, (S2.pick [] [] (by decide) trivial), ?_⟩
   exact .inl ⟨hopn8, rfl⟩
  ·replace hb12 := of_decide_eq_false hb12
   exfalso; omega
 ·obtain ⟨hn, hab, hlo, hne⟩ := errK_all hopn8
  refine wlm 2 3 rfl rfl rfl rfl rfl rfl rfl ?_
  refine wlo 3 4 rfl rfl rfl (wo_run rfl rfl (run_extract rfl rfl rfl) ?_)
  refine wlo 4 5 rfl rfl rfl (wo_run rfl rfl (run_extract rfl rfl rfl) ?_)
  refine wla 5 6 rfl rfl rfl rfl rfl rfl rfl ?_
  refine wla 6 7 rfl rfl rfl rfl rfl rfl rfl ?_
  refine wl_end rfl ?_
  refine nm_sub [(4, _), (5, _)] ⟨rfl, rfl, trivial⟩ ?_
  refine nm_thn ?_
  refine ws_seqN Bracket_n5 Bracket_n6 rfl rfl rfl ?_
  refine ws_seqN Bracket_n7 Bracket_n8 rfl rfl rfl ?_
  refine ws_region rfl ?_
  refine wlm 0 1 rfl rfl rfl rfl rfl rfl rfl ?_
  refine wlo 1 2 rfl rfl rfl (wo_run rfl rfl (run_neq rfl rfl rfl) ?_)
  refine wl_end rfl ?_
  refine nm_sub [(4, _), (5, _), (12, _)] ⟨rfl, rfl, rfl, trivial⟩ ?_
  refine nm_thn ?_
  refine ws_condN Bracket_n9 Bracket_n10 rfl rfl rfl rfl (fun hb12 => ?_) (fun hb12 => ?_)
  ·replace hb12 := of_decide_eq_true hb12
   exfalso; omega
  ·replace hb12 := of_decide_eq_false hb12
   refine ws_skip rfl ?_
   refine nm_sub [(4, _)] ⟨rfl, trivial⟩ ?_
   refine nm_thn ?_
   refine ws_seqN Bracket_n13 Bracket_n14 rfl rfl rfl ?_
   refine ws_region rfl ?_
   refine wlm 0 1 rfl rfl rfl rfl rfl rfl rfl ?_
   refine wlo 1 2 rfl rfl rfl (wo_ct rfl rfl rfl rfl rfl rfl rfl cf12 S2 (bracket_t d (hsb8.mono (Hp.le_un _ _)) (hsc8.mono (Hp.le_un _ _)) (hsi8.mono (Hp.le_un _ _)) (hso8.mono (Hp.le_un _ _)) hn hab hlo hne (htd.mono S2.un_XH) S2.lend) ?_)
   intro vw3 w3 M2 hle2 S3 hRw3; clear S2
   replace hdcrs := hdcrs.mono (Hp.un_mono hle2 S3.mx)
   replace htd := htd.mono (Hp.un_mono hle2 S3.mx)
   replace hsb8 := hsb8.mono hle2
   replace hsc8 := hsc8.mono hle2
   replace hsi8 := hsi8.mono hle2
   replace hso8 := hso8.mono hle2
   obtain ⟨gw1, rfl, hw1⟩ := hRw3
   refine wlo 2 3 rfl rfl rfl (wo_ct rfl rfl rfl rfl rfl rfl rfl cf13 S3 (FormW_t hw1 (by omega) S3.lend) ?_)
   intro vw4 w4 M3 hle3 S4 hRw4; clear S3
   replace hdcrs := hdcrs.mono (Hp.un_mono hle3 S4.mx)
   replace htd := htd.mono (Hp.un_mono hle3 S4.mx)
   replace hsb8 := hsb8.mono hle3
   replace hsc8 := hsc8.mono hle3
   replace hsi8 := hsi8.mono hle3
   replace hso8 := hso8.mono hle3
   replace hw1 := hw1.mono hle3
   obtain ⟨A1, c1, l1, rfl, hr1, hcan1, hbd1, hmk1⟩ := hRw4
   refine wla 3 4 rfl rfl rfl rfl rfl rfl rfl ?_
   refine wla 4 5 rfl rfl rfl rfl rfl rfl rfl ?_
   refine wl_end rfl ?_
   refine nm_sub [(2, _), (3, _)] ⟨rfl, rfl, trivial⟩ ?_
   refine nm_thn ?_
   refine ws_ret hC [_, _] rfl rfl ⟨rfl, rfl, trivial⟩ ?_
   refine ⟨_, rfl, _, (hle1.trans hle2).trans hle3, (S4.pick [] [] (by decide) trivial), ?_⟩
   exact .inr ⟨hopn8, _, _, _, rfl, hr1, hcan1, hbd1.mono (by omega), by (rw [hmk1]; exact sums_eq d hn)⟩
noncomputable def Jones_n0 : Code := Tryd.f6.body.getD .skip
noncomputable def Jones_n1 : Code := cL Jones_n0
noncomputable def Jones_n2 : Code := cR Jones_n0
noncomputable def Jones_n3 : Code := cL Jones_n2
noncomputable def Jones_n4 : Code := cR Jones_n2
noncomputable def Jones_n5 : Code := cL Jones_n4
noncomputable def Jones_n6 : Code := cR Jones_n4
noncomputable def Jones_n7 : Code := cL Jones_n5
noncomputable def Jones_n8 : Code := cR Jones_n5
noncomputable def Jones_n9 : Code := cL Jones_n8
noncomputable def Jones_n10 : Code := cR Jones_n8
noncomputable def Jones_n11 : Code := cL Jones_n9
noncomputable def Jones_n12 : Code := cR Jones_n9
noncomputable def Jones_n13 : Code := cL Jones_n6
noncomputable def Jones_n14 : Code := cR Jones_n6
noncomputable def Jones_n15 : Code := cL Jones_n14
noncomputable def Jones_n16 : Code := cR Jones_n14
set_option maxHeartbeats 1000000 in
set_option maxRecDepth 10000 in
theorem Jones_t {w : World} {M : Hp} {X : Fr} (d : Dg) {dcrsA : Option Addr} {dcrsc : Nat} (hdcrs : RdA cdCr (M.un X.h) dcrsA dcrsc d.crs) (htd : TbW (M.un X.h) 0 tdL) (S : SH w M X []) : Ct Tryd.prog 6 [.agg [.slice dcrsA d.crs.length dcrsc, .int .i64 d.loops].toArray] w M X (TmE d 128 (jnP d)) := by
 unfold Ct
 have rmhdcrs : d.crs.length * 40 ≤ 140737488355328 := hdcrs.room
 refine calls_in (b := Jones_n0) Tryd.func6 rfl Tryd.ntmps6 rfl (fun C hC => ?_)
 refine ws_sub [(0, _)] ⟨rfl, trivial⟩ ?_
 refine ws_seqN Jones_n1 Jones_n2 rfl rfl rfl ?_
 refine ws_region rfl ?_
 refine wlo 0 1 rfl rfl rfl (wo_box (l := [_, _]) rfl rfl rfl rfl rfl S ?_)
 intro gb1 w1 S1; clear S
 refine wla 1 2 rfl rfl rfl rfl rfl rfl rfl ?_
 refine wla 2 3 rfl rfl rfl rfl rfl rfl rfl ?_
 refine wl_end rfl ?_
 refine nm_sub [(1, _)] ⟨rfl, trivial⟩ ?_
 refine nm_thn ?_
 refine ws_seqN Jones_n3 Jones_n4 rfl rfl rfl ?_
 refine ws_region rfl ?_
 refine wlo 0 1 rfl rfl rfl (wo_run rfl rfl (run_loadN (us := [_, _]) rfl rfl Tryd.underlying24 rfl sz24 (S1.boxcs (i := 0) rfl ⟨rfl, rfl, trivial⟩)) ?_)
 refine wlo 1 2 rfl rfl rfl (wo_ct rfl rfl rfl rfl rfl rfl rfl cf11 S1 (BOpen_t d (hdcrs.mono S1.un_XH) S1.lend) ?_)
 intro vw2 w2 M1 hle1 S2 hRw2; clear S1
 replace hdcrs := hdcrs.mono (Hp.un_mono hle1 S2.mx)
 replace htd := htd.mono (Hp.un_mono hle1 S2.mx)
 rcases hRw2 with ⟨hopn9, rfl⟩ | ⟨hopn9, g1, cA9, iA9, oA9, cc9, ic9, oc9, rfl, hsb9, hsc9, hsi9, hso9⟩
 ·refine wlm 2 3 rfl rfl rfl rfl rfl rfl rfl ?_
  refine wlo 3 4 rfl rfl rfl (wo_run rfl rfl (run_extract rfl rfl rfl) ?_)
  refine wlo 4 5 rfl rfl rfl (wo_run rfl rfl (run_extract rfl rfl rfl) ?_)
  refine wla 5 6 rfl rfl rfl rfl rfl rfl rfl ?_
  refine wla 6 7 rfl rfl rfl rfl rfl rfl rfl ?_
  refine wl_end rfl ?_
  refine nm_sub [(4, _), (5, _)] ⟨rfl, rfl, trivial⟩ ?_
  refine nm_thn ?_
  refine ws_seqN Jones_n5 Jones_n6 rfl rfl rfl ?_
  refine ws_seqN Jones_n7 Jones_n8 rfl rfl rfl ?_
  refine ws_region rfl ?_
  refine wlm 0 1 rfl rfl rfl rfl rfl rfl rfl ?_
  refine wlo 1 2 rfl rfl rfl (wo_run rfl rfl (run_neq rfl rfl rfl) ?_)
  refine wl_end rfl ?_
  refine nm_sub [(4, _), (5, _), (13, _)] ⟨rfl, rfl, rfl, trivial⟩ ?_
  refine nm_thn ?_
  refine ws_condN Jones_n9 Jones_n10 rfl rfl rfl rfl (fun hb13 => ?_) (fun hb13 => ?_)
  ·replace hb13 := of_decide_eq_true hb13
   refine ws_seqN Jones_n11 Jones_n12 rfl rfl rfl ?_
   refine ws_region rfl ?_
   refine wlm 0 1 rfl rfl rfl rfl rfl rfl rfl ?_
   refine wla 1 2 rfl rfl rfl rfl rfl rfl rfl ?_
   refine wla 2 3 rfl rfl rfl rfl rfl rfl rfl ?_
   refine wl_end rfl ?_
   refine nm_sub [(2, _), (3, _)] ⟨rfl, rfl, trivial⟩ ?_
   refine nm_thn ?_
   refine ws_ret hC [_, _] rfl rfl ⟨rfl, rfl, trivial⟩ ?_
   refine ⟨_, rfl, _, hle1, (S2.pick [] [] (by decide) trivial), ?_⟩
   exact .inl ⟨hopn9, rfl⟩
  ·replace hb13 := of_decide_eq_false hb13
   exfalso; omega
 ·obtain ⟨hn, hab, hlo, hne⟩ := errK_all hopn9
  refine wlm 2 3 rfl rfl rfl rfl rfl rfl rfl ?_
  refine wlo 3 4 rfl rfl rfl (wo_run rfl rfl (run_extract rfl rfl rfl) ?_)
  refine wlo 4 5 rfl rfl rfl (wo_run rfl rfl (run_extract rfl rfl rfl) ?_)
  refine wla 5 6 rfl rfl rfl rfl rfl rfl rfl ?_
  refine wla 6 7 rfl rfl rfl rfl rfl rfl rfl ?_
  refine wl_end rfl ?_
  refine nm_sub [(4, _), (5, _)] ⟨rfl, rfl, trivial⟩ ?_
  refine nm_thn ?_
  refine ws_seqN Jones_n5 Jones_n6 rfl rfl rfl ?_
  refine ws_seqN Jones_n7 Jones_n8 rfl rfl rfl ?_
  refine ws_region rfl ?_
  refine wlm 0 1 rfl rfl rfl rfl rfl rfl rfl ?_
  refine wlo 1 2 rfl rfl rfl (wo_run rfl rfl (run_neq rfl rfl rfl) ?_)
  refine wl_end rfl ?_
  refine nm_sub [(4, _), (5, _), (13, _)] ⟨rfl, rfl, rfl, trivial⟩ ?_
  refine nm_thn ?_
  refine ws_condN Jones_n9 Jones_n10 rfl rfl rfl rfl (fun hb13 => ?_) (fun hb13 => ?_)
  ·replace hb13 := of_decide_eq_true hb13
   exfalso; omega
  ·replace hb13 := of_decide_eq_false hb13
   refine ws_skip rfl ?_
   refine nm_sub [(4, _)] ⟨rfl, trivial⟩ ?_
   refine nm_thn ?_
   refine ws_seqN Jones_n13 Jones_n14 rfl rfl rfl ?_
   refine ws_region rfl ?_
   refine wlm 0 1 rfl rfl rfl rfl rfl rfl rfl ?_
   refine wlo 1 2 rfl rfl rfl (wo_cq rfl rfl rfl rfl rfl rfl rfl cf14 S2 (Turns_q d (hsb9.mono (Hp.le_un _ _)) (hsc9.mono (Hp.le_un _ _)) (hsi9.mono (Hp.le_un _ _)) (hso9.mono (Hp.le_un _ _)) (by omega) S2.lend) ?_)
   rintro _ w3 S3 rfl; clear S2
   refine wla 2 3 rfl rfl rfl rfl rfl rfl rfl ?_
   refine wl_end rfl ?_
   refine nm_sub [(4, _), (6, _)] ⟨rfl, rfl, trivial⟩ ?_
   refine nm_thn ?_
   refine ws_seqN Jones_n15 Jones_n16 rfl rfl rfl ?_
   have htu := turnN_bd d d.crs.length
   have htu2 : -12 ≤ turns d ∧ turns d ≤ 12 := by unfold turns; omega
   have hod := odI_bd (turns d)
   refine ws_region rfl ?_
   refine wlm 0 1 rfl rfl rfl rfl rfl rfl rfl ?_
   refine wlo 1 2 rfl rfl rfl (wo_ct rfl rfl rfl rfl rfl rfl rfl cf12 S3 (bracket_t d (hsb9.mono (Hp.le_un _ _)) (hsc9.mono (Hp.le_un _ _)) (hsi9.mono (Hp.le_un _ _)) (hso9.mono (Hp.le_un _ _)) hn hab hlo hne (htd.mono S3.un_XH) S3.lend) ?_)
   intro vw4 w4 M2 hle2 S4 hRw4; clear S3
   replace hdcrs := hdcrs.mono (Hp.un_mono hle2 S4.mx)
   replace htd := htd.mono (Hp.un_mono hle2 S4.mx)
   replace hsb9 := hsb9.mono hle2
   replace hsc9 := hsc9.mono hle2
   replace hsi9 := hsi9.mono hle2
   replace hso9 := hso9.mono hle2
   obtain ⟨gw1, rfl, hw1⟩ := hRw4
   refine wlm 2 3 rfl rfl rfl rfl rfl rfl rfl ?_
   refine wlo 3 4 rfl rfl rfl (wo_run rfl rfl (run_mul rfl rfl rfl (by first | omega | (simp only [lens]; omega))) ?_)
   refine wlm 4 5 rfl rfl rfl rfl rfl rfl rfl ?_
   refine wlo 5 6 rfl rfl rfl (wo_run rfl rfl (run_andK rfl rfl rfl) ?_)
   refine wl_eq 22 (.int .i64 (odI (turns d))) rfl (int_eq (and_odI (by omega))) ?_
   refine wlo 6 7 rfl rfl rfl (wo_run rfl rfl (run_mul rfl rfl rfl (by first | omega | (simp only [lens]; omega))) ?_)
   refine wlo 7 8 rfl rfl rfl (wo_run rfl rfl (run_sub rfl rfl rfl (by first | omega | (simp only [lens]; omega))) ?_)
   refine wlo 8 9 rfl rfl rfl (wo_ct rfl rfl rfl rfl rfl rfl rfl cf15 S4 (ShiftW_t hw1 ((-3) * (turns d)) (1 - (2 * (odI (turns d)))) 36 (by omega) (by omega) S4.lend) ?_)
   intro vw5 w5 M3 hle3 S5 hRw5; clear S4
   replace hdcrs := hdcrs.mono (Hp.un_mono hle3 S5.mx)
   replace htd := htd.mono (Hp.un_mono hle3 S5.mx)
   replace hsb9 := hsb9.mono hle3
   replace hsc9 := hsc9.mono hle3
   replace hsi9 := hsi9.mono hle3
   replace hso9 := hso9.mono hle3
   replace hw1 := hw1.mono hle3
   obtain ⟨gw2, rfl, hw2⟩ := hRw5
   refine wlo 9 10 rfl rfl rfl (wo_ct rfl rfl rfl rfl rfl rfl rfl cf13 S5 (FormW_t hw2 (by omega) S5.lend) ?_)
   intro vw6 w6 M4 hle4 S6 hRw6; clear S5
   replace hdcrs := hdcrs.mono (Hp.un_mono hle4 S6.mx)
   replace htd := htd.mono (Hp.un_mono hle4 S6.mx)
   replace hsb9 := hsb9.mono hle4
   replace hsc9 := hsc9.mono hle4
   replace hsi9 := hsi9.mono hle4
   replace hso9 := hso9.mono hle4
   replace hw1 := hw1.mono hle4
   replace hw2 := hw2.mono hle4
   obtain ⟨A1, c1, l1, rfl, hr1, hcan1, hbd1, hmk1⟩ := hRw6
   refine wla 10 11 rfl rfl rfl rfl rfl rfl rfl ?_
   refine wla 11 12 rfl rfl rfl rfl rfl rfl rfl ?_
   refine wl_end rfl ?_
   refine nm_sub [(2, _), (3, _)] ⟨rfl, rfl, trivial⟩ ?_
   refine nm_thn ?_
   refine ws_ret hC [_, _] rfl rfl ⟨rfl, rfl, trivial⟩ ?_
   refine ⟨_, rfl, _, ((hle1.trans hle2).trans hle3).trans hle4, (S6.pick [] [] (by decide) trivial), ?_⟩
   exact .inr ⟨hopn9, _, _, _, rfl, hr1, hcan1, hbd1.mono (by omega), by (rw [hmk1]; unfold jnP brP; rw [← sums_eq d hn])⟩
noncomputable def JonesOf_n0 : Code := Tryd.f10.body.getD .skip
noncomputable def JonesOf_n1 : Code := cL JonesOf_n0
noncomputable def JonesOf_n2 : Code := cR JonesOf_n0
noncomputable def JonesOf_n3 : Code := cL JonesOf_n2
noncomputable def JonesOf_n4 : Code := cR JonesOf_n2
noncomputable def JonesOf_n5 : Code := cL JonesOf_n4
noncomputable def JonesOf_n6 : Code := cR JonesOf_n4
noncomputable def JonesOf_n7 : Code := cL JonesOf_n6
noncomputable def JonesOf_n8 : Code := cR JonesOf_n6
noncomputable def JonesOf_n9 : Code := cL JonesOf_n8
noncomputable def JonesOf_n10 : Code := cR JonesOf_n8
noncomputable def JonesOf_n11 : Code := cL JonesOf_n9
noncomputable def JonesOf_n12 : Code := cR JonesOf_n9
noncomputable def JonesOf_n13 : Code := cL JonesOf_n12
noncomputable def JonesOf_n14 : Code := cL JonesOf_n13
noncomputable def JonesOf_n15 : Code := cL JonesOf_n14
noncomputable def JonesOf_n16 : Code := cR JonesOf_n14
noncomputable def JonesOf_n17 : Code := cL JonesOf_n15
noncomputable def JonesOf_n18 : Code := cR JonesOf_n15
noncomputable def JonesOf_n19 : Code := cL JonesOf_n18
noncomputable def JonesOf_n20 : Code := cR JonesOf_n18
noncomputable def JonesOf_n21 : Code := cL JonesOf_n16
noncomputable def JonesOf_n22 : Code := cR JonesOf_n16
noncomputable def JonesOf_n23 : Code := cL JonesOf_n21
noncomputable def JonesOf_n24 : Code := cL JonesOf_n23
noncomputable def JonesOf_n25 : Code := cR JonesOf_n23
noncomputable def JonesOf_n26 : Code := cL JonesOf_n25
noncomputable def JonesOf_n27 : Code := cR JonesOf_n25
noncomputable def JonesOf_n28 : Code := cL JonesOf_n26
noncomputable def JonesOf_n29 : Code := cR JonesOf_n26
noncomputable def JonesOf_n30 : Code := cL JonesOf_n29
noncomputable def JonesOf_n31 : Code := cR JonesOf_n29
noncomputable def JonesOf_n32 : Code := cL JonesOf_n10
noncomputable def JonesOf_n33 : Code := cR JonesOf_n10
set_option maxHeartbeats 1000000 in
set_option maxRecDepth 10000 in
theorem JonesOf_t {w : World} {M : Hp} {X : Fr} (d : Dg) {dcrsA : Option Addr} {dcrsc : Nat} (hdcrs : RdA cdCr (M.un X.h) dcrsA dcrsc d.crs) (hn : d.crs.length ≤ 12) (hab : arcsB d = true) (hlo : 0 ≤ d.loops ∧ d.loops ≤ 16) (hne : ¬ (d.crs.length = 0 ∧ d.loops = 0)) (S : SH w M X []) : Ct Tryd.prog 10 [.agg [.slice dcrsA d.crs.length dcrsc, .int .i64 d.loops].toArray] w M X (PT 128 (jnP d)) := by
 unfold Ct
 have rmhdcrs : d.crs.length * 40 ≤ 140737488355328 := hdcrs.room
 refine calls_in (b := JonesOf_n0) Tryd.func10 rfl Tryd.ntmps10 rfl (fun C hC => ?_)
 refine ws_sub [(0, _)] ⟨rfl, trivial⟩ ?_
 refine ws_seqN JonesOf_n1 JonesOf_n2 rfl rfl rfl ?_
 refine ws_region rfl ?_
 refine wlo 0 1 rfl rfl rfl (wo_box (l := [_, _]) rfl rfl rfl rfl rfl S ?_)
 intro gb1 w1 S1; clear S
 refine wla 1 2 rfl rfl rfl rfl rfl rfl rfl ?_
 refine wl_end rfl ?_
 refine nm_sub [(1, _)] ⟨rfl, trivial⟩ ?_
 refine nm_thn ?_
 refine ws_seqN JonesOf_n3 JonesOf_n4 rfl rfl rfl ?_
 refine ws_region rfl ?_
 refine wlo 0 1 rfl rfl rfl (wo_run rfl rfl (run_loadN (us := [_, _]) rfl rfl Tryd.underlying24 rfl sz24 (S1.boxcs (i := 0) rfl ⟨rfl, rfl, trivial⟩)) ?_)
 refine wlo 1 2 rfl rfl rfl (wo_cq rfl rfl rfl rfl rfl rfl rfl cf20 S1 (WritheOf_q d (hdcrs.mono S1.un_XH) ((by omega)) S1.lend) ?_)
 rintro _ w2 S2 rfl; clear S1
 refine wla 2 3 rfl rfl rfl rfl rfl rfl rfl ?_
 refine wl_end rfl ?_
 refine nm_sub [(1, _), (3, _)] ⟨rfl, rfl, trivial⟩ ?_
 refine nm_thn ?_
 refine ws_seqN JonesOf_n5 JonesOf_n6 rfl rfl rfl ?_
 have htu := turnN_bd d d.crs.length
 have htu2 : -12 ≤ turns d ∧ turns d ≤ 12 := by unfold turns; omega
 refine ws_region rfl ?_
 refine wlo 0 1 rfl rfl rfl (wo_run rfl rfl (run_loadN (us := [_, _]) rfl rfl Tryd.underlying24 rfl sz24 (S2.boxcs (i := 0) rfl ⟨rfl, rfl, trivial⟩)) ?_)
 refine wlo 1 2 rfl rfl rfl (wo_ct rfl rfl rfl rfl rfl rfl rfl cf9 S2 (BracketOf_t d (hdcrs.mono S2.un_XH) (hn) (hab) (hlo) (hne) S2.lend) ?_)
 intro vw3 w3 M1 hle1 S3 hRw3; clear S2
 replace hdcrs := hdcrs.mono (Hp.un_mono hle1 S3.mx)
 obtain ⟨A1, c1, l1, rfl, hr1, hcan1, hbd1, hmk1⟩ := hRw3
 have hal := can_len hcan1 hbd1
 refine wla 2 3 rfl rfl rfl rfl rfl rfl rfl ?_
 refine wl_end rfl ?_
 refine nm_sub [(3, _), (4, _)] ⟨rfl, rfl, trivial⟩ ?_
 refine nm_thn ?_
 refine ws_seqN JonesOf_n7 JonesOf_n8 rfl rfl rfl ?_
 refine ws_region rfl ?_
 refine wla 0 1 rfl rfl rfl rfl rfl rfl rfl ?_
 refine wl_end rfl ?_
 refine nm_thn ?_
 refine ws_seqN JonesOf_n9 JonesOf_n10 rfl rfl rfl ?_
 refine ws_seqN JonesOf_n11 JonesOf_n12 rfl rfl rfl ?_
 refine ws_region rfl ?_
 refine wla 0 1 rfl rfl rfl rfl rfl rfl rfl ?_
 refine wl_end rfl ?_
 refine nm_thn ?_
 refine ws_blockN JonesOf_n13 0 rfl rfl rfl ?_
 have S4 := S3.nilrow cdTm; clear S3
 refine ws_loopE (fun mx_ ax_ wx_ => ∃ (i : Nat) (acc : List Tm) (vro : Value), mx_ = l1.length - i ∧ Env 42 [(3, .int .i64 (turns d)), (4, .slice A1 l1.length c1), (5, vro), (6, .int .i64 (i : Int))] ax_ ∧ SH wx_ M1 X [Rs.row cdTm vro acc] ∧ i ≤ l1.length ∧ acc = (l1.take i).map (jnT (turns d))) rfl ?_ ?_
 ·intro ax_ hax_
  refine ⟨_, ⟨0, _, _, rfl, hax_.sub ⟨rfl, rfl, rfl, rfl, trivial⟩, S4.pick [0] [_] (by decide) ⟨rfl, trivial⟩, ?hq1f0, ?hq1f1⟩⟩
  case hq1f0 => omega
  case hq1f1 => rfl
 ·rintro m1 a1 w4 ⟨i, acc, vro, rfl, he1, S5, hi, hac⟩
  clear S4
  refine ws_in he1 (c := JonesOf_n14) rfl ?_
  clear he1 a1
  have hall : acc.length = i := by rw [hac, List.length_map, List.length_take]; omega
  refine ws_seqN JonesOf_n15 JonesOf_n16 rfl rfl rfl ?_
  refine ws_seqN JonesOf_n17 JonesOf_n18 rfl rfl rfl ?_
  refine ws_region rfl ?_
  refine wlm 0 1 rfl rfl rfl rfl rfl rfl rfl ?_
  refine wlm 1 2 rfl rfl rfl rfl rfl rfl rfl ?_
  refine wlo 2 3 rfl rfl rfl (wo_run rfl rfl (run_len rfl rfl rfl rfl rfl rfl Tryd.underlying25) ?_)
  refine wlo 3 4 rfl rfl rfl (wo_run rfl rfl (run_lss rfl rfl rfl) ?_)
  refine wl_end rfl ?_
  refine nm_sub [(3, _), (4, _), (5, _), (6, _), (15, _)] ⟨rfl, rfl, rfl, rfl, rfl, trivial⟩ ?_
  refine nm_thn ?_
  refine ws_condN JonesOf_n19 JonesOf_n20 rfl rfl rfl rfl (fun hb15 => ?_) (fun hb15 => ?_)
  ·replace hb15 := of_decide_eq_true hb15
   refine ws_skip rfl ?_
   refine nm_sub [(3, _), (4, _), (5, _), (6, _)] ⟨rfl, rfl, rfl, rfl, trivial⟩ ?_
   refine nm_thn ?_
   refine ws_seqN JonesOf_n21 JonesOf_n22 rfl rfl rfl ?_
   refine ws_blockN JonesOf_n23 1 rfl rfl rfl ?_
   refine ws_seqN JonesOf_n24 JonesOf_n25 rfl rfl rfl ?_
   refine ws_region rfl ?_
   refine wlm 0 1 rfl rfl rfl rfl rfl rfl rfl ?_
   refine wlm 1 2 rfl rfl rfl rfl rfl rfl rfl ?_
   refine wlo 2 3 rfl rfl rfl (wo_run rfl rfl (run_indexM (C := cdTm) i rfl rfl rfl sl25 (by first | rfl | omega) hr1 (by first | omega | (simp only [lens]; omega))) ?_)
   refine wlo 3 4 rfl rfl rfl (wo_run rfl rfl (run_fieldAddr rfl rfl Tryd.underlying45 rfl (ce3) (nf3)) ?_)
   refine wlo 4 5 rfl rfl rfl (wo_run rfl rfl (run_load1 rfl rfl Tryd.underlying3 rfl (hr1.cell S5.m (i := i) (by first | omega | (simp only [lens]; omega)) 1 rfl rfl)) ?_)
   refine wla 5 6 rfl rfl rfl rfl rfl rfl rfl ?_
   refine wl_end rfl ?_
   refine nm_sub [(3, _), (4, _), (5, _), (6, _), (7, _)] ⟨rfl, rfl, rfl, rfl, rfl, trivial⟩ ?_
   refine nm_thn ?_
   refine ws_seqN JonesOf_n26 JonesOf_n27 rfl rfl rfl ?_
   refine ws_seqN JonesOf_n28 JonesOf_n29 rfl rfl rfl ?_
   refine ws_region rfl ?_
   refine wlm 0 1 rfl rfl rfl rfl rfl rfl rfl ?_
   refine wlo 1 2 rfl rfl rfl (wo_run rfl rfl (run_trem rfl rfl rfl (by decide)) ?_)
   refine wlo 2 3 rfl rfl rfl (wo_run rfl rfl (run_neq rfl rfl rfl) ?_)
   refine wl_end rfl ?_
   refine nm_sub [(3, _), (4, _), (5, _), (6, _), (7, _), (25, _)] ⟨rfl, rfl, rfl, rfl, rfl, rfl, trivial⟩ ?_
   refine nm_thn ?_
   refine ws_condN JonesOf_n30 JonesOf_n31 rfl rfl rfl rfl (fun hb25 => ?_) (fun hb25 => ?_)
   ·replace hb25 := of_decide_eq_true hb25
    refine ws_region rfl ?_
    refine wlm 0 1 rfl rfl rfl rfl rfl rfl rfl ?_
    refine wlo 1 2 rfl rfl rfl (wo_run rfl rfl (run_negW rfl rfl) ?_)
    refine wla 2 3 rfl rfl rfl rfl rfl rfl rfl ?_
    refine wl_end rfl ?_
    refine nm_sub [(3, _), (4, _), (5, _), (6, _), (7, _)] ⟨rfl, rfl, rfl, rfl, rfl, trivial⟩ ?_
    refine nm_thn ?_
    have hbi := bd_at hbd1 (i := i) (by omega)
    refine ws_region rfl ?_
    refine wlm 0 1 rfl rfl rfl rfl rfl rfl rfl ?_
    refine wlm 1 2 rfl rfl rfl rfl rfl rfl rfl ?_
    refine wlm 2 3 rfl rfl rfl rfl rfl rfl rfl ?_
    refine wlo 3 4 rfl rfl rfl (wo_run rfl rfl (run_indexM (C := cdTm) i rfl rfl rfl sl25 (by first | rfl | omega) hr1 (by first | omega | (simp only [lens]; omega))) ?_)
    refine wlo 4 5 rfl rfl rfl (wo_run rfl rfl (run_fieldAddr rfl rfl Tryd.underlying45 rfl (ce3) (nf3)) ?_)
    refine wlo 5 6 rfl rfl rfl (wo_run rfl rfl (run_load1 rfl rfl Tryd.underlying3 rfl (hr1.cell S5.m (i := i) (by first | omega | (simp only [lens]; omega)) 0 rfl rfl)) ?_)
    refine wlm 6 7 rfl rfl rfl rfl rfl rfl rfl ?_
    refine wlo 7 8 rfl rfl rfl (wo_run rfl rfl (run_mul rfl rfl rfl (by first | omega | (simp only [lens]; omega))) ?_)
    refine wlo 8 9 rfl rfl rfl (wo_run rfl rfl (run_sub rfl rfl rfl (by first | omega | (simp only [lens]; omega))) ?_)
    refine wlm 9 10 rfl rfl rfl rfl rfl rfl rfl ?_
    refine wlo 10 11 rfl rfl rfl (wo_run rfl rfl (run_build (l := [_, _]) rfl rfl st45 rfl rfl) ?_)
    refine wlo 11 12 rfl rfl rfl (wo_buildSlice1 (C := cdTm) (l := [_, _]) rfl rfl rfl rfl sl25 rfl rfl rfl rfl S5 ?_)
    intro gb2 w5 S6; clear S5
    refine wlo 12 13 rfl rfl rfl (wo_append1 (C := cdTm) (i := 1) (q := 0) (⟨((ga l1 i).e) - (3 * (turns d)), wr (-((ga l1 i).c))⟩ : Tm) rfl rfl rfl rfl rfl rfl rfl rfl sl25 S6 rfl rfl rfl (by (show (_ + 1) * 16 ≤ _; omega)) ?_)
    intro vro1 w6 S7; clear S6
    have S8 := S7.pick [1] [_] (by decide) ⟨rfl, trivial⟩; clear S7
    refine wla 13 14 rfl rfl rfl rfl rfl rfl rfl ?_
    refine wl_end rfl ?_
    refine nm_blk ?_
    refine nm_sub [(3, _), (4, _), (5, _), (6, _)] ⟨rfl, rfl, rfl, rfl, trivial⟩ ?_
    refine nm_thn ?_
    refine ws_region rfl ?_
    refine wlm 0 1 rfl rfl rfl rfl rfl rfl rfl ?_
    refine wlo 1 2 rfl rfl rfl (wo_run rfl rfl (run_add rfl rfl rfl (by first | omega | (simp only [lens]; omega))) ?_)
    refine wla 2 3 rfl rfl rfl rfl rfl rfl rfl ?_
    refine wl_end rfl ?_
    refine nm_lp ?_
    intro ax_ hax_
    refine ⟨_, ?hq2m, ⟨i + 1, _, _, rfl, hax_.sub ⟨rfl, rfl, rfl, rfl, trivial⟩, S8.pick [0] [_] (by decide) ⟨rfl, trivial⟩, ?hq2f0, ?hq2f1⟩⟩
    case hq2f0 => omega
    case hq2f1 => (rw [take_ga l1 i (by omega), List.map_append, ← hac]; show _ = acc ++ [jnT (turns d) (ga l1 i)]; refine congrArg (fun z => acc ++ [z]) ?_; unfold jnT; first | rw [if_pos (by omega)] | rw [if_neg (by omega)])
    case hq2m => omega
   ·replace hb25 := of_decide_eq_false hb25
    refine ws_skip rfl ?_
    refine nm_sub [(3, _), (4, _), (5, _), (6, _), (7, _)] ⟨rfl, rfl, rfl, rfl, rfl, trivial⟩ ?_
    refine nm_thn ?_
    have hbi := bd_at hbd1 (i := i) (by omega)
    refine ws_region rfl ?_
    refine wlm 0 1 rfl rfl rfl rfl rfl rfl rfl ?_
    refine wlm 1 2 rfl rfl rfl rfl rfl rfl rfl ?_
    refine wlm 2 3 rfl rfl rfl rfl rfl rfl rfl ?_
    refine wlo 3 4 rfl rfl rfl (wo_run rfl rfl (run_indexM (C := cdTm) i rfl rfl rfl sl25 (by first | rfl | omega) hr1 (by first | omega | (simp only [lens]; omega))) ?_)
    refine wlo 4 5 rfl rfl rfl (wo_run rfl rfl (run_fieldAddr rfl rfl Tryd.underlying45 rfl (ce3) (nf3)) ?_)
    refine wlo 5 6 rfl rfl rfl (wo_run rfl rfl (run_load1 rfl rfl Tryd.underlying3 rfl (hr1.cell S5.m (i := i) (by first | omega | (simp only [lens]; omega)) 0 rfl rfl)) ?_)
    refine wlm 6 7 rfl rfl rfl rfl rfl rfl rfl ?_
    refine wlo 7 8 rfl rfl rfl (wo_run rfl rfl (run_mul rfl rfl rfl (by first | omega | (simp only [lens]; omega))) ?_)
    refine wlo 8 9 rfl rfl rfl (wo_run rfl rfl (run_sub rfl rfl rfl (by first | omega | (simp only [lens]; omega))) ?_)
    refine wlm 9 10 rfl rfl rfl rfl rfl rfl rfl ?_
    refine wlo 10 11 rfl rfl rfl (wo_run rfl rfl (run_build (l := [_, _]) rfl rfl st45 rfl rfl) ?_)
    refine wlo 11 12 rfl rfl rfl (wo_buildSlice1 (C := cdTm) (l := [_, _]) rfl rfl rfl rfl sl25 rfl rfl rfl rfl S5 ?_)
    intro gb3 w7 S9; clear S5
    refine wlo 12 13 rfl rfl rfl (wo_append1 (C := cdTm) (i := 1) (q := 0) (⟨((ga l1 i).e) - (3 * (turns d)), (ga l1 i).c⟩ : Tm) rfl rfl rfl rfl rfl rfl rfl rfl sl25 S9 rfl rfl rfl (by (show (_ + 1) * 16 ≤ _; omega)) ?_)
    intro vro2 w8 S10; clear S9
    have S11 := S10.pick [1] [_] (by decide) ⟨rfl, trivial⟩; clear S10
    refine wla 13 14 rfl rfl rfl rfl rfl rfl rfl ?_
    refine wl_end rfl ?_
    refine nm_blk ?_
    refine nm_sub [(3, _), (4, _), (5, _), (6, _)] ⟨rfl, rfl, rfl, rfl, trivial⟩ ?_
    refine nm_thn ?_
    refine ws_region rfl ?_
    refine wlm 0 1 rfl rfl rfl rfl rfl rfl rfl ?_
    refine wlo 1 2 rfl rfl rfl (wo_run rfl rfl (run_add rfl rfl rfl (by first | omega | (simp only [lens]; omega))) ?_)
    refine wla 2 3 rfl rfl rfl rfl rfl rfl rfl ?_
    refine wl_end rfl ?_
    refine nm_lp ?_
    intro ax_ hax_
    refine ⟨_, ?hq3m, ⟨i + 1, _, _, rfl, hax_.sub ⟨rfl, rfl, rfl, rfl, trivial⟩, S11.pick [0] [_] (by decide) ⟨rfl, trivial⟩, ?hq3f0, ?hq3f1⟩⟩
    case hq3f0 => omega
    case hq3f1 => (rw [take_ga l1 i (by omega), List.map_append, ← hac]; show _ = acc ++ [jnT (turns d) (ga l1 i)]; refine congrArg (fun z => acc ++ [z]) ?_; unfold jnT; first | rw [if_pos (by omega)] | rw [if_neg (by omega)])
    case hq3m => omega
  ·replace hb15 := of_decide_eq_false hb15
   refine ws_exit rfl rfl ?_
   refine nm_sub [(5, _)] ⟨rfl, trivial⟩ ?_
   refine nm_thn ?_
   refine ws_seqN JonesOf_n32 JonesOf_n33 rfl rfl rfl ?_
   refine ws_region rfl ?_
   refine wlm 0 1 rfl rfl rfl rfl rfl rfl rfl ?_
   refine wla 1 2 rfl rfl rfl rfl rfl rfl rfl ?_
   refine wl_end rfl ?_
   refine nm_sub [(2, _)] ⟨rfl, trivial⟩ ?_
   refine nm_thn ?_
   obtain ⟨M2, hle3, S12, ⟨A2, c2, e1, hr2⟩⟩ := S5.pubrow (i := 0) (H' := [_]) rfl rfl (by show _ * 16 ≤ _; first | omega | (simp only [lens]; omega))
   clear S5; subst e1
   replace hdcrs := hdcrs.mono (Hp.un_mono hle3 S12.mx)
   replace hr1 := hr1.mono hle3
   refine ws_ret hC [_] rfl rfl ⟨rfl, trivial⟩ ?_
   refine ⟨_, rfl, _, hle1.trans hle3, (S12.pick [] [] (by decide) trivial), ?_⟩
   obtain rfl : i = l1.length := by omega
   rw [List.take_length] at hac
   have hjc := jnT_can (W := 12) (w := turns d) (by omega) hcan1 hbd1 (by omega)
   rw [← hac] at hjc
   exact ⟨_, _, _, rfl, hr2, hjc.1, hjc.2, by rw [hac, mk_jnT, hmk1]; rfl⟩
end Go.Proofs.YtlmcnpbkmihjkaaDoor
namespace Go.Proofs.YtlmcnpbkmihjkaaDoor
open Go.ChangeShapes Go.WideShapes Go.ChangeAt Go.RowKit
noncomputable def BracketTells_n0 : Code := Tryd.f3.body.getD .skip
noncomputable def BracketTells_n1 : Code := cL BracketTells_n0
noncomputable def BracketTells_n2 : Code := cR BracketTells_n0
noncomputable def BracketTells_n3 : Code := cL BracketTells_n2
noncomputable def BracketTells_n4 : Code := cR BracketTells_n2
noncomputable def BracketTells_n5 : Code := cL BracketTells_n4
noncomputable def BracketTells_n6 : Code := cR BracketTells_n4
noncomputable def BracketTells_n7 : Code := cL BracketTells_n6
noncomputable def BracketTells_n8 : Code := cR BracketTells_n6
noncomputable def BracketTells_n9 : Code := cL BracketTells_n8
noncomputable def BracketTells_n10 : Code := cR BracketTells_n8
noncomputable def BracketTells_n11 : Code := cL BracketTells_n9
noncomputable def BracketTells_n12 : Code := cR BracketTells_n9
noncomputable def BracketTells_n13 : Code := cL BracketTells_n12
noncomputable def BracketTells_n14 : Code := cR BracketTells_n12
noncomputable def BracketTells_n15 : Code := cL BracketTells_n13
noncomputable def BracketTells_n16 : Code := cR BracketTells_n13
noncomputable def BracketTells_n17 : Code := cL BracketTells_n10
noncomputable def BracketTells_n18 : Code := cR BracketTells_n10
set_option maxHeartbeats 1000000 in
set_option maxRecDepth 10000 in
theorem BracketTells_t {w : World} {M : Hp} {X : Fr} (d : Dg) {dcrsA : Option Addr} {dcrsc : Nat} (hdcrs : RdA cdCr M dcrsA dcrsc d.crs) (htd : TbW (M.un X.h) 0 tdL) (S : SH w M X []) : Ct Tryd.prog 3 [.agg [.slice dcrsA d.crs.length dcrsc, .int .i64 d.loops].toArray] w M X (fun u _ => u = .bool true) := by
 unfold Ct
 have rmhdcrs : d.crs.length * 40 ≤ 140737488355328 := hdcrs.room
 refine calls_in (b := BracketTells_n0) Tryd.func3 rfl Tryd.ntmps3 rfl (fun C hC => ?_)
 refine ws_sub [(0, _)] ⟨rfl, trivial⟩ ?_
 refine ws_seqN BracketTells_n1 BracketTells_n2 rfl rfl rfl ?_
 refine ws_region rfl ?_
 refine wlo 0 1 rfl rfl rfl (wo_box (l := [_, _]) rfl rfl rfl rfl rfl S ?_)
 intro gb1 w1 S1; clear S
 refine wla 1 2 rfl rfl rfl rfl rfl rfl rfl ?_
 refine wl_end rfl ?_
 refine nm_sub [(1, _)] ⟨rfl, trivial⟩ ?_
 refine nm_thn ?_
 refine ws_seqN BracketTells_n3 BracketTells_n4 rfl rfl rfl ?_
 refine ws_region rfl ?_
 refine wlo 0 1 rfl rfl rfl (wo_run rfl rfl (run_loadN (us := [_, _]) rfl rfl Tryd.underlying24 rfl sz24 (S1.boxcs (i := 0) rfl ⟨rfl, rfl, trivial⟩)) ?_)
 refine wlo 1 2 rfl rfl rfl (wo_ct rfl rfl rfl rfl rfl rfl rfl cf5 S1 (DiagramOf_t d (hdcrs.mono (Hp.le_un _ _)) S1.lend) ?_)
 intro vw2 w2 M1 hle1 S2 hRw2; clear S1
 replace hdcrs := hdcrs.mono hle1
 replace htd := htd.mono (Hp.un_mono hle1 S2.mx)
 obtain ⟨A1, c1, rfl, hr1⟩ := hRw2
 refine wlo 2 3 rfl rfl rfl (wo_ct rfl rfl rfl rfl rfl rfl rfl cf4 S2 (Bracket_t d (hr1.mono (Hp.le_un _ _)) (htd.mono S2.un_XH) S2.lend) ?_)
 intro vw3 w3 M2 hle2 S3 hRw3; clear S2
 replace hdcrs := hdcrs.mono hle2
 replace htd := htd.mono (Hp.un_mono hle2 S3.mx)
 replace hr1 := hr1.mono hle2
 rcases hRw3 with ⟨hok, rfl⟩ | ⟨hok, A2, c2, l1, rfl, hr2, hcan1, hbd1, hmk1⟩
 ·refine wlm 3 4 rfl rfl rfl rfl rfl rfl rfl ?_
  refine wlo 4 5 rfl rfl rfl (wo_run rfl rfl (run_extract rfl rfl rfl) ?_)
  refine wlo 5 6 rfl rfl rfl (wo_run rfl rfl (run_extract rfl rfl rfl) ?_)
  refine wla 6 7 rfl rfl rfl rfl rfl rfl rfl ?_
  refine wla 7 8 rfl rfl rfl rfl rfl rfl rfl ?_
  refine wl_end rfl ?_
  refine nm_sub [(1, _), (3, _), (4, _)] ⟨rfl, rfl, rfl, trivial⟩ ?_
  refine nm_thn ?_
  refine ws_seqN BracketTells_n5 BracketTells_n6 rfl rfl rfl ?_
  refine ws_region rfl ?_
  refine wlo 0 1 rfl rfl rfl (wo_run rfl rfl (run_loadN (us := [_, _]) rfl rfl Tryd.underlying24 rfl sz24 (S3.boxcs (i := 0) rfl ⟨rfl, rfl, trivial⟩)) ?_)
  refine wlo 1 2 rfl rfl rfl (wo_ct rfl rfl rfl rfl rfl rfl rfl cf5 S3 (DiagramOf_t d (hdcrs.mono (Hp.le_un _ _)) S3.lend) ?_)
  intro vw4 w4 M3 hle3 S4 hRw4; clear S3
  replace hdcrs := hdcrs.mono hle3
  replace htd := htd.mono (Hp.un_mono hle3 S4.mx)
  replace hr1 := hr1.mono hle3
  obtain ⟨A3, c3, rfl, hr3⟩ := hRw4
  refine wlo 2 3 rfl rfl rfl (wo_ct rfl rfl rfl rfl rfl rfl rfl cf6 S4 (Jones_t d (hr3.mono (Hp.le_un _ _)) (htd.mono S4.un_XH) S4.lend) ?_)
  intro vw5 w5 M4 hle4 S5 hRw5; clear S4
  replace hdcrs := hdcrs.mono hle4
  replace htd := htd.mono (Hp.un_mono hle4 S5.mx)
  replace hr1 := hr1.mono hle4
  replace hr3 := hr3.mono hle4
  rcases hRw5 with ⟨hok2, rfl⟩ | ⟨hok2, A4, c4, l2, rfl, hr4, hcan2, hbd2, hmk2⟩
  ·refine wlm 3 4 rfl rfl rfl rfl rfl rfl rfl ?_
   refine wlo 4 5 rfl rfl rfl (wo_run rfl rfl (run_extract rfl rfl rfl) ?_)
   refine wlo 5 6 rfl rfl rfl (wo_run rfl rfl (run_extract rfl rfl rfl) ?_)
   refine wla 6 7 rfl rfl rfl rfl rfl rfl rfl ?_
   refine wla 7 8 rfl rfl rfl rfl rfl rfl rfl ?_
   refine wl_end rfl ?_
   refine nm_sub [(1, _), (3, _), (4, _), (5, _), (6, _)] ⟨rfl, rfl, rfl, rfl, rfl, trivial⟩ ?_
   refine nm_thn ?_
   refine ws_seqN BracketTells_n7 BracketTells_n8 rfl rfl rfl ?_
   refine ws_region rfl ?_
   refine wlo 0 1 rfl rfl rfl (wo_run rfl rfl (run_loadN (us := [_, _]) rfl rfl Tryd.underlying24 rfl sz24 (S5.boxcs (i := 0) rfl ⟨rfl, rfl, trivial⟩)) ?_)
   refine wlo 1 2 rfl rfl rfl (wo_ct rfl rfl rfl rfl rfl rfl rfl cf7 S5 (few_t d 12 (hdcrs.mono (Hp.le_un _ _)) S5.lend) ?_)
   intro vw6 w6 M5 hle5 S6 hRw6; clear S5
   replace hdcrs := hdcrs.mono hle5
   replace htd := htd.mono (Hp.un_mono hle5 S6.mx)
   replace hr1 := hr1.mono hle5
   replace hr3 := hr3.mono hle5
   obtain rfl := hRw6
   refine wla 2 3 rfl rfl rfl rfl rfl rfl rfl ?_
   refine wl_end rfl ?_
   refine nm_sub [(1, _), (3, _), (4, _), (5, _), (6, _), (7, _)] ⟨rfl, rfl, rfl, rfl, rfl, rfl, trivial⟩ ?_
   refine nm_thn ?_
   refine ws_seqN BracketTells_n9 BracketTells_n10 rfl rfl rfl ?_
   refine ws_seqN BracketTells_n11 BracketTells_n12 rfl rfl rfl ?_
   refine ws_region rfl ?_
   refine wlm 0 1 rfl rfl rfl rfl rfl rfl rfl ?_
   refine wlo 1 2 rfl rfl rfl (wo_run rfl rfl (run_neq rfl rfl rfl) ?_)
   refine wl_end rfl ?_
   refine nm_sub [(1, _), (3, _), (4, _), (5, _), (6, _), (7, _), (23, _)] ⟨rfl, rfl, rfl, rfl, rfl, rfl, rfl, trivial⟩ ?_
   refine nm_thn ?_
   refine ws_condN BracketTells_n13 BracketTells_n14 rfl rfl rfl rfl (fun hb23 => ?_) (fun hb23 => ?_)
   ·replace hb23 := of_decide_eq_true hb23
    refine ws_seqN BracketTells_n15 BracketTells_n16 rfl rfl rfl ?_
    refine ws_region rfl ?_
    refine wlm 0 1 rfl rfl rfl rfl rfl rfl rfl ?_
    refine wlm 1 2 rfl rfl rfl rfl rfl rfl rfl ?_
    refine wlo 2 3 rfl rfl rfl (wo_run rfl rfl (run_eql rfl rfl rfl) ?_)
    refine wlm 3 4 rfl rfl rfl rfl rfl rfl rfl ?_
    refine wl_split (t := 27) rfl (fun hg27 => ?_) (fun hg27 => ?_)
    ·replace hg27 := of_decide_eq_true hg27
     refine wl_opG (k := 4) (k' := 5) rfl rfl ⟨_, _, _, rfl, rfl, rfl, rfl⟩ rfl (wo_run rfl rfl (run_move rfl rfl) ?_)
     refine wl_opG (k := 5) (k' := 6) rfl rfl ⟨_, _, _, rfl, rfl, rfl, rfl⟩ rfl (wo_run rfl rfl (run_move rfl rfl) ?_)
     refine wl_opG (k := 6) (k' := 7) rfl rfl ⟨_, _, _, rfl, rfl, rfl, rfl⟩ rfl (wo_run rfl rfl (run_eql rfl rfl rfl) ?_)
     refine wlo 7 8 rfl rfl rfl (wo_run rfl rfl (run_pickT rfl rfl rfl) ?_)
     refine wlm 8 9 rfl rfl rfl rfl rfl rfl rfl ?_
     refine wl_split (t := 32) rfl (fun hg32 => ?_) (fun hg32 => ?_)
     ·replace hg32 := of_decide_eq_true hg32
      refine wl_opG (k := 9) (k' := 10) rfl rfl ⟨_, _, _, rfl, rfl, rfl, rfl⟩ rfl (wo_run rfl rfl (run_move rfl rfl) ?_)
      refine wl_opG (k := 10) (k' := 11) rfl rfl ⟨_, _, _, rfl, rfl, rfl, rfl⟩ rfl (wo_run rfl rfl (run_len rfl rfl rfl rfl rfl rfl Tryd.underlying25) ?_)
      refine wl_opG (k := 11) (k' := 12) rfl rfl ⟨_, _, _, rfl, rfl, rfl, rfl⟩ rfl (wo_run rfl rfl (run_eql rfl rfl rfl) ?_)
      refine wlo 12 13 rfl rfl rfl (wo_run rfl rfl (run_pickT rfl rfl rfl) ?_)
      refine wlm 13 14 rfl rfl rfl rfl rfl rfl rfl ?_
      refine wl_split (t := 37) rfl (fun hg37 => ?_) (fun hg37 => ?_)
      ·replace hg37 := of_decide_eq_true hg37
       refine wl_opG (k := 14) (k' := 15) rfl rfl ⟨_, _, _, rfl, rfl, rfl, rfl⟩ rfl (wo_run rfl rfl (run_move rfl rfl) ?_)
       refine wl_opG (k := 15) (k' := 16) rfl rfl ⟨_, _, _, rfl, rfl, rfl, rfl⟩ rfl (wo_run rfl rfl (run_len rfl rfl rfl rfl rfl rfl Tryd.underlying25) ?_)
       refine wl_opG (k := 16) (k' := 17) rfl rfl ⟨_, _, _, rfl, rfl, rfl, rfl⟩ rfl (wo_run rfl rfl (run_eql rfl rfl rfl) ?_)
       refine wlo 17 18 rfl rfl rfl (wo_run rfl rfl (run_pickT rfl rfl rfl) ?_)
       refine wla 18 19 rfl rfl rfl rfl rfl rfl rfl ?_
       refine wl_end rfl ?_
       refine nm_sub [(2, _)] ⟨rfl, trivial⟩ ?_
       refine nm_thn ?_
       refine ws_ret hC [_] rfl rfl ⟨rfl, trivial⟩ ?_
       refine ⟨_, rfl, _, (((hle1.trans hle2).trans hle3).trans hle4).trans hle5, (S6.pick [] [] (by decide) trivial), ?_⟩
       show Value.bool _ = _
       refine congrArg Value.bool ?_
       first | rfl | (rw [decide_eq_true_iff]; omega) | (simp_all; done)
      ·replace hg37 := of_decide_eq_false hg37
       refine wl_no (k := 14) (k' := 15) (d := 38) rfl rfl ⟨_, _, _, rfl, rfl, rfl, rfl⟩ rfl rfl ?_
       refine wl_no (k := 15) (k' := 16) (d := 39) rfl rfl ⟨_, _, _, rfl, rfl, rfl, rfl⟩ rfl rfl ?_
       refine wl_no (k := 16) (k' := 17) (d := 40) rfl rfl ⟨_, _, _, rfl, rfl, rfl, rfl⟩ rfl rfl ?_
       refine wlo 17 18 rfl rfl rfl (wo_run rfl rfl (run_pickF rfl rfl rfl) ?_)
       refine wla 18 19 rfl rfl rfl rfl rfl rfl rfl ?_
       refine wl_end rfl ?_
       refine nm_sub [(2, _)] ⟨rfl, trivial⟩ ?_
       refine nm_thn ?_
       refine ws_ret hC [_] rfl rfl ⟨rfl, trivial⟩ ?_
       refine ⟨_, rfl, _, (((hle1.trans hle2).trans hle3).trans hle4).trans hle5, (S6.pick [] [] (by decide) trivial), ?_⟩
       show Value.bool _ = _
       refine congrArg Value.bool ?_
       first | rfl | (rw [decide_eq_true_iff]; omega) | (simp_all; done)
     ·replace hg32 := of_decide_eq_false hg32
      refine wl_no (k := 9) (k' := 10) (d := 33) rfl rfl ⟨_, _, _, rfl, rfl, rfl, rfl⟩ rfl rfl ?_
      refine wl_no (k := 10) (k' := 11) (d := 34) rfl rfl ⟨_, _, _, rfl, rfl, rfl, rfl⟩ rfl rfl ?_
      refine wl_no (k := 11) (k' := 12) (d := 35) rfl rfl ⟨_, _, _, rfl, rfl, rfl, rfl⟩ rfl rfl ?_
      refine wlo 12 13 rfl rfl rfl (wo_run rfl rfl (run_pickF rfl rfl rfl) ?_)
      refine wlm 13 14 rfl rfl rfl rfl rfl rfl rfl ?_
      refine wl_no (k := 14) (k' := 15) (d := 38) rfl rfl ⟨_, _, _, rfl, rfl, rfl, rfl⟩ rfl rfl ?_
      refine wl_no (k := 15) (k' := 16) (d := 39) rfl rfl ⟨_, _, _, rfl, rfl, rfl, rfl⟩ rfl rfl ?_
      refine wl_no (k := 16) (k' := 17) (d := 40) rfl rfl ⟨_, _, _, rfl, rfl, rfl, rfl⟩ rfl rfl ?_
      refine wlo 17 18 rfl rfl rfl (wo_run rfl rfl (run_pickF rfl rfl rfl) ?_)
      refine wla 18 19 rfl rfl rfl rfl rfl rfl rfl ?_
      refine wl_end rfl ?_
      refine nm_sub [(2, _)] ⟨rfl, trivial⟩ ?_
      refine nm_thn ?_
      refine ws_ret hC [_] rfl rfl ⟨rfl, trivial⟩ ?_
      refine ⟨_, rfl, _, (((hle1.trans hle2).trans hle3).trans hle4).trans hle5, (S6.pick [] [] (by decide) trivial), ?_⟩
      show Value.bool _ = _
      refine congrArg Value.bool ?_
      first | rfl | (rw [decide_eq_true_iff]; omega) | (simp_all; done)
    ·replace hg27 := of_decide_eq_false hg27
     refine wl_no (k := 4) (k' := 5) (d := 28) rfl rfl ⟨_, _, _, rfl, rfl, rfl, rfl⟩ rfl rfl ?_
     refine wl_no (k := 5) (k' := 6) (d := 29) rfl rfl ⟨_, _, _, rfl, rfl, rfl, rfl⟩ rfl rfl ?_
     refine wl_no (k := 6) (k' := 7) (d := 30) rfl rfl ⟨_, _, _, rfl, rfl, rfl, rfl⟩ rfl rfl ?_
     refine wlo 7 8 rfl rfl rfl (wo_run rfl rfl (run_pickF rfl rfl rfl) ?_)
     refine wlm 8 9 rfl rfl rfl rfl rfl rfl rfl ?_
     refine wl_no (k := 9) (k' := 10) (d := 33) rfl rfl ⟨_, _, _, rfl, rfl, rfl, rfl⟩ rfl rfl ?_
     refine wl_no (k := 10) (k' := 11) (d := 34) rfl rfl ⟨_, _, _, rfl, rfl, rfl, rfl⟩ rfl rfl ?_
     refine wl_no (k := 11) (k' := 12) (d := 35) rfl rfl ⟨_, _, _, rfl, rfl, rfl, rfl⟩ rfl rfl ?_
     refine wlo 12 13 rfl rfl rfl (wo_run rfl rfl (run_pickF rfl rfl rfl) ?_)
     refine wlm 13 14 rfl rfl rfl rfl rfl rfl rfl ?_
     refine wl_no (k := 14) (k' := 15) (d := 38) rfl rfl ⟨_, _, _, rfl, rfl, rfl, rfl⟩ rfl rfl ?_
     refine wl_no (k := 15) (k' := 16) (d := 39) rfl rfl ⟨_, _, _, rfl, rfl, rfl, rfl⟩ rfl rfl ?_
     refine wl_no (k := 16) (k' := 17) (d := 40) rfl rfl ⟨_, _, _, rfl, rfl, rfl, rfl⟩ rfl rfl ?_
     refine wlo 17 18 rfl rfl rfl (wo_run rfl rfl (run_pickF rfl rfl rfl) ?_)
     refine wla 18 19 rfl rfl rfl rfl rfl rfl rfl ?_
     refine wl_end rfl ?_
     refine nm_sub [(2, _)] ⟨rfl, trivial⟩ ?_
     refine nm_thn ?_
     refine ws_ret hC [_] rfl rfl ⟨rfl, trivial⟩ ?_
     refine ⟨_, rfl, _, (((hle1.trans hle2).trans hle3).trans hle4).trans hle5, (S6.pick [] [] (by decide) trivial), ?_⟩
     show Value.bool _ = _
     refine congrArg Value.bool ?_
     first | rfl | (rw [decide_eq_true_iff]; omega) | (simp_all; done)
   ·replace hb23 := of_decide_eq_false hb23
    exfalso; first | omega | (simp_all; done) | contradiction
  ·exact absurd hok2 hok
 ·obtain ⟨hn, hab, hlo, hne⟩ := errK_all hok
  have rmll1 : l1.length * 16 ≤ 140737488355328 := hr2.room
  refine wlm 3 4 rfl rfl rfl rfl rfl rfl rfl ?_
  refine wlo 4 5 rfl rfl rfl (wo_run rfl rfl (run_extract rfl rfl rfl) ?_)
  refine wlo 5 6 rfl rfl rfl (wo_run rfl rfl (run_extract rfl rfl rfl) ?_)
  refine wla 6 7 rfl rfl rfl rfl rfl rfl rfl ?_
  refine wla 7 8 rfl rfl rfl rfl rfl rfl rfl ?_
  refine wl_end rfl ?_
  refine nm_sub [(1, _), (3, _), (4, _)] ⟨rfl, rfl, rfl, trivial⟩ ?_
  refine nm_thn ?_
  refine ws_seqN BracketTells_n5 BracketTells_n6 rfl rfl rfl ?_
  refine ws_region rfl ?_
  refine wlo 0 1 rfl rfl rfl (wo_run rfl rfl (run_loadN (us := [_, _]) rfl rfl Tryd.underlying24 rfl sz24 (S3.boxcs (i := 0) rfl ⟨rfl, rfl, trivial⟩)) ?_)
  refine wlo 1 2 rfl rfl rfl (wo_ct rfl rfl rfl rfl rfl rfl rfl cf5 S3 (DiagramOf_t d (hdcrs.mono (Hp.le_un _ _)) S3.lend) ?_)
  intro vw7 w7 M6 hle6 S7 hRw7; clear S3
  replace hdcrs := hdcrs.mono hle6
  replace htd := htd.mono (Hp.un_mono hle6 S7.mx)
  replace hr1 := hr1.mono hle6
  replace hr2 := hr2.mono hle6
  obtain ⟨A5, c5, rfl, hr5⟩ := hRw7
  refine wlo 2 3 rfl rfl rfl (wo_ct rfl rfl rfl rfl rfl rfl rfl cf6 S7 (Jones_t d (hr5.mono (Hp.le_un _ _)) (htd.mono S7.un_XH) S7.lend) ?_)
  intro vw8 w8 M7 hle7 S8 hRw8; clear S7
  replace hdcrs := hdcrs.mono hle7
  replace htd := htd.mono (Hp.un_mono hle7 S8.mx)
  replace hr1 := hr1.mono hle7
  replace hr2 := hr2.mono hle7
  replace hr5 := hr5.mono hle7
  rcases hRw8 with ⟨hok2, rfl⟩ | ⟨hok2, A6, c6, l3, rfl, hr6, hcan3, hbd3, hmk3⟩
  ·exact absurd hok hok2
  ·have rmll3 : l3.length * 16 ≤ 140737488355328 := hr6.room
   refine wlm 3 4 rfl rfl rfl rfl rfl rfl rfl ?_
   refine wlo 4 5 rfl rfl rfl (wo_run rfl rfl (run_extract rfl rfl rfl) ?_)
   refine wlo 5 6 rfl rfl rfl (wo_run rfl rfl (run_extract rfl rfl rfl) ?_)
   refine wla 6 7 rfl rfl rfl rfl rfl rfl rfl ?_
   refine wla 7 8 rfl rfl rfl rfl rfl rfl rfl ?_
   refine wl_end rfl ?_
   refine nm_sub [(1, _), (3, _), (4, _), (5, _), (6, _)] ⟨rfl, rfl, rfl, rfl, rfl, trivial⟩ ?_
   refine nm_thn ?_
   refine ws_seqN BracketTells_n7 BracketTells_n8 rfl rfl rfl ?_
   refine ws_region rfl ?_
   refine wlo 0 1 rfl rfl rfl (wo_run rfl rfl (run_loadN (us := [_, _]) rfl rfl Tryd.underlying24 rfl sz24 (S8.boxcs (i := 0) rfl ⟨rfl, rfl, trivial⟩)) ?_)
   refine wlo 1 2 rfl rfl rfl (wo_ct rfl rfl rfl rfl rfl rfl rfl cf7 S8 (few_t d 12 (hdcrs.mono (Hp.le_un _ _)) S8.lend) ?_)
   intro vw9 w9 M8 hle8 S9 hRw9; clear S8
   replace hdcrs := hdcrs.mono hle8
   replace htd := htd.mono (Hp.un_mono hle8 S9.mx)
   replace hr1 := hr1.mono hle8
   replace hr2 := hr2.mono hle8
   replace hr5 := hr5.mono hle8
   replace hr6 := hr6.mono hle8
   obtain rfl := hRw9
   refine wla 2 3 rfl rfl rfl rfl rfl rfl rfl ?_
   refine wl_end rfl ?_
   refine nm_sub [(1, _), (3, _), (4, _), (5, _), (6, _), (7, _)] ⟨rfl, rfl, rfl, rfl, rfl, rfl, trivial⟩ ?_
   refine nm_thn ?_
   refine ws_seqN BracketTells_n9 BracketTells_n10 rfl rfl rfl ?_
   refine ws_seqN BracketTells_n11 BracketTells_n12 rfl rfl rfl ?_
   refine ws_region rfl ?_
   refine wlm 0 1 rfl rfl rfl rfl rfl rfl rfl ?_
   refine wlo 1 2 rfl rfl rfl (wo_run rfl rfl (run_neq rfl rfl rfl) ?_)
   refine wl_end rfl ?_
   refine nm_sub [(1, _), (3, _), (4, _), (5, _), (6, _), (7, _), (23, _)] ⟨rfl, rfl, rfl, rfl, rfl, rfl, rfl, trivial⟩ ?_
   refine nm_thn ?_
   refine ws_condN BracketTells_n13 BracketTells_n14 rfl rfl rfl rfl (fun hb23 => ?_) (fun hb23 => ?_)
   ·replace hb23 := of_decide_eq_true hb23
    exfalso; first | omega | (simp_all; done) | contradiction
   ·replace hb23 := of_decide_eq_false hb23
    refine ws_skip rfl ?_
    refine nm_sub [(1, _), (3, _), (4, _), (5, _), (6, _)] ⟨rfl, rfl, rfl, rfl, rfl, trivial⟩ ?_
    refine nm_thn ?_
    refine ws_seqN BracketTells_n17 BracketTells_n18 rfl rfl rfl ?_
    refine ws_region rfl ?_
    refine wlm 0 1 rfl rfl rfl rfl rfl rfl rfl ?_
    refine wlo 1 2 rfl rfl rfl (wo_run rfl rfl (run_eql rfl rfl rfl) ?_)
    refine wlm 2 3 rfl rfl rfl rfl rfl rfl rfl ?_
    refine wl_split (t := 44) rfl (fun hg44 => ?_) (fun hg44 => ?_)
    ·replace hg44 := of_decide_eq_true hg44
     refine wl_opG (k := 3) (k' := 4) rfl rfl ⟨_, _, _, rfl, rfl, rfl, rfl⟩ rfl (wo_run rfl rfl (run_move rfl rfl) ?_)
     refine wl_opG (k := 4) (k' := 5) rfl rfl ⟨_, _, _, rfl, rfl, rfl, rfl⟩ rfl (wo_run rfl rfl (run_eql rfl rfl rfl) ?_)
     refine wlo 5 6 rfl rfl rfl (wo_run rfl rfl (run_pickT rfl rfl rfl) ?_)
     refine wlm 6 7 rfl rfl rfl rfl rfl rfl rfl ?_
     refine wl_split (t := 48) rfl (fun hg48 => ?_) (fun hg48 => ?_)
     ·replace hg48 := of_decide_eq_true hg48
      refine wl_opG (k := 7) (k' := 8) rfl rfl ⟨_, _, _, rfl, rfl, rfl, rfl⟩ rfl (wo_run rfl rfl (run_move rfl rfl) ?_)
      refine wl_opG (k := 8) (k' := 9) rfl rfl ⟨_, _, _, rfl, rfl, rfl, rfl⟩ rfl (wo_run rfl rfl (run_loadN (us := [_, _]) rfl rfl Tryd.underlying24 rfl sz24 (S9.boxcs (i := 0) rfl ⟨rfl, rfl, trivial⟩)) ?_)
      refine wl_opG (k := 9) (k' := 10) rfl rfl ⟨_, _, _, rfl, rfl, rfl, rfl⟩ rfl (wo_ct rfl rfl rfl rfl rfl rfl rfl cf9 S9 (BracketOf_t d (hdcrs.mono (Hp.le_un _ _)) (hn) (hab) (hlo) (hne) S9.lend) ?_)
      intro vw10 w10 M9 hle9 S10 hRw10; clear S9
      replace hdcrs := hdcrs.mono hle9
      replace htd := htd.mono (Hp.un_mono hle9 S10.mx)
      replace hr1 := hr1.mono hle9
      replace hr2 := hr2.mono hle9
      replace hr5 := hr5.mono hle9
      replace hr6 := hr6.mono hle9
      obtain ⟨A7, c7, l4, rfl, hr7, hcan4, hbd4, hmk4⟩ := hRw10
      have rmll4 : l4.length * 16 ≤ 140737488355328 := hr7.room
      have heqxa : l1 = l4 := can_ext hcan1 hcan4 (by rw [hmk1, hmk4]; try first | rfl | (unfold brP; rfl))
      refine wl_opG (k := 10) (k' := 11) rfl rfl ⟨_, _, _, rfl, rfl, rfl, rfl⟩ rfl (wo_cq rfl rfl rfl rfl rfl rfl rfl cf8 S10 (sameTerms_q l1 l4 (hr2.mono (Hp.le_un _ _)) (hr7.mono (Hp.le_un _ _)) (heqxa) S10.lend) ?_)
      rintro _ w11 S11 rfl; clear S10
      refine wlo 11 12 rfl rfl rfl (wo_run rfl rfl (run_pickT rfl rfl rfl) ?_)
      refine wlm 12 13 rfl rfl rfl rfl rfl rfl rfl ?_
      refine wl_opG (k := 13) (k' := 14) rfl rfl ⟨_, _, _, rfl, rfl, rfl, rfl⟩ rfl (wo_run rfl rfl (run_move rfl rfl) ?_)
      refine wl_opG (k := 14) (k' := 15) rfl rfl ⟨_, _, _, rfl, rfl, rfl, rfl⟩ rfl (wo_run rfl rfl (run_loadN (us := [_, _]) rfl rfl Tryd.underlying24 rfl sz24 (S11.boxcs (i := 0) rfl ⟨rfl, rfl, trivial⟩)) ?_)
      refine wl_opG (k := 15) (k' := 16) rfl rfl ⟨_, _, _, rfl, rfl, rfl, rfl⟩ rfl (wo_ct rfl rfl rfl rfl rfl rfl rfl cf10 S11 (JonesOf_t d (hdcrs.mono (Hp.le_un _ _)) (hn) (hab) (hlo) (hne) S11.lend) ?_)
      intro vw12 w12 M10 hle10 S12 hRw12; clear S11
      replace hdcrs := hdcrs.mono hle10
      replace htd := htd.mono (Hp.un_mono hle10 S12.mx)
      replace hr1 := hr1.mono hle10
      replace hr2 := hr2.mono hle10
      replace hr5 := hr5.mono hle10
      replace hr6 := hr6.mono hle10
      replace hr7 := hr7.mono hle10
      obtain ⟨A8, c8, l5, rfl, hr8, hcan5, hbd5, hmk5⟩ := hRw12
      have rmll5 : l5.length * 16 ≤ 140737488355328 := hr8.room
      have heqxb : l3 = l5 := can_ext hcan3 hcan5 (by rw [hmk3, hmk5]; try first | rfl | (unfold brP; rfl))
      refine wl_opG (k := 16) (k' := 17) rfl rfl ⟨_, _, _, rfl, rfl, rfl, rfl⟩ rfl (wo_cq rfl rfl rfl rfl rfl rfl rfl cf8 S12 (sameTerms_q l3 l5 (hr6.mono (Hp.le_un _ _)) (hr8.mono (Hp.le_un _ _)) (heqxb) S12.lend) ?_)
      rintro _ w13 S13 rfl; clear S12
      refine wlo 17 18 rfl rfl rfl (wo_run rfl rfl (run_pickT rfl rfl rfl) ?_)
      refine wla 18 19 rfl rfl rfl rfl rfl rfl rfl ?_
      refine wl_end rfl ?_
      refine nm_sub [(2, _)] ⟨rfl, trivial⟩ ?_
      refine nm_thn ?_
      refine ws_ret hC [_] rfl rfl ⟨rfl, trivial⟩ ?_
      refine ⟨_, rfl, _, (((((hle1.trans hle2).trans hle6).trans hle7).trans hle8).trans hle9).trans hle10, (S13.pick [] [] (by decide) trivial), ?_⟩
      show Value.bool _ = _
      refine congrArg Value.bool ?_
      first | rfl | (rw [decide_eq_true_iff]; omega) | (simp_all; done)
     ·replace hg48 := of_decide_eq_false hg48
      refine wl_no (k := 7) (k' := 8) (d := 49) rfl rfl ⟨_, _, _, rfl, rfl, rfl, rfl⟩ rfl rfl ?_
      refine wl_no (k := 8) (k' := 9) (d := 50) rfl rfl ⟨_, _, _, rfl, rfl, rfl, rfl⟩ rfl rfl ?_
      refine wl_no (k := 9) (k' := 10) (d := 51) rfl rfl ⟨_, _, _, rfl, rfl, rfl, rfl⟩ rfl rfl ?_
      refine wl_no (k := 10) (k' := 11) (d := 52) rfl rfl ⟨_, _, _, rfl, rfl, rfl, rfl⟩ rfl rfl ?_
      refine wlo 11 12 rfl rfl rfl (wo_run rfl rfl (run_pickF rfl rfl rfl) ?_)
      refine wlm 12 13 rfl rfl rfl rfl rfl rfl rfl ?_
      refine wl_no (k := 13) (k' := 14) (d := 55) rfl rfl ⟨_, _, _, rfl, rfl, rfl, rfl⟩ rfl rfl ?_
      refine wl_no (k := 14) (k' := 15) (d := 56) rfl rfl ⟨_, _, _, rfl, rfl, rfl, rfl⟩ rfl rfl ?_
      refine wl_no (k := 15) (k' := 16) (d := 57) rfl rfl ⟨_, _, _, rfl, rfl, rfl, rfl⟩ rfl rfl ?_
      refine wl_no (k := 16) (k' := 17) (d := 58) rfl rfl ⟨_, _, _, rfl, rfl, rfl, rfl⟩ rfl rfl ?_
      refine wlo 17 18 rfl rfl rfl (wo_run rfl rfl (run_pickF rfl rfl rfl) ?_)
      refine wla 18 19 rfl rfl rfl rfl rfl rfl rfl ?_
      refine wl_end rfl ?_
      refine nm_sub [(2, _)] ⟨rfl, trivial⟩ ?_
      refine nm_thn ?_
      refine ws_ret hC [_] rfl rfl ⟨rfl, trivial⟩ ?_
      refine ⟨_, rfl, _, (((hle1.trans hle2).trans hle6).trans hle7).trans hle8, (S9.pick [] [] (by decide) trivial), ?_⟩
      show Value.bool _ = _
      refine congrArg Value.bool ?_
      first | rfl | (rw [decide_eq_true_iff]; omega) | (simp_all; done)
    ·replace hg44 := of_decide_eq_false hg44
     refine wl_no (k := 3) (k' := 4) (d := 45) rfl rfl ⟨_, _, _, rfl, rfl, rfl, rfl⟩ rfl rfl ?_
     refine wl_no (k := 4) (k' := 5) (d := 46) rfl rfl ⟨_, _, _, rfl, rfl, rfl, rfl⟩ rfl rfl ?_
     refine wlo 5 6 rfl rfl rfl (wo_run rfl rfl (run_pickF rfl rfl rfl) ?_)
     refine wlm 6 7 rfl rfl rfl rfl rfl rfl rfl ?_
     refine wl_no (k := 7) (k' := 8) (d := 49) rfl rfl ⟨_, _, _, rfl, rfl, rfl, rfl⟩ rfl rfl ?_
     refine wl_no (k := 8) (k' := 9) (d := 50) rfl rfl ⟨_, _, _, rfl, rfl, rfl, rfl⟩ rfl rfl ?_
     refine wl_no (k := 9) (k' := 10) (d := 51) rfl rfl ⟨_, _, _, rfl, rfl, rfl, rfl⟩ rfl rfl ?_
     refine wl_no (k := 10) (k' := 11) (d := 52) rfl rfl ⟨_, _, _, rfl, rfl, rfl, rfl⟩ rfl rfl ?_
     refine wlo 11 12 rfl rfl rfl (wo_run rfl rfl (run_pickF rfl rfl rfl) ?_)
     refine wlm 12 13 rfl rfl rfl rfl rfl rfl rfl ?_
     refine wl_no (k := 13) (k' := 14) (d := 55) rfl rfl ⟨_, _, _, rfl, rfl, rfl, rfl⟩ rfl rfl ?_
     refine wl_no (k := 14) (k' := 15) (d := 56) rfl rfl ⟨_, _, _, rfl, rfl, rfl, rfl⟩ rfl rfl ?_
     refine wl_no (k := 15) (k' := 16) (d := 57) rfl rfl ⟨_, _, _, rfl, rfl, rfl, rfl⟩ rfl rfl ?_
     refine wl_no (k := 16) (k' := 17) (d := 58) rfl rfl ⟨_, _, _, rfl, rfl, rfl, rfl⟩ rfl rfl ?_
     refine wlo 17 18 rfl rfl rfl (wo_run rfl rfl (run_pickF rfl rfl rfl) ?_)
     refine wla 18 19 rfl rfl rfl rfl rfl rfl rfl ?_
     refine wl_end rfl ?_
     refine nm_sub [(2, _)] ⟨rfl, trivial⟩ ?_
     refine nm_thn ?_
     refine ws_ret hC [_] rfl rfl ⟨rfl, trivial⟩ ?_
     refine ⟨_, rfl, _, (((hle1.trans hle2).trans hle6).trans hle7).trans hle8, (S9.pick [] [] (by decide) trivial), ?_⟩
     show Value.bool _ = _
     refine congrArg Value.bool ?_
     first | rfl | (rw [decide_eq_true_iff]; omega) | (simp_all; done)
end Go.Proofs.YtlmcnpbkmihjkaaDoor
namespace Go.Proofs.YtlmcnpbkmihjkaaDoor
open Go.ChangeShapes Go.WideShapes Go.ChangeAt Go.RowKit
theorem law_lift_laidZ {H : Type} {enc : TypeId × Value → H} {C : Checked} {os : Os} {f : FuncId} {fn : Func} {s : ChangeSpec} {tb : TypeId} {Z : World → Prop} (hZ : ∀ w w' : World, w.heap = w'.heap → Z w → Z w')
    (own : ownKnob C.prog.godebug = none) (started : os.Started) (noInit : C.prog.inits.idxOf? f = none) (hfn : C.prog.funcs[f]? = some fn)
    (witness : ∃ (w : World) (tape : Tape) (i : Input), w.os = os ∧ (w.forCall tape i).Shaped C.prog ∧ i.vars = [] ∧ Input.okWide C.prog (w.forCall tape i) .any w.heap.size f i ∧
      ((s.pre enc C.prog fn [] false (w.forCall tape i).memory i.args ∧ Z (w.forCall tape i).memory) ∧ sizedMet enc C.prog fn (OpenSpec.ofChange s) false (w.forCall tape i).memory i.args) ∧ ({} : Assume).holds C.prog (lone (Frame.enter C.prog f i.args .normal) [] (w.forCall tape i)))
    (hvars : s.vars = []) (hl : laidOutB C.prog = true) (hps : (fn.params.toList.all fun t => C.prog.readableRec t && decide (t < C.prog.types.size)) = true)
    (hres : fn.resultTypes = #[tb]) (htb : C.prog.underlying tb = some .bool)
    (hspec : ∀ ds : List (DataW H), ds.length = fn.params.toList.length → s.fn H (ds ++ []) = { results := [.lit (.bool true)], args := ds })
    (hlaw : ∀ (W : World) (base : Nat) (args : Array Value) (ds : List (DataW H)) (p : List MemPlace),
      (∀ (j : Nat) t v, fn.params[j]? = some t → args[j]? = some v → Value.okWide C.prog W .any base t v) →
      DataW.TrodAll enc C.prog W 0 (fun _ => true) true fn.params.toList args.toList ds p → W.noneFrozen p → (∀ x ∈ p, x.block < W.heap.size) →
      (DataW.weightsEach C.prog fn.params.toList ds).all (· ≤ reachBytes) = true → Z W →
      Calls C.prog f args W fun e W' => e = .returned (.bool true) ∧ Below W.heap.size W W') :
    ReturnsInHanded {} C os f .any (fun w args => (s.pre enc C.prog fn [] false w args ∧ Z w) ∧ sizedMet enc C.prog fn (OpenSpec.ofChange s) false w args) (s.post enc C.prog fn false true false false) := by
  refine returnsInHanded_of_change_and (conds := []) (X := fun w _ => Z w) (fun w w' _ h hx => hZ w w' h hx) own started noInit hfn witness ?_
  intro W base args ds gs before hval hW _ hsz hzw _
  have hW' := hW
  obtain ⟨p, q, hA, hV, rfl, hfz, _⟩ := hW
  rw [hvars] at hV
  have hgs : gs = [] ∧ q = [] := by cases gs with
    | nil => exact ⟨rfl, hV⟩
    | cons g gs => exact hV.elim
  obtain ⟨rfl, rfl⟩ := hgs
  have hvt : s.plain.varTypes C.prog = [] := by simp [DataSpec.varTypes, ChangeSpec.plain, hvars]
  rw [hvt, List.append_nil, List.append_nil] at hsz
  have hlt : ∀ x ∈ p, x.block < W.heap.size := fun x hx => hW'.lt x (by simp [hx])
  refine (hlaw W base args ds p hval hA (fun b off hm => hfz b off (by simp [hm])) hlt hsz hzw).mono ?_
  rintro e W' ⟨rfl, hb⟩
  have hps' : ∀ t ∈ fn.params.toList, C.prog.readableRec t = true ∧ t < C.prog.types.size := by
    intro t ht
    have := List.all_eq_true.1 hps t ht
    simpa using this
  refine ⟨_, rfl, ds, [], _, [], p, [], hW', ?_, ?_, ?_, hb.frame _, fun h => by cases h⟩
  · rw [hspec ds (trodAll_length _ _ _ _ hA), hres]
    exact trodAll_mk1 (shut_bool htb true)
  · rw [hspec ds (trodAll_length _ _ _ _ hA)]
    exact trodAll_below hl hb _ _ _ _ hps' hA hlt
  · rw [hspec ds (trodAll_length _ _ _ _ hA), hvars]
    rfl
end Go.Proofs.YtlmcnpbkmihjkaaDoor
namespace Go.Proofs.YtlmcnpbkmihjkaaDoor
open Go.ChangeShapes Go.WideShapes Go.ChangeAt Go.RowKit Go.Joins Go.Deep
theorem sized_in {H : Type} {P : Program} {ts : List TypeId} {ds : List (DataW H)} (h : (DataW.weightsEach P ts ds).all (· ≤ reachBytes) = true) {j i : Nat} {t e : TypeId} {f : Field} {fs : Array Field} {parts : List (DataW H)} {elems spare : List (DataW H)}
    (ht : ts[j]? = some t) (hd : ds[j]? = some (.agg parts)) (hu : P.underlying t = some (.struct fs)) (hf : fs.toList[i]? = some f) (hp : parts[i]? = some (.slice elems spare)) (he : P.underlying f.type = some (.slice e)) :
    (elems.length + spare.length) * P.bytesOf e ≤ reachBytes := by
  have m1 := DataW.weights_mem_each (P := P) (ts := fs.toList.map (·.type)) (j := i) (t := f.type) (by rw [List.getElem?_map, hf]; rfl) hp ((elems.length + spare.length) * P.bytesOf e) (by simp [DataW.weights, he])
  have m2 := DataW.weights_mem_each (P := P) ht hd ((elems.length + spare.length) * P.bytesOf e) (by simp only [DataW.weights, hu]; exact m1)
  simpa using List.all_eq_true.1 h _ m2
theorem len5 (l : List Cr) : (l.flatMap codCr.f).length = l.length * 5 := by
  induction l with
  | nil => rfl
  | cons x l ih => rw [List.flatMap_cons, List.length_append, ih, codCr.hf, List.length_cons]; show 5 + _ = _; omega
theorem take1 {l : List Value} {j : Nat} {u : Value} (h : (l.drop j).take 1 = [u]) : l[j]? = some u := by
  have := congrArg (fun z => z[0]?) h
  simpa [List.getElem?_take, List.getElem?_drop] using this
theorem pick {α : Type} [Inhabited α] {m : Nat} {Q : Nat → α → Prop} (h : ∀ i, i < m → ∃ x, Q i x) : ∃ F : Nat → α, ∀ i, i < m → Q i (F i) :=
  ⟨fun i => if hi : i < m then (h i hi).choose else default, fun i hi => by
    show Q i (if hi : i < m then (h i hi).choose else default)
    rw [dif_pos hi]; exact (h i hi).choose_spec⟩
section
variable {H : Type} {enc : TypeId × Value → H} {w : World}
theorem f_int {n j : Nat} {cs : List Value} {y : DataW H × List MemPlace} (h : DataW.trod enc Tryd.prog w 0 (fun _ => true) true n 3 ((cs.drop j).take (Tryd.prog.cellsOf 3)) = some y) : ∃ a, cs[j]? = some (.int .i64 a) := by
  obtain ⟨a, e, _⟩ := DataW.trod_int Tryd.underlying3 h
  rw [show Tryd.prog.cellsOf 3 = 1 by kernel_rfl] at e
  exact ⟨a, take1 e⟩
theorem f_bool {n j : Nat} {cs : List Value} {y : DataW H × List MemPlace} (h : DataW.trod enc Tryd.prog w 0 (fun _ => true) true n 4 ((cs.drop j).take (Tryd.prog.cellsOf 4)) = some y) : ∃ a, cs[j]? = some (.bool a) := by
  obtain ⟨a, e, _⟩ := DataW.trod_bool Tryd.underlying4 h
  rw [show Tryd.prog.cellsOf 4 = 1 by kernel_rfl] at e
  exact ⟨a, take1 e⟩
set_option maxRecDepth 100000 in
theorem open_cr {n : Nat} {cs : List Value} {x : DataW H × List MemPlace} (h : DataW.trod enc Tryd.prog w 0 (fun _ => true) true n 67 cs = some x) : ∃ c : Cr, ∀ j u, j < 5 → (crF c)[j]? = some u → cs[j]? = some u := by
  obtain ⟨xs, k, _, _, _, hl, hf⟩ := DataW.trod_struct Tryd.underlying67 h
  match xs, hl with
  | [y0, y1, y2, y3, y4], _ =>
    have g0 := hf 0 _ rfl
    have g1 := hf 1 _ rfl
    have g2 := hf 2 _ rfl
    have g3 := hf 3 _ rfl
    have g4 := hf 4 _ rfl
    obtain ⟨n0, e0⟩ := f_int (j := 0) (y := y0) g0
    obtain ⟨n1, e1⟩ := f_int (j := 1) (y := y1) g1
    obtain ⟨n2, e2⟩ := f_int (j := 2) (y := y2) g2
    obtain ⟨n3, e3⟩ := f_int (j := 3) (y := y3) g3
    obtain ⟨n4, e4⟩ := f_bool (j := 4) (y := y4) g4
    refine ⟨⟨n0, n1, n2, n3, n4⟩, fun j u hj hu => ?_⟩
    match j, hj with
    | 0, _ => simp [crF] at hu; subst hu; exact e0
    | 1, _ => simp [crF] at hu; subst hu; exact e1
    | 2, _ => simp [crF] at hu; subst hu; exact e2
    | 3, _ => simp [crF] at hu; subst hu; exact e3
    | 4, _ => simp [crF] at hu; subst hu; exact e4
set_option maxRecDepth 100000 in
theorem open_Dg {v : Value} {d : DataW H} {p : List MemPlace} {b0 : Nat} (hv : Value.okWide Tryd.prog w .any b0 24 v) (h : DataW.Trod enc Tryd.prog w 0 (fun _ => true) true 24 v d p) (hlt : ∀ x ∈ p, x.block < w.heap.size)
    {ts : List TypeId} {ds : List (DataW H)} (hsz : (DataW.weightsEach Tryd.prog ts ds).all (· ≤ reachBytes) = true) {j : Nat} (hj : ts[j]? = some 24) (hd : ds[j]? = some d) :
    ∃ g : Dg, IsDg w w.heap.size v g := by
  obtain ⟨v0, v1, y0, y1, n, rfl, rfl, rfl, t0, t1⟩ := open_agg2 Tryd.underlying24 (by kernel_rfl) (by kernel_rfl) hv h
  obtain ⟨l, e1, _, _⟩ := DataW.trod_int Tryd.underlying3 t1
  injection e1 with e1
  subst e1
  have hs := fun es sp (hp : y0.1 = .slice es sp) => sized_in hsz hj hd Tryd.underlying24 (i := 0) rfl (by rw [List.getElem?_cons_zero, hp]) Tryd.underlying22
  rcases open_slice Tryd.underlying22 t0 with ⟨hcs, hx⟩ | ⟨a, len, cap, m, k, D, Pl, hcs, hb, hl, hm, hmm, hx, hi⟩
  · injection hcs with hcs
    subst hcs
    exact ⟨⟨[], l⟩, none, 0, rfl, Nat.le_refl _, Rd.nil_⟩
  · injection hcs with hcs
    subst hcs
    have hk : Tryd.prog.cellsOf 67 = 5 := by kernel_rfl
    have hby : Tryd.prog.bytesOf 67 = 40 := by kernel_rfl
    have hs := hs _ _ (by rw [hx])
    rw [hby] at hs
    simp only [if_true] at hmm
    subst hmm
    simp only [List.length_map, List.length_range, reachBytes] at hs
    obtain ⟨F, hF⟩ := pick (m := m) (Q := fun i (c : Cr) => ∀ j u, j < 5 → (crF c)[j]? = some u → w.cell? (a.add (i * 5 + j)) = some u) (fun i him => by
      obtain ⟨cs', hc, ht'⟩ := hi i him
      rw [hk] at hc
      obtain ⟨c, hc'⟩ := open_cr ht'
      obtain ⟨_, hcl, hat⟩ := World.cells?_some hc
      refine ⟨c, fun j u hj hu => ?_⟩
      rw [← Go.Deep.add_add, hat j hj]
      exact hc' j u hj hu)
    have hlen : ((List.range len).map F).length = len := by simp
    refine ⟨⟨(List.range len).map F, l⟩, some a, m, by rw [hlen], by rw [hlen]; exact hl, ?_⟩
    refine ⟨len5 _, by show _ * 40 ≤ _; rw [hlen]; omega, fun h0 => ?_⟩
    rw [hlen] at h0
    obtain ⟨b, off, spot⟩ := a
    have hspot : spot = none := by simpa [Addr.add] using World.cell?_spot (hF 0 (by omega) 0 _ (by omega) rfl)
    subst hspot
    refine ⟨b, off, rfl, hlt (.cell b off) (List.mem_append_left _ (by rw [hx]; exact List.mem_append_left _ (MemPlace.mem_row.2 ⟨0, by rw [hk]; omega, by simp⟩))), fun i u hu => ?_⟩
    have hil : i < len * 5 := by
      have := (List.getElem?_eq_some_iff.1 hu).1
      rw [len5, hlen] at this
      exact this
    have hu' := hu
    rw [show i = (i / 5) * 5 + i % 5 by omega] at hu'
    rw [show (5 : Nat) = codCr.k from rfl, flat_get codCr.hf (by rw [hlen]; show i / 5 < len; omega) (by show i % 5 < 5; omega)] at hu'
    have := hF (i / 5) (by omega) (i % 5) u (by omega) (by simpa [codCr] using hu')
    rw [show (i / 5) * 5 + i % 5 = i by omega] at this
    rcases Nat.eq_zero_or_pos i with h1 | h1
    · subst h1; simpa [Addr.add] using this
    · simpa [Addr.add, show ¬ i = 0 by omega] using this
end
end Go.Proofs.YtlmcnpbkmihjkaaDoor
namespace Go.Proofs.YtlmcnpbkmihjkaaDoor
open Go.ChangeShapes Go.WideShapes Go.ChangeAt Go.RowKit
theorem RdA.of_sl {α : Type} {C : Cd α} {w : World} {B c : Nat} {A : Option Addr} {xs : List α} (hc : xs.length ≤ c) (hk : 0 < C.k) (h : Sl w B C.k C.u8 A xs.length (xs.flatMap C.f)) : RdA C (hp w) A c xs := by
  refine ⟨hc, h.2.1, fun h0 => ?_⟩
  obtain ⟨b, off, rfl, _, hat⟩ := h.2.2 h0
  refine ⟨rfl, ?_⟩
  have hlen : 0 < (xs.flatMap C.f).length := by rw [flat_len C.hf]; exact Nat.mul_pos h0 hk
  have h1 := hat 0 _ (List.getElem?_eq_getElem hlen)
  show ∃ cs T fz, w.heap[b]? = some (.cells cs T fz) ∧ ∀ j u, (xs.flatMap C.f)[j]? = some u → cs[off + j]? = some u
  unfold World.cell? at h1
  split at h1
  · rename_i cs T fz hb
    refine ⟨cs, T, fz, hb, fun j u hu => ?_⟩
    have := hat j u hu
    rw [cell_of_row w b _ cs T fz hb] at this
    exact this
  · cases h1
theorem IsDg.rd {w : World} {B : Nat} {v : Value} {d : Dg} (h : IsDg w B v d) : ∃ A c, v = .agg [.slice A d.crs.length c, .int .i64 d.loops].toArray ∧ RdA cdCr (hp w) A c d.crs := by
  obtain ⟨A, c, rfl, hc, h⟩ := h
  exact ⟨A, c, rfl, RdA.of_sl (C := cdCr) hc (by decide) h⟩
end Go.Proofs.YtlmcnpbkmihjkaaDoor
namespace Go.Proofs.YtlmcnpbkmihjkaaDoor
open Go.ChangeShapes Go.WideShapes Go.ChangeAt Go.RowKit
def laidB : List (String × DataW Unit) := [("knotwork/bracket.tied", Rows.laid_knotwork_bracket_tied)]
theorem gTied : Tryd.prog.globalNamed "knotwork/bracket.tied" = some 0 := by kernel_rfl
theorem tTied : (Tryd.prog.globals[0]?).map (·.type) = some 83 := by kernel_rfl
section
variable {H : Type} {enc : TypeId × Value → H} {P : Program} {w : World} {base : Nat} {spare : Nat → Bool} {held : Bool} {fuel : Nat} {t : TypeId} {cs : List Value} {p : List MemPlace}
theorem arr2 {e : TypeId} {k : Nat} (hk : P.cellsOf e = k) (hc : P.cellsOf t = 2 * k) (ht : P.underlying t = some (.array 2 e)) {x0 x1 : DataW H} (h : DataW.trod enc P w base spare held fuel t cs = some (.agg [x0, x1], p)) :
    ∃ m p0 p1, cs = cs.take k ++ cs.drop k ∧ cs.length = 2 * k ∧ DataW.trod enc P w base spare held m e (cs.take k) = some (x0, p0) ∧ DataW.trod enc P w base spare held m e (cs.drop k) = some (x1, p1) := by
  obtain ⟨xs, m, _, hx, hl, hn, hf⟩ := DataW.trod_array ht h
  match xs, hn with
  | [y0, y1], _ =>
    have h0 := hf 0 (by omega)
    have h1 := hf 1 (by omega)
    have e1 : x0 = y0.1 ∧ x1 = y1.1 := by simpa using congrArg Prod.fst hx
    obtain ⟨rfl, rfl⟩ := e1
    rw [hk, Nat.zero_mul, List.drop_zero] at h0
    rw [hk, Nat.one_mul, List.take_of_length_le (by rw [List.length_drop, hl, hc]; omega)] at h1
    exact ⟨m, y0.2, y1.2, (List.take_append_drop k cs).symm, by rw [hl, hc], h0, h1⟩
end
theorem pair_of {H : Type} {enc : TypeId × Value → H} {w : World} {base : Nat} {spare : Nat → Bool} {held : Bool} {fuel : Nat} {cs : List Value} {p : List MemPlace} {a b : Int} (h : DataW.trod enc Tryd.prog w base spare held fuel 81 cs = some (.agg [.lit (.int .i64 a), .lit (.int .i64 b)], p)) : cs = [.int .i64 a, .int .i64 b] :=
  Lib.cells_of_tab (zs := [a, b]) Tryd.underlying81 Tryd.underlying3 (by kernel_rfl) (by kernel_rfl) h
theorem quad_of {H : Type} {enc : TypeId × Value → H} {w : World} {base : Nat} {spare : Nat → Bool} {held : Bool} {fuel : Nat} {cs : List Value} {p : List MemPlace} {a b c e : Int} (h : DataW.trod enc Tryd.prog w base spare held fuel 82 cs = some (.agg [.agg [.lit (.int .i64 a), .lit (.int .i64 b)], .agg [.lit (.int .i64 c), .lit (.int .i64 e)]], p)) : cs = [.int .i64 a, .int .i64 b, .int .i64 c, .int .i64 e] := by
  obtain ⟨m, p0, p1, h1, _, h2, h3⟩ := arr2 (k := 2) (by kernel_rfl) (by kernel_rfl) Tryd.underlying82 h
  rw [h1, pair_of h2, pair_of h3]; rfl
theorem tab_of {W : World} (h : laidMetH Tryd.prog laidB W) : TbW (hp W) 0 tdL := by
  rw [MakeChecks.laidMetH_plain _ _ _ (by kernel_rfl)] at h
  obtain ⟨ps, ⟨g0, t0, cs0, f0, p0, q0, hg0, ht0, hv0, hd0, _, _⟩, _⟩ := h
  obtain rfl := Option.some.inj (gTied.symm.trans hg0)
  obtain rfl := Option.some.inj (tTied.symm.trans ht0)
  obtain ⟨m, p0, p1, h1, _, h2, h3⟩ := arr2 (k := 4) (by kernel_rfl) (by kernel_rfl) Tryd.underlying83 hd0
  have e1 : cs0.toList = tdL := by rw [h1, quad_of h2, quad_of h3]; rfl
  unfold World.var? at hv0
  rw [gTied] at hv0
  simp only [Option.bind_some] at hv0
  cases hb : W.heap[0]? with
  | none => rw [hb] at hv0; cases hv0
  | some ob =>
    rw [hb] at hv0
    cases ob with
    | cells c T q =>
      have e2 : c = cs0 := Option.some.inj hv0
      exact TbW.start (T := T) (q := q) (by rw [hb, e2, ← e1])
    | _ => cases hv0
theorem lawBracketTells (u : Value) (a : Dg) (W : World) (ha : IsDg W W.heap.size u a) (hT : TbW (hp W) 0 tdL) :
    Calls Tryd.prog 3 #[u] W fun e W' => e = .returned (.bool true) ∧ Below W.heap.size W W' := by
  obtain ⟨A, c, rfl, ha'⟩ := ha.rd
  exact law_of_ct (BracketTells_t a ha' (hT.mono (Hp.le_un _ _)) (SH.start W))
theorem door_met (os : Os) (args : Array Value) : laidMetH Tryd.prog laidB ((World.doorLaid Tryd.prog 400 os).forCall (fun _ _ => 0) ⟨#[], args, []⟩).memory :=
  laidMetH_of_parts3 (fuel := 8) (laidMet_of_run' 8 (by kernel_rfl) (by kernel_rfl)) (by kernel_rfl) (by kernel_rfl)
set_option maxRecDepth 100000 in
theorem bracketTells_lifted (os : Os) (started : os.Started) (H : Type) (enc : TypeId × Value → H) :
    ReturnsInHanded {} Tryd.checked os 3 .any (fun w args => (Rows.bracketTellsSpec.pre enc Tryd.prog Tryd.f3 [] false w args ∧ laidMetH Tryd.prog laidB w) ∧ sizedMet enc Tryd.prog Tryd.f3 (OpenSpec.ofChange Rows.bracketTellsSpec) false w args)
      (Rows.bracketTellsSpec.post enc Tryd.prog Tryd.f3 false true false false) := by
  refine law_lift_laidZ (C := Tryd.checked) (tb := 4) (Z := laidMetH Tryd.prog laidB) (fun _ _ hh h => h.of_heap hh) (by kernel_rfl) started (by kernel_rfl) Tryd.func3
    (ChangeSpec.witness_shaped (enc := enc) (C := Tryd.checked) (os := os) (X := fun w _ => laidMetH Tryd.prog laidB w) false (World.doorLaid Tryd.prog 400 os) #[.agg #[.slice none 0 0, .int .i64 0]] 8 rfl (World.shaped_of_RefB (by kernel_rfl) (by kernel_rfl)) (by kernel_rfl) (by kernel_rfl) (by kernel_rfl) (door_met os _))
    rfl (by kernel_rfl) (by kernel_rfl) rfl Tryd.underlying4 ?_ ?_
  · intro ds hds
    match ds, hds with
    | [d0], _ => rfl
  · intro W base args ds p hval hA _ hlt hsz hzw
    rw [Tryd.params3] at hA hval hsz
    obtain ⟨v0, vs0, d0, ds0, p0, q0, hargs, rfl, rfl, h0, r0⟩ := trodAll_cons hA
    obtain ⟨rfl, rfl, rfl⟩ := trodAll_nil r0
    obtain rfl : args = #[v0] := by cases args; simp_all
    obtain ⟨a0, i0⟩ := open_Dg (hval 0 24 v0 rfl rfl) h0 (fun x hx => hlt x (by simp [hx])) hsz (j := 0) rfl rfl
    exact lawBracketTells v0 a0 W i0 (tab_of hzw)
theorem bracketTells_row : Rows.BracketTellsSaid :=
  OpenClaim.holds_of_wide 3 Tryd.f3 rfl rfl rfl rfl rfl rfl rfl ⟨rfl, rfl, rfl, rfl, rfl⟩ rfl rfl rfl rfl rfl (by kernel_rfl) Tryd.func3 (by kernel_rfl)
    (of_decide_eq_true (by kernel_rfl)) (by unfold Func.isWrapper; first | (rw [if_pos (by decide +kernel)]; kernel_rfl) | (rw [if_neg (by decide +kernel)]; exact ⟨rfl, rfl⟩))
    (fun os started H enc _ => bracketTells_lifted os started H enc)
/-- THE TIED CARD. -/
theorem bracketTells_holds : Rows.BracketTellsCardSaid :=
  Claim7.holds_tied_plain_at .later [] [.data] true (true, "a8d0f907f80cb8b3add20953501a45c9c3ad583e8d9f46e275d0737dadd787ba") true
    bracketTells_row (fun _ h => by cases h) (by kernel_rfl) (fun _ h => by cases h) bracketTells_row_tie rfl ⟨rfl, rfl⟩ (by kernel_rfl) rfl
    (fun f fn hf hfn => by
      obtain rfl : f = 3 := Option.some.inj ((show Tryd.prog.funcNamed "knotwork/knotworklaw.BracketTells" = some 3 by kernel_rfl).symm.trans hf) |>.symm
      obtain rfl : fn = Tryd.f3 := (Option.some.inj (Tryd.func3.symm.trans hfn)).symm
      exact ⟨by kernel_rfl, fun j t ht => by
        rw [Tryd.params3] at ht
        have hm : t ∈ [24] := by simpa using Array.mem_of_getElem? ht
        have hall : ([24].all fun u => !Tryd.prog.wantsStandIn u) = true := by kernel_rfl
        exact (show Tryd.prog.wantsStandIn t = false by simpa using List.all_eq_true.1 hall t hm)⟩)
    (by kernel_rfl)
#print axioms bracketTells_holds
end Go.Proofs.YtlmcnpbkmihjkaaDoor
