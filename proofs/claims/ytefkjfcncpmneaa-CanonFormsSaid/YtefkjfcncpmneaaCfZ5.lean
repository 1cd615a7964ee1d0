/- Part 5 of the proof of the law CanonForms: the walks through its functions and the plain laws that they need. -/
import Derived.Test.YtefkjfcncpmneaaCfZ4
set_option linter.unusedSimpArgs false
set_option linter.unusedVariables false
namespace Go.Proofs.Ytefkjfcncpmneaa
open Go.ChangeShapes Go.WideShapes Go.ChangeAt Go.RowKit
def CodeT (s : Cf) (u : Value) (N : Hp) : Prop := ∃ A c B e, u = .agg [.slice A s.od.length c, .slice B s.co.length e].toArray ∧ RdA cdInt N A c s.od ∧ RdA cdInt N B e s.co
/-- The map of the numbers, as the list of them. -/
def MpN (n : Nat) (es : List (Int × Int)) (nu : List Int) : Prop := ∀ x : Nat, x < n → mg (x : Int) es = if ga nu x < 0 then none else some (ga nu x)
theorem MpN.put {n : Nat} {es : List (Int × Int)} {nu : List Int} (h : MpN n es nu) (hl : nu.length = n) {y : Nat} (hy : y < n) {v : Int} (hv : 0 ≤ v) : MpN n (mp (y : Int) v es) (nu.set y v) := fun x hx => by
 rw [mg_mp, ga_set _ _ _ _ (by omega)]
 by_cases e : x = y
 ·subst e; rw [if_pos rfl, if_pos rfl, if_neg (by omega)]
 ·rw [if_neg (show ¬ (x : Int) = (y : Int) by omega)]
  simp only [if_neg (show ¬ y = x from fun e2 => e e2.symm)]
  exact h x hx
theorem MpN.start (d : Dg) {st : Nat} (hs : st < d.crs.length) : MpN d.crs.length (mp (st : Int) 0 []) (cf0 d st).nu := MpN.put (nu := List.replicate d.crs.length (-1)) (fun x hx => by rw [ga_rep _ _ _ hx]; rfl) (by simp) hs (by omega)
noncomputable def see_n0 : Code := Try.f62.body.getD .skip
noncomputable def see_n1 : Code := cL see_n0
noncomputable def see_n2 : Code := cR see_n0
noncomputable def see_n3 : Code := cL see_n2
noncomputable def see_n4 : Code := cR see_n2
noncomputable def see_n5 : Code := cL see_n4
noncomputable def see_n6 : Code := cR see_n4
noncomputable def see_n7 : Code := cL see_n6
noncomputable def see_n8 : Code := cR see_n6
noncomputable def see_n9 : Code := cL see_n7
noncomputable def see_n10 : Code := cR see_n7
noncomputable def see_n11 : Code := cL see_n10
noncomputable def see_n12 : Code := cL see_n11
noncomputable def see_n13 : Code := cL see_n12
noncomputable def see_n14 : Code := cR see_n12
noncomputable def see_n15 : Code := cL see_n13
noncomputable def see_n16 : Code := cR see_n13
noncomputable def see_n17 : Code := cL see_n16
noncomputable def see_n18 : Code := cR see_n16
noncomputable def see_n19 : Code := cL see_n14
noncomputable def see_n20 : Code := cR see_n14
noncomputable def see_n21 : Code := cL see_n19
noncomputable def see_n22 : Code := cL see_n21
noncomputable def see_n23 : Code := cR see_n21
noncomputable def see_n24 : Code := cL see_n23
noncomputable def see_n25 : Code := cR see_n23
noncomputable def see_n26 : Code := cL see_n25
noncomputable def see_n27 : Code := cR see_n25
noncomputable def see_n28 : Code := cL see_n26
noncomputable def see_n29 : Code := cR see_n26
noncomputable def see_n30 : Code := cL see_n29
noncomputable def see_n31 : Code := cR see_n29
noncomputable def see_n32 : Code := cL see_n27
noncomputable def see_n33 : Code := cR see_n27
noncomputable def see_n34 : Code := cL see_n33
noncomputable def see_n35 : Code := cR see_n33
noncomputable def see_n36 : Code := cL see_n35
noncomputable def see_n37 : Code := cL see_n36
noncomputable def see_n38 : Code := cL see_n37
noncomputable def see_n39 : Code := cR see_n37
noncomputable def see_n40 : Code := cL see_n39
noncomputable def see_n41 : Code := cR see_n39
noncomputable def see_n42 : Code := cL see_n40
noncomputable def see_n43 : Code := cR see_n40
noncomputable def see_n44 : Code := cL see_n41
noncomputable def see_n45 : Code := cR see_n41
noncomputable def see_n46 : Code := cL see_n44
noncomputable def see_n47 : Code := cL see_n46
noncomputable def see_n48 : Code := cR see_n46
noncomputable def see_n49 : Code := cL see_n48
noncomputable def see_n50 : Code := cR see_n48
noncomputable def see_n51 : Code := cL see_n50
noncomputable def see_n52 : Code := cR see_n50
noncomputable def see_n53 : Code := cL see_n52
noncomputable def see_n54 : Code := cR see_n52
noncomputable def see_n55 : Code := cL see_n53
noncomputable def see_n56 : Code := cR see_n53
noncomputable def see_n57 : Code := cL see_n56
noncomputable def see_n58 : Code := cR see_n56
noncomputable def see_n59 : Code := cL see_n57
noncomputable def see_n60 : Code := cR see_n57
noncomputable def see_n61 : Code := cL see_n60
noncomputable def see_n62 : Code := cR see_n60
noncomputable def see_n63 : Code := cL see_n8
noncomputable def see_n64 : Code := cR see_n8
set_option maxHeartbeats 4000000 in
set_option maxRecDepth 10000 in
theorem see_t {w : World} {M : Hp} {X : Fr} (d : Dg) {gsh : Nat} {cA iA oA : Option Addr} {cc ic oc : Nat} (st : Nat) (hsb : BxM (M.un X.h) gsh 93 [.slice cA d.crs.length cc, .int .i64 d.loops, .slice iA (tabL d false (4 * d.crs.length)).length ic, .slice oA (tabL d true (4 * d.crs.length)).length oc]) (hsc : RdA cdCr (M.un X.h) cA cc d.crs) (hsi : RdA cdPl (M.un X.h) iA ic (tabL d false (4 * d.crs.length))) (hso : RdA cdPl (M.un X.h) oA oc (tabL d true (4 * d.crs.length))) (hn : d.crs.length ≤ 16) (hab : arcsB d = true) (hst : st < d.crs.length) (S : SH w M X []) : Ct Try.prog 62 [.pointer (some ⟨gsh, 0, none⟩), .int .i64 (st : Int)] w M X (CodeT (cfE d st)) := by
 unfold Ct
 refine calls_in (b := see_n0) Try.func62 rfl Try.ntmps62 rfl (fun C hC => ?_)
 refine ws_sub [(0, _), (1, _)] ⟨rfl, rfl, trivial⟩ ?_
 refine ws_seqN see_n1 see_n2 rfl rfl rfl ?_
 refine ws_region rfl ?_
 refine wlo 0 1 rfl rfl rfl (wo_alloc (l := [_, _]) rfl rfl rfl zr108 rfl S ?_)
 intro gb1 w1 S1; clear S
 refine wl_end rfl ?_
 refine nm_thn ?_
 refine ws_seqN see_n3 see_n4 rfl rfl rfl ?_
 refine ws_region rfl ?_
 refine wlo 0 1 rfl rfl rfl (wo_makeMap Int Int (Value.int .i64) (Value.int .i64) rfl rfl rfl S1 ?_)
 intro gm1 w2 S2; clear S1
 refine wlm 1 2 rfl rfl rfl rfl rfl rfl rfl ?_
 refine wlo 2 3 rfl rfl rfl (wo_mapUpdate (kc := Value.int .i64) (vc := Value.int .i64) (es := ([])) (k := (st : Int)) (e := 0) (i := 0) (H' := [_, _]) (.inr rfl) rfl S2 rfl rfl rfl rfl Try.underlying114 mk3 rfl ?_)
 intro w3 S3; clear S2
 refine wlm 3 4 rfl rfl rfl rfl rfl rfl rfl ?_
 refine wla 4 5 rfl rfl rfl rfl rfl rfl rfl ?_
 refine wl_end rfl ?_
 refine nm_sub [(0, _), (1, _), (4, _), (5, _)] ⟨rfl, rfl, rfl, rfl, trivial⟩ ?_
 refine nm_thn ?_
 refine ws_seqN see_n5 see_n6 rfl rfl rfl ?_
 refine ws_region rfl ?_
 refine wlm 0 1 rfl rfl rfl rfl rfl rfl rfl ?_
 refine wlo 1 2 rfl rfl rfl (wo_buildSlice1 (C := cdInt) (l := [_]) rfl rfl rfl rfl sl33 rfl rfl rfl rfl S3 ?_)
 intro gb2 w4 S4; clear S3
 refine wlo 2 3 rfl rfl rfl (wo_run rfl rfl (run_build (l := [_, _]) rfl rfl st108 rfl rfl) ?_)
 refine wlo 3 4 rfl rfl rfl (wo_alloc (l := [_, _]) rfl rfl rfl zr108 rfl S4 ?_)
 intro gb3 w5 S5; clear S4
 refine wlo 4 5 rfl rfl rfl (wo_storeB (i := 0) (us := [_, _]) (l' := [_, _]) (H' := [_, _, _, _]) rfl rfl S5 rfl rfl rfl rfl sz108 rfl rfl rfl rfl ?_)
 intro w6 S6; clear S5
 refine wl_end rfl ?_
 refine nm_sub [(0, _), (4, _), (5, _), (6, _)] ⟨rfl, rfl, rfl, rfl, trivial⟩ ?_
 refine nm_thn ?_
 refine ws_seqN see_n7 see_n8 rfl rfl rfl ?_
 refine ws_seqN see_n9 see_n10 rfl rfl rfl ?_
 refine ws_region rfl ?_
 refine wla 0 1 rfl rfl rfl rfl rfl rfl rfl ?_
 refine wl_end rfl ?_
 refine nm_thn ?_
 refine ws_blockN see_n11 0 rfl rfl rfl ?_
 have S7 := S6.boxrow (C := cdInt) [(st : Int)] (i := 1) (H' := [_, _, _, _]) rfl rfl (by simp) rfl; clear S6
 obtain ⟨vr1, er1⟩ : ∃ v, v = Value.slice (some ⟨gb2, 0, none⟩) ([(st : Int)]).length ([(st : Int)]).length := ⟨_, rfl⟩
 simp only [List.length_singleton] at er1 S7
 rw [← er1] at S7
 have S8 := S7.nilrow cdInt; clear S7
 refine ws_loopE (fun mx_ ax_ wx_ => ∃ (i : Nat) (sc : Cf) (es : List (Int × Int)) (vro : Value) (vrk : Value) (M1 : Hp), M.le M1 ∧ mx_ = d.crs.length - i ∧ Env 88 [(0, .pointer (some ⟨gsh, 0, none⟩)), (4, .pointer (some ⟨gb1, 0, none⟩)), (5, .map (some gm1)), (6, .pointer (some ⟨gb3, 0, none⟩)), (7, .int .i64 (i : Int))] ax_ ∧ SH wx_ M1 X [Rs.row cdInt vrk sc.co, Rs.box gb3 108 [vro, vrk], Rs.row cdInt vro sc.od, Rs.mp (Value.int .i64) (Value.int .i64) gm1 es, Rs.box gb1 108 [.slice none 0 0, .slice none 0 0]] ∧ i ≤ sc.od.length ∧ sc = cfN d st i ∧ MpN d.crs.length es sc.nu ∧ CfI d st sc ∧ sc.co.length ≤ 9 * i) rfl ?_ ?_
 ·intro ax_ hax_
  refine ⟨_, ⟨0, (cf0 d st), (mp (st : Int) 0 []), _, _, _, Hp.le_refl _, rfl, hax_.sub ⟨rfl, rfl, rfl, rfl, rfl, trivial⟩, S8.pick [0, 1, 2, 3, 4] [_, _, _, _, _] (by decide) ⟨rfl, rfl, rfl, rfl, rfl, trivial⟩, ?hq1f0, ?hq1f1, ?hq1f2, ?hq1f3, ?hq1f4⟩⟩
  case hq1f0 => (show 0 ≤ 1; omega)
  case hq1f1 => rfl
  case hq1f2 => exact MpN.start d hst
  case hq1f3 => exact cf0_ok hst
  case hq1f4 => exact Nat.le_refl _
 ·rintro m2 a1 w7 ⟨i, sc, es, vro, vrk, M1, hle1, rfl, he1, S9, hi, hsn, hes, hci, hcol⟩
  clear S8
  refine ws_in he1 (c := see_n12) rfl ?_
  clear he1 a1
  replace hsb := hsb.mono (Hp.un_mono hle1 S9.mx)
  replace hsc := hsc.mono (Hp.un_mono hle1 S9.mx)
  replace hsi := hsi.mono (Hp.un_mono hle1 S9.mx)
  replace hso := hso.mono (Hp.un_mono hle1 S9.mx)
  have hqle := hci.le
  have hod := fun h => hci.od i h
  refine ws_seqN see_n13 see_n14 rfl rfl rfl ?_
  refine ws_seqN see_n15 see_n16 rfl rfl rfl ?_
  refine ws_region rfl ?_
  refine wlm 0 1 rfl rfl rfl rfl rfl rfl rfl ?_
  refine wlo 1 2 rfl rfl rfl (wo_run rfl rfl (run_fieldAddr rfl rfl Try.underlying108 rfl (ce33) (nf33)) ?_)
  refine wlo 2 3 rfl rfl rfl (wo_run rfl rfl (run_load1 rfl rfl Try.underlying33 rfl (S9.boxc (i := 1) rfl rfl)) ?_)
  refine wlo 3 4 rfl rfl rfl (wo_run rfl rfl (run_lenR (C := cdInt) (i := 2) rfl rfl rfl rfl rfl rfl sl33 S9 rfl) ?_)
  refine wlo 4 5 rfl rfl rfl (wo_run rfl rfl (run_lss rfl rfl rfl) ?_)
  refine wl_end rfl ?_
  refine nm_sub [(0, _), (4, _), (5, _), (6, _), (7, _), (24, _)] ⟨rfl, rfl, rfl, rfl, rfl, rfl, trivial⟩ ?_
  refine nm_thn ?_
  refine ws_condN see_n17 see_n18 rfl rfl rfl rfl (fun hb24 => ?_) (fun hb24 => ?_)
  ·replace hb24 := of_decide_eq_true hb24
   refine ws_skip rfl ?_
   refine nm_sub [(0, _), (4, _), (5, _), (6, _), (7, _)] ⟨rfl, rfl, rfl, rfl, rfl, trivial⟩ ?_
   refine nm_thn ?_
   refine ws_seqN see_n19 see_n20 rfl rfl rfl ?_
   refine ws_blockN see_n21 1 rfl rfl rfl ?_
   refine ws_seqN see_n22 see_n23 rfl rfl rfl ?_
   refine ws_region rfl ?_
   refine wlo 0 1 rfl rfl rfl (wo_run rfl rfl (run_fieldAddr rfl rfl Try.underlying108 rfl (ce33) (nf33)) ?_)
   refine wlo 1 2 rfl rfl rfl (wo_run rfl rfl (run_load1 rfl rfl Try.underlying33 rfl (S9.boxc (i := 1) rfl rfl)) ?_)
   refine wlm 2 3 rfl rfl rfl rfl rfl rfl rfl ?_
   refine wlo 3 4 rfl rfl rfl (wo_run rfl rfl (run_indexR (C := cdInt) (i := 2) i rfl rfl rfl sl33 S9 rfl (by first | rfl | omega) (by first | omega | (simp only [lens]; omega))) ?_)
   refine wlo 4 5 rfl rfl rfl (wo_run rfl rfl (run_load1 rfl rfl Try.underlying3 rfl (S9.rowc (i := 2) (e := i) (j := 0) rfl (by first | omega | (simp only [lens]; omega)) rfl rfl)) ?_)
   refine wla 5 6 rfl rfl rfl rfl rfl rfl rfl ?_
   refine wl_end rfl ?_
   refine nm_sub [(0, _), (4, _), (5, _), (6, _), (7, _), (8, _)] ⟨rfl, rfl, rfl, rfl, rfl, rfl, trivial⟩ ?_
   refine nm_thn ?_
   refine ws_seqN see_n24 see_n25 rfl rfl rfl ?_
   obtain ⟨ho1, ho2, ho3⟩ := hod (by omega)
   obtain ⟨c, hcn⟩ : ∃ c : Nat, ga sc.od i = (c : Int) := ⟨(ga sc.od i).toNat, (Int.toNat_of_nonneg ho1).symm⟩
   have hcl : c < d.crs.length := by rw [hcn, Int.toNat_natCast] at ho2; exact ho2
   have hcp : pcI d c = pcI d st := by rw [hcn, Int.toNat_natCast] at ho3; exact hci.pc c hcl (by rw [ho3]; omega)
   rw [hcn, Int.toNat_natCast] at ho3
   clear hod ho2 ho1
   refine ws_eq 8 (.int .i64 (c : Int)) rfl (int_eq hcn) ?_
   refine ws_region rfl ?_
   refine wla 0 1 rfl rfl rfl rfl rfl rfl rfl ?_
   refine wl_end rfl ?_
   refine nm_sub [(0, _), (4, _), (5, _), (6, _), (7, _), (8, _), (9, _)] ⟨rfl, rfl, rfl, rfl, rfl, rfl, rfl, trivial⟩ ?_
   refine nm_thn ?_
   refine ws_seqN see_n26 see_n27 rfl rfl rfl ?_
   refine ws_seqN see_n28 see_n29 rfl rfl rfl ?_
   refine ws_region rfl ?_
   refine wlm 0 1 rfl rfl rfl rfl rfl rfl rfl ?_
   refine wlo 1 2 rfl rfl rfl (wo_run rfl rfl (run_nilCheck rfl rfl) ?_)
   refine wlo 2 3 rfl rfl rfl (wo_run rfl rfl (run_fieldAddr rfl rfl Try.underlying93 rfl (ce24) (nf24)) ?_)
   refine wlo 3 4 rfl rfl rfl (wo_run rfl rfl (run_fieldAddr rfl rfl Try.underlying24 rfl (ce22) (nf22)) ?_)
   refine wlo 4 5 rfl rfl rfl (wo_run rfl rfl (run_load1 rfl rfl Try.underlying22 rfl (hsb.cell S9.um rfl)) ?_)
   refine wlm 5 6 rfl rfl rfl rfl rfl rfl rfl ?_
   refine wlo 6 7 rfl rfl rfl (wo_run rfl rfl (run_indexM (C := cdCr) c rfl rfl rfl sl22 (by first | rfl | omega) hsc (by first | omega | (simp only [lens]; omega))) ?_)
   refine wlo 7 8 rfl rfl rfl (wo_run rfl rfl (run_fieldAddr rfl rfl Try.underlying59 rfl (ce4) (nf4)) ?_)
   refine wlo 8 9 rfl rfl rfl (wo_run rfl rfl (run_load1 rfl rfl Try.underlying4 rfl (hsc.cell S9.um (i := c) (by first | omega | (simp only [lens]; omega)) 4 rfl rfl)) ?_)
   refine wl_end rfl ?_
   refine nm_sub [(0, _), (4, _), (5, _), (6, _), (7, _), (8, _), (9, _), (40, _)] ⟨rfl, rfl, rfl, rfl, rfl, rfl, rfl, rfl, trivial⟩ ?_
   refine nm_thn ?_
   refine ws_condN see_n30 see_n31 rfl rfl rfl rfl (fun hb40 => ?_) (fun hb40 => ?_)
   ·refine ws_region rfl ?_
    refine wla 0 1 rfl rfl rfl rfl rfl rfl rfl ?_
    refine wl_end rfl ?_
    refine nm_sub [(0, _), (4, _), (5, _), (6, _), (7, _), (8, _), (9, _)] ⟨rfl, rfl, rfl, rfl, rfl, rfl, rfl, trivial⟩ ?_
    refine nm_thn ?_
    refine ws_seqN see_n32 see_n33 rfl rfl rfl ?_
    refine ws_eq 9 (.int .i64 (plI (ga d.crs c))) rfl (int_eq (by unfold plI; first | (rw [if_pos (by assumption)]) | (rw [if_neg (by simp [*])]))) ?_
    refine ws_region rfl ?_
    refine wlo 0 1 rfl rfl rfl (wo_run rfl rfl (run_fieldAddr rfl rfl Try.underlying108 rfl (ce33) (nf33)) ?_)
    refine wlo 1 2 rfl rfl rfl (wo_run rfl rfl (run_load1 rfl rfl Try.underlying33 rfl (S9.boxc (i := 1) rfl rfl)) ?_)
    refine wlm 2 3 rfl rfl rfl rfl rfl rfl rfl ?_
    refine wlo 3 4 rfl rfl rfl (wo_buildSlice1 (C := cdInt) (l := [_]) rfl rfl rfl rfl sl33 rfl rfl rfl rfl S9 ?_)
    intro gb4 w8 S10; clear S9
    refine wlo 4 5 rfl rfl rfl (wo_append1 (C := cdInt) (i := 1) (q := 0) (plI (ga d.crs c)) rfl rfl rfl rfl rfl rfl rfl rfl sl33 S10 rfl rfl rfl (by show (_ + 1) * 8 ≤ _; first | omega | (simp only [lens]; omega)) ?_)
    intro vrk1 w9 S11; clear S10
    have S12 := S11.pick [1, 2, 3, 4, 5] [_, _, _, _, _] (by decide) ⟨rfl, rfl, rfl, rfl, rfl, trivial⟩; clear S11
    refine wlo 5 6 rfl rfl rfl (wo_run rfl rfl (run_fieldAddr rfl rfl Try.underlying108 rfl (ce33) (nf33)) ?_)
    refine wlo 6 7 rfl rfl rfl (wo_storeB (i := 1) (us := [_]) (l' := [_, _]) (H' := [_, _, _, _, _]) rfl rfl S12 rfl rfl rfl (S12.cells1 (i := 0) rfl) sz33 rfl (ones_cons (S12.one (i := 0) rfl) rfl) rfl rfl ?_)
    intro w10 S13; clear S12
    refine wl_end rfl ?_
    refine nm_sub [(0, _), (4, _), (5, _), (6, _), (7, _), (8, _)] ⟨rfl, rfl, rfl, rfl, rfl, rfl, trivial⟩ ?_
    refine nm_thn ?_
    refine ws_seqN see_n34 see_n35 rfl rfl rfl ?_
    refine ws_region rfl ?_
    refine wlm 0 1 rfl rfl rfl rfl rfl rfl rfl ?_
    refine wl_end rfl ?_
    refine nm_thn ?_
    refine ws_blockN see_n36 2 rfl rfl rfl ?_
    refine ws_loopE (fun mx_ ax_ wx_ => ∃ (k : Nat) (sk : Cf) (es2 : List (Int × Int)) (vro2 : Value) (vrk2 : Value) (M2 : Hp), M1.le M2 ∧ mx_ = 4 - k ∧ Env 88 [(0, .pointer (some ⟨gsh, 0, none⟩)), (4, .pointer (some ⟨gb1, 0, none⟩)), (5, .map (some gm1)), (6, .pointer (some ⟨gb3, 0, none⟩)), (7, .int .i64 (i : Int)), (8, .int .i64 (c : Int)), (47, .int .i64 (k : Int))] ax_ ∧ SH wx_ M2 X [Rs.row cdInt vrk2 sk.co, Rs.box gb3 108 [vro2, vrk2], Rs.row cdInt vro2 sk.od, Rs.mp (Value.int .i64) (Value.int .i64) gm1 es2, Rs.box gb1 108 [.slice none 0 0, .slice none 0 0]] ∧ k ≤ 4 ∧ sk = cfK d c ⟨sc.nu, sc.od, sc.co ++ [plI (ga d.crs c)]⟩ k ∧ MpN d.crs.length es2 sk.nu ∧ CfI d st sk ∧ CfM (⟨sc.nu, sc.od, sc.co ++ [plI (ga d.crs c)]⟩ : Cf) sk ∧ sk.co.length ≤ 9 * i + 1 + 2 * k) rfl ?_ ?_
    ·intro ax_ hax_
     refine ⟨_, ⟨0, (⟨sc.nu, sc.od, sc.co ++ [plI (ga d.crs c)]⟩ : Cf), es, _, _, _, Hp.le_refl _, rfl, hax_.sub ⟨rfl, rfl, rfl, rfl, rfl, rfl, rfl, trivial⟩, S13.pick [0, 1, 2, 3, 4] [_, _, _, _, _] (by decide) ⟨rfl, rfl, rfl, rfl, rfl, trivial⟩, ?hq2f0, ?hq2f1, ?hq2f2, ?hq2f3, ?hq2f4, ?hq2f5⟩⟩
     case hq2f0 => omega
     case hq2f1 => rfl
     case hq2f2 => exact hes
     case hq2f3 => exact ⟨hci.nl, hci.od, hci.nu, hci.pc, hci.sn, hci.ps⟩
     case hq2f4 => exact CfM.refl _
     case hq2f5 => (rw [List.length_append]; show _ + 1 ≤ _; omega)
    ·rintro m3 a2 w11 ⟨k, sk, es2, vro2, vrk2, M2, hle2, rfl, he2, S14, hk, hsk, hes2, hck, hcm, hckl⟩
     clear S13
     refine ws_in he2 (c := see_n37) rfl ?_
     clear he2 a2
     replace hsb := hsb.mono (Hp.un_mono hle2 S14.mx)
     replace hsc := hsc.mono (Hp.un_mono hle2 S14.mx)
     replace hsi := hsi.mono (Hp.un_mono hle2 S14.mx)
     replace hso := hso.mono (Hp.un_mono hle2 S14.mx)
     have hqle2 := hck.le
     have hnb := fun (h : k < 4) => nbC_lt hab hcl h
     have hes3 := fun h => hes2 (nbC d c k) h
     have hck1 := hck.nl
     refine ws_seqN see_n38 see_n39 rfl rfl rfl ?_
     refine ws_region rfl ?_
     refine wlo 0 1 rfl rfl rfl (wo_run rfl rfl (run_lss rfl rfl rfl) ?_)
     refine wl_end rfl ?_
     refine nm_thn ?_
     refine ws_seqN see_n40 see_n41 rfl rfl rfl ?_
     refine ws_condN see_n42 see_n43 rfl rfl rfl rfl (fun hb48 => ?_) (fun hb48 => ?_)
     ·replace hb48 := of_decide_eq_true hb48
      refine ws_skip rfl ?_
      refine nm_sub [(0, _), (4, _), (5, _), (6, _), (7, _), (8, _), (47, _)] ⟨rfl, rfl, rfl, rfl, rfl, rfl, rfl, trivial⟩ ?_
      refine nm_thn ?_
      refine ws_seqN see_n44 see_n45 rfl rfl rfl ?_
      refine ws_blockN see_n46 3 rfl rfl rfl ?_
      refine ws_seqN see_n47 see_n48 rfl rfl rfl ?_
      refine ws_region rfl ?_
      refine wlm 0 1 rfl rfl rfl rfl rfl rfl rfl ?_
      refine wla 1 2 rfl rfl rfl rfl rfl rfl rfl ?_
      refine wl_end rfl ?_
      refine nm_sub [(0, _), (4, _), (5, _), (6, _), (7, _), (8, _), (47, _), (10, _)] ⟨rfl, rfl, rfl, rfl, rfl, rfl, rfl, rfl, trivial⟩ ?_
      refine nm_thn ?_
      refine ws_seqN see_n49 see_n50 rfl rfl rfl ?_
      refine ws_region rfl ?_
      refine wlm 0 1 rfl rfl rfl rfl rfl rfl rfl ?_
      refine wlm 1 2 rfl rfl rfl rfl rfl rfl rfl ?_
      refine wlm 2 3 rfl rfl rfl rfl rfl rfl rfl ?_
      refine wlo 3 4 rfl rfl rfl (wo_run rfl rfl (run_build (l := [_, _]) rfl rfl st163 rfl rfl) ?_)
      refine wlo 4 5 rfl rfl rfl (wo_cq rfl rfl rfl rfl rfl rfl rfl cf96 S14 (Other_q d c k (hsb.mono S14.un_XH) (hsc.mono S14.un_XH) (hsi.mono S14.un_XH) (hso.mono S14.un_XH) (by first | assumption | omega) hab (by omega) (by omega) S14.lend) ?_)
      rintro _ w12 S15 rfl; clear S14
      refine wl_eq 54 (.agg [.int .i64 (nbC d c k : Int), .int .i64 (nbS d c k : Int)].toArray) rfl rfl ?_
      have hnb9 := hnb (by omega)
      have hes9 := hes3 hnb9
      refine wlo 5 6 rfl rfl rfl (wo_alloc (l := [_, _]) rfl rfl rfl zr163 rfl S15 ?_)
      intro gb5 w13 S16; clear S15
      refine wlo 6 7 rfl rfl rfl (wo_storeB (i := 0) (us := [_, _]) (l' := [_, _]) (H' := [_, _, _, _, _, _]) rfl rfl S16 rfl rfl rfl rfl sz163 rfl rfl rfl rfl ?_)
      intro w14 S17; clear S16
      refine wl_end rfl ?_
      refine nm_sub [(0, _), (4, _), (5, _), (6, _), (7, _), (8, _), (47, _), (11, _)] ⟨rfl, rfl, rfl, rfl, rfl, rfl, rfl, rfl, trivial⟩ ?_
      refine nm_thn ?_
      refine ws_seqN see_n51 see_n52 rfl rfl rfl ?_
      refine ws_region rfl ?_
      refine wlm 0 1 rfl rfl rfl rfl rfl rfl rfl ?_
      refine wlo 1 2 rfl rfl rfl (wo_run rfl rfl (run_fieldAddr rfl rfl Try.underlying163 rfl (ce3) (nf3)) ?_)
      refine wlo 2 3 rfl rfl rfl (wo_run rfl rfl (run_load1 rfl rfl Try.underlying3 rfl (S17.boxc (i := 0) rfl rfl)) ?_)
      refine wlo 3 4 rfl rfl rfl (wo_run rfl rfl (run_lookupOk (kc := Value.int .i64) (vc := Value.int .i64) (es := es2) (k := (nbC d c k : Int)) (zv := 0) (i := 4) rfl rfl rfl Try.underlying114 mk3 zr3 S17 rfl) ?_)
      refine wlm 4 5 rfl rfl rfl rfl rfl rfl rfl ?_
      refine wlo 5 6 rfl rfl rfl (wo_run rfl rfl (run_extract rfl rfl rfl) ?_)
      refine wlo 6 7 rfl rfl rfl (wo_run rfl rfl (run_extract rfl rfl rfl) ?_)
      refine wla 7 8 rfl rfl rfl rfl rfl rfl rfl ?_
      refine wla 8 9 rfl rfl rfl rfl rfl rfl rfl ?_
      refine wl_end rfl ?_
      refine nm_sub [(0, _), (4, _), (5, _), (6, _), (7, _), (8, _), (47, _), (11, _), (12, _), (13, _)] ⟨rfl, rfl, rfl, rfl, rfl, rfl, rfl, rfl, rfl, rfl, trivial⟩ ?_
      refine nm_thn ?_
      refine ws_seqN see_n53 see_n54 rfl rfl rfl ?_
      refine ws_seqN see_n55 see_n56 rfl rfl rfl ?_
      refine ws_region rfl ?_
      refine wlm 0 1 rfl rfl rfl rfl rfl rfl rfl ?_
      refine wlo 1 2 rfl rfl rfl (wo_run rfl rfl (run_not rfl rfl) ?_)
      refine wl_end rfl ?_
      refine nm_sub [(0, _), (4, _), (5, _), (6, _), (7, _), (8, _), (47, _), (11, _), (12, _), (63, _)] ⟨rfl, rfl, rfl, rfl, rfl, rfl, rfl, rfl, rfl, rfl, trivial⟩ ?_
      refine nm_thn ?_
      refine ws_condN see_n57 see_n58 rfl rfl rfl rfl (fun hb63 => ?_) (fun hb63 => ?_)
      ·simp only [Bool.and_eq_true, Bool.or_eq_true, Bool.and_eq_false_iff, Bool.or_eq_false_iff, decide_eq_true_eq, decide_eq_false_iff_not, Bool.not_eq_true', Bool.not_eq_false'] at hb63
       have hS : ga sk.nu (nbC d c k) < 0 := by (rcases Int.lt_or_le (ga sk.nu (nbC d c k)) 0 with h9 | h9; exact h9; rw [if_neg (by omega)] at hes9; rw [hes9] at hb63; simp at hb63)
       replace hS : cfS d c sk k = ⟨sk.nu.set (nbC d c k) (sk.od.length : Int), sk.od ++ [(nbC d c k : Int)], sk.co ++ [(sk.od.length : Int), (nbS d c k : Int)]⟩ := by unfold cfS; rw [if_pos hS]
       refine ws_seqN see_n59 see_n60 rfl rfl rfl ?_
       refine ws_region rfl ?_
       refine wlo 0 1 rfl rfl rfl (wo_run rfl rfl (run_fieldAddr rfl rfl Try.underlying108 rfl (ce33) (nf33)) ?_)
       refine wlo 1 2 rfl rfl rfl (wo_run rfl rfl (run_load1 rfl rfl Try.underlying33 rfl (S17.boxc (i := 2) rfl rfl)) ?_)
       refine wlo 2 3 rfl rfl rfl (wo_run rfl rfl (run_lenR (C := cdInt) (i := 3) rfl rfl rfl rfl rfl rfl sl33 S17 rfl) ?_)
       refine wla 3 4 rfl rfl rfl rfl rfl rfl rfl ?_
       refine wl_end rfl ?_
       refine nm_sub [(0, _), (4, _), (5, _), (6, _), (7, _), (8, _), (47, _), (11, _), (12, _)] ⟨rfl, rfl, rfl, rfl, rfl, rfl, rfl, rfl, rfl, trivial⟩ ?_
       refine nm_thn ?_
       refine ws_seqN see_n61 see_n62 rfl rfl rfl ?_
       refine ws_region rfl ?_
       refine wlm 0 1 rfl rfl rfl rfl rfl rfl rfl ?_
       refine wlo 1 2 rfl rfl rfl (wo_run rfl rfl (run_fieldAddr rfl rfl Try.underlying163 rfl (ce3) (nf3)) ?_)
       refine wlo 2 3 rfl rfl rfl (wo_run rfl rfl (run_load1 rfl rfl Try.underlying3 rfl (S17.boxc (i := 0) rfl rfl)) ?_)
       refine wlm 3 4 rfl rfl rfl rfl rfl rfl rfl ?_
       refine wlo 4 5 rfl rfl rfl (wo_mapUpdate (kc := Value.int .i64) (vc := Value.int .i64) (es := es2) (k := (nbC d c k : Int)) (e := (sk.od.length : Int)) (i := 4) (H' := [_, _, _, _, _, _]) (.inl rfl) rfl S17 rfl rfl rfl rfl Try.underlying114 mk3 rfl ?_)
       intro w15 S18; clear S17
       refine wl_end rfl ?_
       refine nm_sub [(0, _), (4, _), (5, _), (6, _), (7, _), (8, _), (47, _), (11, _), (12, _)] ⟨rfl, rfl, rfl, rfl, rfl, rfl, rfl, rfl, rfl, trivial⟩ ?_
       refine nm_thn ?_
       refine ws_region rfl ?_
       refine wlo 0 1 rfl rfl rfl (wo_run rfl rfl (run_fieldAddr rfl rfl Try.underlying108 rfl (ce33) (nf33)) ?_)
       refine wlo 1 2 rfl rfl rfl (wo_run rfl rfl (run_load1 rfl rfl Try.underlying33 rfl (S18.boxc (i := 2) rfl rfl)) ?_)
       refine wlo 2 3 rfl rfl rfl (wo_run rfl rfl (run_fieldAddr rfl rfl Try.underlying163 rfl (ce3) (nf3)) ?_)
       refine wlo 3 4 rfl rfl rfl (wo_run rfl rfl (run_load1 rfl rfl Try.underlying3 rfl (S18.boxc (i := 0) rfl rfl)) ?_)
       refine wlo 4 5 rfl rfl rfl (wo_buildSlice1 (C := cdInt) (l := [_]) rfl rfl rfl rfl sl33 rfl rfl rfl rfl S18 ?_)
       intro gb6 w16 S19; clear S18
       refine wlo 5 6 rfl rfl rfl (wo_append1 (C := cdInt) (i := 4) (q := 0) (nbC d c k : Int) rfl rfl rfl rfl rfl rfl rfl rfl sl33 S19 rfl rfl rfl (by show (_ + 1) * 8 ≤ _; first | omega | (simp only [lens]; omega)) ?_)
       intro vro1 w17 S20; clear S19
       have S21 := S20.pick [1, 2, 3, 4, 5, 6] [_, _, _, _, _, _] (by decide) ⟨rfl, rfl, rfl, rfl, rfl, rfl, trivial⟩; clear S20
       refine wlo 6 7 rfl rfl rfl (wo_run rfl rfl (run_fieldAddr rfl rfl Try.underlying108 rfl (ce33) (nf33)) ?_)
       refine wlo 7 8 rfl rfl rfl (wo_storeB (i := 2) (us := [_]) (l' := [_, _]) (H' := [_, _, _, _, _, _]) rfl rfl S21 rfl rfl rfl (S21.cells1 (i := 3) rfl) sz33 rfl (ones_cons (S21.one (i := 3) rfl) rfl) rfl rfl ?_)
       intro w18 S22; clear S21
       refine wl_end rfl ?_
       refine nm_sub [(0, _), (4, _), (5, _), (6, _), (7, _), (8, _), (47, _), (11, _), (12, _)] ⟨rfl, rfl, rfl, rfl, rfl, rfl, rfl, rfl, rfl, trivial⟩ ?_
       refine nm_thn ?_
       refine ws_region rfl ?_
       refine wlo 0 1 rfl rfl rfl (wo_run rfl rfl (run_fieldAddr rfl rfl Try.underlying108 rfl (ce33) (nf33)) ?_)
       refine wlo 1 2 rfl rfl rfl (wo_run rfl rfl (run_load1 rfl rfl Try.underlying33 rfl (S22.boxc (i := 2) rfl rfl)) ?_)
       refine wlm 2 3 rfl rfl rfl rfl rfl rfl rfl ?_
       refine wlo 3 4 rfl rfl rfl (wo_run rfl rfl (run_fieldAddr rfl rfl Try.underlying163 rfl (ce3) (nf3)) ?_)
       refine wlo 4 5 rfl rfl rfl (wo_run rfl rfl (run_load1 rfl rfl Try.underlying3 rfl (S22.boxc (i := 0) rfl rfl)) ?_)
       refine wlo 5 6 rfl rfl rfl (wo_buildSliceN (C := cdInt) (l := [_, _]) (pl := [(0, 1), (1, 1)]) rfl rfl rfl rfl sl33 rfl rfl rfl rfl rfl S22 ?_)
       intro gb7 w20 S24; clear S22
       have S26 := S24.boxrow (C := cdInt) [(sk.od.length : Int), (nbS d c k : Int)] (i := 0) (H' := [_, _, _, _, _, _, _]) rfl rfl (by simp) rfl; clear S24
       obtain ⟨M3, hle3, S25, ⟨_, _, eE, hr1⟩⟩ := S26.pubrow (i := 0) (H' := [_, _, _, _, _, _, _]) rfl rfl (by show 2 * _ ≤ _; decide); clear S26; injection eE with eE1 _ eE2; subst eE1; subst eE2
       replace hsb := hsb.mono (Hp.un_mono hle3 S25.mx)
       replace hsc := hsc.mono (Hp.un_mono hle3 S25.mx)
       replace hsi := hsi.mono (Hp.un_mono hle3 S25.mx)
       replace hso := hso.mono (Hp.un_mono hle3 S25.mx)
       refine wlo 6 7 rfl rfl rfl (wo_appendM (C := cdInt) (i := 2) rfl rfl rfl rfl rfl rfl rfl rfl sl33 S25 rfl hr1 S25.m (by show (_ + _) * 8 ≤ _; first | omega | (simp only [lens]; omega)) ?_)
       intro vrk2 w21 S27; clear S25
       change SH _ _ _ [_, _, Rs.row cdInt vrk2 (sk.co ++ ([(sk.od.length : Int), (nbS d c k : Int)])), _, _, _, _] at S27
       refine wlo 7 8 rfl rfl rfl (wo_run rfl rfl (run_fieldAddr rfl rfl Try.underlying108 rfl (ce33) (nf33)) ?_)
       refine wlo 8 9 rfl rfl rfl (wo_storeB (i := 3) (us := [_]) (l' := [_, _]) (H' := [_, _, _, _, _, _, _]) rfl rfl S27 rfl rfl rfl (S27.cells1 (i := 2) rfl) sz33 rfl (ones_cons (S27.one (i := 2) rfl) rfl) rfl rfl ?_)
       intro w22 S28; clear S27
       refine wl_end rfl ?_
       refine nm_blk ?_
       refine nm_sub [(0, _), (4, _), (5, _), (6, _), (7, _), (8, _), (47, _)] ⟨rfl, rfl, rfl, rfl, rfl, rfl, rfl, trivial⟩ ?_
       refine nm_thn ?_
       have hrc1 : sk.od ++ [(nbC d c k : Int)] = (cfS d c sk k).od := by rw [hS]
       rw [hrc1] at S28; clear hrc1
       have hrc2 : sk.co ++ ([(sk.od.length : Int), (nbS d c k : Int)]) = (cfS d c sk k).co := by rw [hS]
       rw [hrc2] at S28; clear hrc2
       refine ws_region rfl ?_
       refine wlo 0 1 rfl rfl rfl (wo_run rfl rfl (run_add rfl rfl rfl (by first | omega | (simp only [lens]; omega))) ?_)
       refine wlm 1 2 rfl rfl rfl rfl rfl rfl rfl ?_
       refine wl_end rfl ?_
       refine nm_lp ?_
       intro ax_ hax_
       refine ⟨_, ?hq3m, ⟨k + 1, (cfS d c sk k), mp (nbC d c k : Int) (sk.od.length : Int) es2, _, _, _, (hle2.trans hle3), rfl, hax_.sub ⟨rfl, rfl, rfl, rfl, rfl, rfl, rfl, trivial⟩, S28.pick [2, 3, 4, 5, 6] [_, _, _, _, _] (by decide) ⟨rfl, rfl, rfl, rfl, rfl, trivial⟩, ?hq3f0, ?hq3f1, ?hq3f2, ?hq3f3, ?hq3f4, ?hq3f5⟩⟩
       case hq3f0 => omega
       case hq3f1 => (rw [hsk]; rfl)
       case hq3f2 => (rw [hS]; first | exact hes2.put hck1 hnb9 (by omega) | exact hes2)
       case hq3f3 => exact (cfS_ok hab hck hcl hcp (by omega)).1
       case hq3f4 => exact hcm.trans (cfS_ok hab hck hcl hcp (by omega)).2.1
       case hq3f5 => (rw [(cfS_ok hab hck hcl hcp (by omega)).2.2.2]; omega)
       case hq3m => omega
      ·simp only [Bool.and_eq_true, Bool.or_eq_true, Bool.and_eq_false_iff, Bool.or_eq_false_iff, decide_eq_true_eq, decide_eq_false_iff_not, Bool.not_eq_true', Bool.not_eq_false'] at hb63
       have hS : ¬ ga sk.nu (nbC d c k) < 0 := by intro h9; rw [if_pos h9] at hes9; rw [hes9] at hb63; simp at hb63
       rw [if_neg hS] at hes9
       have hnu := hck.nu _ hnb9
       replace hS : cfS d c sk k = ⟨sk.nu, sk.od, sk.co ++ [ga sk.nu (nbC d c k), (nbS d c k : Int)]⟩ := by unfold cfS; rw [if_neg hS]
       refine ws_skip rfl ?_
       refine nm_sub [(0, _), (4, _), (5, _), (6, _), (7, _), (8, _), (47, _), (11, _), (12, _)] ⟨rfl, rfl, rfl, rfl, rfl, rfl, rfl, rfl, rfl, trivial⟩ ?_
       refine nm_thn ?_
       refine ws_eq 12 (.int .i64 (ga sk.nu (nbC d c k))) rfl (int_eq (by rw [hes9]; rfl)) ?_
       refine ws_region rfl ?_
       refine wlo 0 1 rfl rfl rfl (wo_run rfl rfl (run_fieldAddr rfl rfl Try.underlying108 rfl (ce33) (nf33)) ?_)
       refine wlo 1 2 rfl rfl rfl (wo_run rfl rfl (run_load1 rfl rfl Try.underlying33 rfl (S17.boxc (i := 2) rfl rfl)) ?_)
       refine wlm 2 3 rfl rfl rfl rfl rfl rfl rfl ?_
       refine wlo 3 4 rfl rfl rfl (wo_run rfl rfl (run_fieldAddr rfl rfl Try.underlying163 rfl (ce3) (nf3)) ?_)
       refine wlo 4 5 rfl rfl rfl (wo_run rfl rfl (run_load1 rfl rfl Try.underlying3 rfl (S17.boxc (i := 0) rfl rfl)) ?_)
       refine wlo 5 6 rfl rfl rfl (wo_buildSliceN (C := cdInt) (l := [_, _]) (pl := [(0, 1), (1, 1)]) rfl rfl rfl rfl sl33 rfl rfl rfl rfl rfl S17 ?_)
       intro gb8 w24 S30; clear S17
       have S32 := S30.boxrow (C := cdInt) [ga sk.nu (nbC d c k), (nbS d c k : Int)] (i := 0) (H' := [_, _, _, _, _, _, _]) rfl rfl (by simp) rfl; clear S30
       obtain ⟨M4, hle4, S31, ⟨_, _, eE, hr2⟩⟩ := S32.pubrow (i := 0) (H' := [_, _, _, _, _, _, _]) rfl rfl (by show 2 * _ ≤ _; decide); clear S32; injection eE with eE1 _ eE2; subst eE1; subst eE2
       replace hsb := hsb.mono (Hp.un_mono hle4 S31.mx)
       replace hsc := hsc.mono (Hp.un_mono hle4 S31.mx)
       replace hsi := hsi.mono (Hp.un_mono hle4 S31.mx)
       replace hso := hso.mono (Hp.un_mono hle4 S31.mx)
       refine wlo 6 7 rfl rfl rfl (wo_appendM (C := cdInt) (i := 2) rfl rfl rfl rfl rfl rfl rfl rfl sl33 S31 rfl hr2 S31.m (by show (_ + _) * 8 ≤ _; first | omega | (simp only [lens]; omega)) ?_)
       intro vrk3 w25 S33; clear S31
       change SH _ _ _ [_, _, Rs.row cdInt vrk3 (sk.co ++ ([ga sk.nu (nbC d c k), (nbS d c k : Int)])), _, _, _, _] at S33
       refine wlo 7 8 rfl rfl rfl (wo_run rfl rfl (run_fieldAddr rfl rfl Try.underlying108 rfl (ce33) (nf33)) ?_)
       refine wlo 8 9 rfl rfl rfl (wo_storeB (i := 3) (us := [_]) (l' := [_, _]) (H' := [_, _, _, _, _, _, _]) rfl rfl S33 rfl rfl rfl (S33.cells1 (i := 2) rfl) sz33 rfl (ones_cons (S33.one (i := 2) rfl) rfl) rfl rfl ?_)
       intro w26 S34; clear S33
       refine wl_end rfl ?_
       refine nm_blk ?_
       refine nm_sub [(0, _), (4, _), (5, _), (6, _), (7, _), (8, _), (47, _)] ⟨rfl, rfl, rfl, rfl, rfl, rfl, rfl, trivial⟩ ?_
       refine nm_thn ?_
       have hrc3 : sk.od = (cfS d c sk k).od := by rw [hS]
       rw [hrc3] at S34; clear hrc3
       have hrc4 : sk.co ++ ([ga sk.nu (nbC d c k), (nbS d c k : Int)]) = (cfS d c sk k).co := by rw [hS]
       rw [hrc4] at S34; clear hrc4
       refine ws_region rfl ?_
       refine wlo 0 1 rfl rfl rfl (wo_run rfl rfl (run_add rfl rfl rfl (by first | omega | (simp only [lens]; omega))) ?_)
       refine wlm 1 2 rfl rfl rfl rfl rfl rfl rfl ?_
       refine wl_end rfl ?_
       refine nm_lp ?_
       intro ax_ hax_
       refine ⟨_, ?hq4m, ⟨k + 1, (cfS d c sk k), es2, _, _, _, (hle2.trans hle4), rfl, hax_.sub ⟨rfl, rfl, rfl, rfl, rfl, rfl, rfl, trivial⟩, S34.pick [2, 3, 4, 5, 6] [_, _, _, _, _] (by decide) ⟨rfl, rfl, rfl, rfl, rfl, trivial⟩, ?hq4f0, ?hq4f1, ?hq4f2, ?hq4f3, ?hq4f4, ?hq4f5⟩⟩
       case hq4f0 => omega
       case hq4f1 => (rw [hsk]; rfl)
       case hq4f2 => (rw [hS]; first | exact hes2.put hck1 hnb9 (by omega) | exact hes2)
       case hq4f3 => exact (cfS_ok hab hck hcl hcp (by omega)).1
       case hq4f4 => exact hcm.trans (cfS_ok hab hck hcl hcp (by omega)).2.1
       case hq4f5 => (rw [(cfS_ok hab hck hcl hcp (by omega)).2.2.2]; omega)
       case hq4m => omega
     ·replace hb48 := of_decide_eq_false hb48
      refine ws_exit rfl rfl ?_
      refine nm_blk ?_
      refine nm_sub [(0, _), (4, _), (5, _), (6, _), (7, _)] ⟨rfl, rfl, rfl, rfl, rfl, trivial⟩ ?_
      refine nm_thn ?_
      refine ws_region rfl ?_
      refine wlm 0 1 rfl rfl rfl rfl rfl rfl rfl ?_
      refine wlo 1 2 rfl rfl rfl (wo_run rfl rfl (run_add rfl rfl rfl (by first | omega | (simp only [lens]; omega))) ?_)
      refine wla 2 3 rfl rfl rfl rfl rfl rfl rfl ?_
      refine wl_end rfl ?_
      refine nm_lp ?_
      intro ax_ hax_
      refine ⟨_, ?hq5m, ⟨i + 1, sk, es2, _, _, _, (hle1.trans hle2), rfl, hax_.sub ⟨rfl, rfl, rfl, rfl, rfl, trivial⟩, S14.pick [0, 1, 2, 3, 4] [_, _, _, _, _] (by decide) ⟨rfl, rfl, rfl, rfl, rfl, trivial⟩, ?hq5f0, ?hq5f1, ?hq5f2, ?hq5f3, ?hq5f4⟩⟩
      case hq5f0 => (have := hcm.len; replace this : sc.od.length ≤ sk.od.length := this; omega)
      case hq5f1 => (obtain rfl : k = 4 := (by omega); rw [cfN, ← hsn, if_pos (by omega)]; unfold cfG; rw [hcn, Int.toNat_natCast, hsk])
      case hq5f2 => exact hes2
      case hq5f3 => exact hck
      case hq5f4 => (have := hckl; omega)
      case hq5m => omega
   ·refine ws_skip rfl ?_
    refine nm_sub [(0, _), (4, _), (5, _), (6, _), (7, _), (8, _), (9, _)] ⟨rfl, rfl, rfl, rfl, rfl, rfl, rfl, trivial⟩ ?_
    refine nm_thn ?_
    refine ws_seqN see_n32 see_n33 rfl rfl rfl ?_
    refine ws_eq 9 (.int .i64 (plI (ga d.crs c))) rfl (int_eq (by unfold plI; first | (rw [if_pos (by assumption)]) | (rw [if_neg (by simp [*])]))) ?_
    refine ws_region rfl ?_
    refine wlo 0 1 rfl rfl rfl (wo_run rfl rfl (run_fieldAddr rfl rfl Try.underlying108 rfl (ce33) (nf33)) ?_)
    refine wlo 1 2 rfl rfl rfl (wo_run rfl rfl (run_load1 rfl rfl Try.underlying33 rfl (S9.boxc (i := 1) rfl rfl)) ?_)
    refine wlm 2 3 rfl rfl rfl rfl rfl rfl rfl ?_
    refine wlo 3 4 rfl rfl rfl (wo_buildSlice1 (C := cdInt) (l := [_]) rfl rfl rfl rfl sl33 rfl rfl rfl rfl S9 ?_)
    intro gb9 w27 S35; clear S9
    refine wlo 4 5 rfl rfl rfl (wo_append1 (C := cdInt) (i := 1) (q := 0) (plI (ga d.crs c)) rfl rfl rfl rfl rfl rfl rfl rfl sl33 S35 rfl rfl rfl (by show (_ + 1) * 8 ≤ _; first | omega | (simp only [lens]; omega)) ?_)
    intro vrk4 w28 S36; clear S35
    have S37 := S36.pick [1, 2, 3, 4, 5] [_, _, _, _, _] (by decide) ⟨rfl, rfl, rfl, rfl, rfl, trivial⟩; clear S36
    refine wlo 5 6 rfl rfl rfl (wo_run rfl rfl (run_fieldAddr rfl rfl Try.underlying108 rfl (ce33) (nf33)) ?_)
    refine wlo 6 7 rfl rfl rfl (wo_storeB (i := 1) (us := [_]) (l' := [_, _]) (H' := [_, _, _, _, _]) rfl rfl S37 rfl rfl rfl (S37.cells1 (i := 0) rfl) sz33 rfl (ones_cons (S37.one (i := 0) rfl) rfl) rfl rfl ?_)
    intro w29 S38; clear S37
    refine wl_end rfl ?_
    refine nm_sub [(0, _), (4, _), (5, _), (6, _), (7, _), (8, _)] ⟨rfl, rfl, rfl, rfl, rfl, rfl, trivial⟩ ?_
    refine nm_thn ?_
    refine ws_seqN see_n34 see_n35 rfl rfl rfl ?_
    refine ws_region rfl ?_
    refine wlm 0 1 rfl rfl rfl rfl rfl rfl rfl ?_
    refine wl_end rfl ?_
    refine nm_thn ?_
    refine ws_blockN see_n36 2 rfl rfl rfl ?_
    refine ws_loopE (fun mx_ ax_ wx_ => ∃ (k : Nat) (sk : Cf) (es2 : List (Int × Int)) (vro2 : Value) (vrk2 : Value) (M5 : Hp), M1.le M5 ∧ mx_ = 4 - k ∧ Env 88 [(0, .pointer (some ⟨gsh, 0, none⟩)), (4, .pointer (some ⟨gb1, 0, none⟩)), (5, .map (some gm1)), (6, .pointer (some ⟨gb3, 0, none⟩)), (7, .int .i64 (i : Int)), (8, .int .i64 (c : Int)), (47, .int .i64 (k : Int))] ax_ ∧ SH wx_ M5 X [Rs.row cdInt vrk2 sk.co, Rs.box gb3 108 [vro2, vrk2], Rs.row cdInt vro2 sk.od, Rs.mp (Value.int .i64) (Value.int .i64) gm1 es2, Rs.box gb1 108 [.slice none 0 0, .slice none 0 0]] ∧ k ≤ 4 ∧ sk = cfK d c ⟨sc.nu, sc.od, sc.co ++ [plI (ga d.crs c)]⟩ k ∧ MpN d.crs.length es2 sk.nu ∧ CfI d st sk ∧ CfM (⟨sc.nu, sc.od, sc.co ++ [plI (ga d.crs c)]⟩ : Cf) sk ∧ sk.co.length ≤ 9 * i + 1 + 2 * k) rfl ?_ ?_
    ·intro ax_ hax_
     refine ⟨_, ⟨0, (⟨sc.nu, sc.od, sc.co ++ [plI (ga d.crs c)]⟩ : Cf), es, _, _, _, Hp.le_refl _, rfl, hax_.sub ⟨rfl, rfl, rfl, rfl, rfl, rfl, rfl, trivial⟩, S38.pick [0, 1, 2, 3, 4] [_, _, _, _, _] (by decide) ⟨rfl, rfl, rfl, rfl, rfl, trivial⟩, ?hq6f0, ?hq6f1, ?hq6f2, ?hq6f3, ?hq6f4, ?hq6f5⟩⟩
     case hq6f0 => omega
     case hq6f1 => rfl
     case hq6f2 => exact hes
     case hq6f3 => exact ⟨hci.nl, hci.od, hci.nu, hci.pc, hci.sn, hci.ps⟩
     case hq6f4 => exact CfM.refl _
     case hq6f5 => (rw [List.length_append]; show _ + 1 ≤ _; omega)
    ·rintro m4 a3 w30 ⟨k, sk, es2, vro2, vrk2, M5, hle5, rfl, he3, S39, hk, hsk, hes2, hck, hcm, hckl⟩
     clear S38
     refine ws_in he3 (c := see_n37) rfl ?_
     clear he3 a3
     replace hsb := hsb.mono (Hp.un_mono hle5 S39.mx)
     replace hsc := hsc.mono (Hp.un_mono hle5 S39.mx)
     replace hsi := hsi.mono (Hp.un_mono hle5 S39.mx)
     replace hso := hso.mono (Hp.un_mono hle5 S39.mx)
     have hqle2 := hck.le
     have hnb := fun (h : k < 4) => nbC_lt hab hcl h
     have hes3 := fun h => hes2 (nbC d c k) h
     have hck1 := hck.nl
     refine ws_seqN see_n38 see_n39 rfl rfl rfl ?_
     refine ws_region rfl ?_
     refine wlo 0 1 rfl rfl rfl (wo_run rfl rfl (run_lss rfl rfl rfl) ?_)
     refine wl_end rfl ?_
     refine nm_thn ?_
     refine ws_seqN see_n40 see_n41 rfl rfl rfl ?_
     refine ws_condN see_n42 see_n43 rfl rfl rfl rfl (fun hb48 => ?_) (fun hb48 => ?_)
     ·replace hb48 := of_decide_eq_true hb48
      refine ws_skip rfl ?_
      refine nm_sub [(0, _), (4, _), (5, _), (6, _), (7, _), (8, _), (47, _)] ⟨rfl, rfl, rfl, rfl, rfl, rfl, rfl, trivial⟩ ?_
      refine nm_thn ?_
      refine ws_seqN see_n44 see_n45 rfl rfl rfl ?_
      refine ws_blockN see_n46 3 rfl rfl rfl ?_
      refine ws_seqN see_n47 see_n48 rfl rfl rfl ?_
      refine ws_region rfl ?_
      refine wlm 0 1 rfl rfl rfl rfl rfl rfl rfl ?_
      refine wla 1 2 rfl rfl rfl rfl rfl rfl rfl ?_
      refine wl_end rfl ?_
      refine nm_sub [(0, _), (4, _), (5, _), (6, _), (7, _), (8, _), (47, _), (10, _)] ⟨rfl, rfl, rfl, rfl, rfl, rfl, rfl, rfl, trivial⟩ ?_
      refine nm_thn ?_
      refine ws_seqN see_n49 see_n50 rfl rfl rfl ?_
      refine ws_region rfl ?_
      refine wlm 0 1 rfl rfl rfl rfl rfl rfl rfl ?_
      refine wlm 1 2 rfl rfl rfl rfl rfl rfl rfl ?_
      refine wlm 2 3 rfl rfl rfl rfl rfl rfl rfl ?_
      refine wlo 3 4 rfl rfl rfl (wo_run rfl rfl (run_build (l := [_, _]) rfl rfl st163 rfl rfl) ?_)
      refine wlo 4 5 rfl rfl rfl (wo_cq rfl rfl rfl rfl rfl rfl rfl cf96 S39 (Other_q d c k (hsb.mono S39.un_XH) (hsc.mono S39.un_XH) (hsi.mono S39.un_XH) (hso.mono S39.un_XH) (by first | assumption | omega) hab (by omega) (by omega) S39.lend) ?_)
      rintro _ w31 S40 rfl; clear S39
      refine wl_eq 54 (.agg [.int .i64 (nbC d c k : Int), .int .i64 (nbS d c k : Int)].toArray) rfl rfl ?_
      have hnb9 := hnb (by omega)
      have hes9 := hes3 hnb9
      refine wlo 5 6 rfl rfl rfl (wo_alloc (l := [_, _]) rfl rfl rfl zr163 rfl S40 ?_)
      intro gb10 w32 S41; clear S40
      refine wlo 6 7 rfl rfl rfl (wo_storeB (i := 0) (us := [_, _]) (l' := [_, _]) (H' := [_, _, _, _, _, _]) rfl rfl S41 rfl rfl rfl rfl sz163 rfl rfl rfl rfl ?_)
      intro w33 S42; clear S41
      refine wl_end rfl ?_
      refine nm_sub [(0, _), (4, _), (5, _), (6, _), (7, _), (8, _), (47, _), (11, _)] ⟨rfl, rfl, rfl, rfl, rfl, rfl, rfl, rfl, trivial⟩ ?_
      refine nm_thn ?_
      refine ws_seqN see_n51 see_n52 rfl rfl rfl ?_
      refine ws_region rfl ?_
      refine wlm 0 1 rfl rfl rfl rfl rfl rfl rfl ?_
      refine wlo 1 2 rfl rfl rfl (wo_run rfl rfl (run_fieldAddr rfl rfl Try.underlying163 rfl (ce3) (nf3)) ?_)
      refine wlo 2 3 rfl rfl rfl (wo_run rfl rfl (run_load1 rfl rfl Try.underlying3 rfl (S42.boxc (i := 0) rfl rfl)) ?_)
      refine wlo 3 4 rfl rfl rfl (wo_run rfl rfl (run_lookupOk (kc := Value.int .i64) (vc := Value.int .i64) (es := es2) (k := (nbC d c k : Int)) (zv := 0) (i := 4) rfl rfl rfl Try.underlying114 mk3 zr3 S42 rfl) ?_)
      refine wlm 4 5 rfl rfl rfl rfl rfl rfl rfl ?_
      refine wlo 5 6 rfl rfl rfl (wo_run rfl rfl (run_extract rfl rfl rfl) ?_)
      refine wlo 6 7 rfl rfl rfl (wo_run rfl rfl (run_extract rfl rfl rfl) ?_)
      refine wla 7 8 rfl rfl rfl rfl rfl rfl rfl ?_
      refine wla 8 9 rfl rfl rfl rfl rfl rfl rfl ?_
      refine wl_end rfl ?_
      refine nm_sub [(0, _), (4, _), (5, _), (6, _), (7, _), (8, _), (47, _), (11, _), (12, _), (13, _)] ⟨rfl, rfl, rfl, rfl, rfl, rfl, rfl, rfl, rfl, rfl, trivial⟩ ?_
      refine nm_thn ?_
      refine ws_seqN see_n53 see_n54 rfl rfl rfl ?_
      refine ws_seqN see_n55 see_n56 rfl rfl rfl ?_
      refine ws_region rfl ?_
      refine wlm 0 1 rfl rfl rfl rfl rfl rfl rfl ?_
      refine wlo 1 2 rfl rfl rfl (wo_run rfl rfl (run_not rfl rfl) ?_)
      refine wl_end rfl ?_
      refine nm_sub [(0, _), (4, _), (5, _), (6, _), (7, _), (8, _), (47, _), (11, _), (12, _), (63, _)] ⟨rfl, rfl, rfl, rfl, rfl, rfl, rfl, rfl, rfl, rfl, trivial⟩ ?_
      refine nm_thn ?_
      refine ws_condN see_n57 see_n58 rfl rfl rfl rfl (fun hb63 => ?_) (fun hb63 => ?_)
      ·simp only [Bool.and_eq_true, Bool.or_eq_true, Bool.and_eq_false_iff, Bool.or_eq_false_iff, decide_eq_true_eq, decide_eq_false_iff_not, Bool.not_eq_true', Bool.not_eq_false'] at hb63
       have hS : ga sk.nu (nbC d c k) < 0 := by (rcases Int.lt_or_le (ga sk.nu (nbC d c k)) 0 with h9 | h9; exact h9; rw [if_neg (by omega)] at hes9; rw [hes9] at hb63; simp at hb63)
       replace hS : cfS d c sk k = ⟨sk.nu.set (nbC d c k) (sk.od.length : Int), sk.od ++ [(nbC d c k : Int)], sk.co ++ [(sk.od.length : Int), (nbS d c k : Int)]⟩ := by unfold cfS; rw [if_pos hS]
       refine ws_seqN see_n59 see_n60 rfl rfl rfl ?_
       refine ws_region rfl ?_
       refine wlo 0 1 rfl rfl rfl (wo_run rfl rfl (run_fieldAddr rfl rfl Try.underlying108 rfl (ce33) (nf33)) ?_)
       refine wlo 1 2 rfl rfl rfl (wo_run rfl rfl (run_load1 rfl rfl Try.underlying33 rfl (S42.boxc (i := 2) rfl rfl)) ?_)
       refine wlo 2 3 rfl rfl rfl (wo_run rfl rfl (run_lenR (C := cdInt) (i := 3) rfl rfl rfl rfl rfl rfl sl33 S42 rfl) ?_)
       refine wla 3 4 rfl rfl rfl rfl rfl rfl rfl ?_
       refine wl_end rfl ?_
       refine nm_sub [(0, _), (4, _), (5, _), (6, _), (7, _), (8, _), (47, _), (11, _), (12, _)] ⟨rfl, rfl, rfl, rfl, rfl, rfl, rfl, rfl, rfl, trivial⟩ ?_
       refine nm_thn ?_
       refine ws_seqN see_n61 see_n62 rfl rfl rfl ?_
       refine ws_region rfl ?_
       refine wlm 0 1 rfl rfl rfl rfl rfl rfl rfl ?_
       refine wlo 1 2 rfl rfl rfl (wo_run rfl rfl (run_fieldAddr rfl rfl Try.underlying163 rfl (ce3) (nf3)) ?_)
       refine wlo 2 3 rfl rfl rfl (wo_run rfl rfl (run_load1 rfl rfl Try.underlying3 rfl (S42.boxc (i := 0) rfl rfl)) ?_)
       refine wlm 3 4 rfl rfl rfl rfl rfl rfl rfl ?_
       refine wlo 4 5 rfl rfl rfl (wo_mapUpdate (kc := Value.int .i64) (vc := Value.int .i64) (es := es2) (k := (nbC d c k : Int)) (e := (sk.od.length : Int)) (i := 4) (H' := [_, _, _, _, _, _]) (.inl rfl) rfl S42 rfl rfl rfl rfl Try.underlying114 mk3 rfl ?_)
       intro w34 S43; clear S42
       refine wl_end rfl ?_
       refine nm_sub [(0, _), (4, _), (5, _), (6, _), (7, _), (8, _), (47, _), (11, _), (12, _)] ⟨rfl, rfl, rfl, rfl, rfl, rfl, rfl, rfl, rfl, trivial⟩ ?_
       refine nm_thn ?_
       refine ws_region rfl ?_
       refine wlo 0 1 rfl rfl rfl (wo_run rfl rfl (run_fieldAddr rfl rfl Try.underlying108 rfl (ce33) (nf33)) ?_)
       refine wlo 1 2 rfl rfl rfl (wo_run rfl rfl (run_load1 rfl rfl Try.underlying33 rfl (S43.boxc (i := 2) rfl rfl)) ?_)
       refine wlo 2 3 rfl rfl rfl (wo_run rfl rfl (run_fieldAddr rfl rfl Try.underlying163 rfl (ce3) (nf3)) ?_)
       refine wlo 3 4 rfl rfl rfl (wo_run rfl rfl (run_load1 rfl rfl Try.underlying3 rfl (S43.boxc (i := 0) rfl rfl)) ?_)
       refine wlo 4 5 rfl rfl rfl (wo_buildSlice1 (C := cdInt) (l := [_]) rfl rfl rfl rfl sl33 rfl rfl rfl rfl S43 ?_)
       intro gb11 w35 S44; clear S43
       refine wlo 5 6 rfl rfl rfl (wo_append1 (C := cdInt) (i := 4) (q := 0) (nbC d c k : Int) rfl rfl rfl rfl rfl rfl rfl rfl sl33 S44 rfl rfl rfl (by show (_ + 1) * 8 ≤ _; first | omega | (simp only [lens]; omega)) ?_)
       intro vro2 w36 S45; clear S44
       have S46 := S45.pick [1, 2, 3, 4, 5, 6] [_, _, _, _, _, _] (by decide) ⟨rfl, rfl, rfl, rfl, rfl, rfl, trivial⟩; clear S45
       refine wlo 6 7 rfl rfl rfl (wo_run rfl rfl (run_fieldAddr rfl rfl Try.underlying108 rfl (ce33) (nf33)) ?_)
       refine wlo 7 8 rfl rfl rfl (wo_storeB (i := 2) (us := [_]) (l' := [_, _]) (H' := [_, _, _, _, _, _]) rfl rfl S46 rfl rfl rfl (S46.cells1 (i := 3) rfl) sz33 rfl (ones_cons (S46.one (i := 3) rfl) rfl) rfl rfl ?_)
       intro w37 S47; clear S46
       refine wl_end rfl ?_
       refine nm_sub [(0, _), (4, _), (5, _), (6, _), (7, _), (8, _), (47, _), (11, _), (12, _)] ⟨rfl, rfl, rfl, rfl, rfl, rfl, rfl, rfl, rfl, trivial⟩ ?_
       refine nm_thn ?_
       refine ws_region rfl ?_
       refine wlo 0 1 rfl rfl rfl (wo_run rfl rfl (run_fieldAddr rfl rfl Try.underlying108 rfl (ce33) (nf33)) ?_)
       refine wlo 1 2 rfl rfl rfl (wo_run rfl rfl (run_load1 rfl rfl Try.underlying33 rfl (S47.boxc (i := 2) rfl rfl)) ?_)
       refine wlm 2 3 rfl rfl rfl rfl rfl rfl rfl ?_
       refine wlo 3 4 rfl rfl rfl (wo_run rfl rfl (run_fieldAddr rfl rfl Try.underlying163 rfl (ce3) (nf3)) ?_)
       refine wlo 4 5 rfl rfl rfl (wo_run rfl rfl (run_load1 rfl rfl Try.underlying3 rfl (S47.boxc (i := 0) rfl rfl)) ?_)
       refine wlo 5 6 rfl rfl rfl (wo_buildSliceN (C := cdInt) (l := [_, _]) (pl := [(0, 1), (1, 1)]) rfl rfl rfl rfl sl33 rfl rfl rfl rfl rfl S47 ?_)
       intro gb12 w39 S49; clear S47
       have S51 := S49.boxrow (C := cdInt) [(sk.od.length : Int), (nbS d c k : Int)] (i := 0) (H' := [_, _, _, _, _, _, _]) rfl rfl (by simp) rfl; clear S49
       obtain ⟨M6, hle6, S50, ⟨_, _, eE, hr3⟩⟩ := S51.pubrow (i := 0) (H' := [_, _, _, _, _, _, _]) rfl rfl (by show 2 * _ ≤ _; decide); clear S51; injection eE with eE1 _ eE2; subst eE1; subst eE2
       replace hsb := hsb.mono (Hp.un_mono hle6 S50.mx)
       replace hsc := hsc.mono (Hp.un_mono hle6 S50.mx)
       replace hsi := hsi.mono (Hp.un_mono hle6 S50.mx)
       replace hso := hso.mono (Hp.un_mono hle6 S50.mx)
       refine wlo 6 7 rfl rfl rfl (wo_appendM (C := cdInt) (i := 2) rfl rfl rfl rfl rfl rfl rfl rfl sl33 S50 rfl hr3 S50.m (by show (_ + _) * 8 ≤ _; first | omega | (simp only [lens]; omega)) ?_)
       intro vrk5 w40 S52; clear S50
       change SH _ _ _ [_, _, Rs.row cdInt vrk5 (sk.co ++ ([(sk.od.length : Int), (nbS d c k : Int)])), _, _, _, _] at S52
       refine wlo 7 8 rfl rfl rfl (wo_run rfl rfl (run_fieldAddr rfl rfl Try.underlying108 rfl (ce33) (nf33)) ?_)
       refine wlo 8 9 rfl rfl rfl (wo_storeB (i := 3) (us := [_]) (l' := [_, _]) (H' := [_, _, _, _, _, _, _]) rfl rfl S52 rfl rfl rfl (S52.cells1 (i := 2) rfl) sz33 rfl (ones_cons (S52.one (i := 2) rfl) rfl) rfl rfl ?_)
       intro w41 S53; clear S52
       refine wl_end rfl ?_
       refine nm_blk ?_
       refine nm_sub [(0, _), (4, _), (5, _), (6, _), (7, _), (8, _), (47, _)] ⟨rfl, rfl, rfl, rfl, rfl, rfl, rfl, trivial⟩ ?_
       refine nm_thn ?_
       have hrc5 : sk.od ++ [(nbC d c k : Int)] = (cfS d c sk k).od := by rw [hS]
       rw [hrc5] at S53; clear hrc5
       have hrc6 : sk.co ++ ([(sk.od.length : Int), (nbS d c k : Int)]) = (cfS d c sk k).co := by rw [hS]
       rw [hrc6] at S53; clear hrc6
       refine ws_region rfl ?_
       refine wlo 0 1 rfl rfl rfl (wo_run rfl rfl (run_add rfl rfl rfl (by first | omega | (simp only [lens]; omega))) ?_)
       refine wlm 1 2 rfl rfl rfl rfl rfl rfl rfl ?_
       refine wl_end rfl ?_
       refine nm_lp ?_
       intro ax_ hax_
       refine ⟨_, ?hq7m, ⟨k + 1, (cfS d c sk k), mp (nbC d c k : Int) (sk.od.length : Int) es2, _, _, _, (hle5.trans hle6), rfl, hax_.sub ⟨rfl, rfl, rfl, rfl, rfl, rfl, rfl, trivial⟩, S53.pick [2, 3, 4, 5, 6] [_, _, _, _, _] (by decide) ⟨rfl, rfl, rfl, rfl, rfl, trivial⟩, ?hq7f0, ?hq7f1, ?hq7f2, ?hq7f3, ?hq7f4, ?hq7f5⟩⟩
       case hq7f0 => omega
       case hq7f1 => (rw [hsk]; rfl)
       case hq7f2 => (rw [hS]; first | exact hes2.put hck1 hnb9 (by omega) | exact hes2)
       case hq7f3 => exact (cfS_ok hab hck hcl hcp (by omega)).1
       case hq7f4 => exact hcm.trans (cfS_ok hab hck hcl hcp (by omega)).2.1
       case hq7f5 => (rw [(cfS_ok hab hck hcl hcp (by omega)).2.2.2]; omega)
       case hq7m => omega
      ·simp only [Bool.and_eq_true, Bool.or_eq_true, Bool.and_eq_false_iff, Bool.or_eq_false_iff, decide_eq_true_eq, decide_eq_false_iff_not, Bool.not_eq_true', Bool.not_eq_false'] at hb63
       have hS : ¬ ga sk.nu (nbC d c k) < 0 := by intro h9; rw [if_pos h9] at hes9; rw [hes9] at hb63; simp at hb63
       rw [if_neg hS] at hes9
       have hnu := hck.nu _ hnb9
       replace hS : cfS d c sk k = ⟨sk.nu, sk.od, sk.co ++ [ga sk.nu (nbC d c k), (nbS d c k : Int)]⟩ := by unfold cfS; rw [if_neg hS]
       refine ws_skip rfl ?_
       refine nm_sub [(0, _), (4, _), (5, _), (6, _), (7, _), (8, _), (47, _), (11, _), (12, _)] ⟨rfl, rfl, rfl, rfl, rfl, rfl, rfl, rfl, rfl, trivial⟩ ?_
       refine nm_thn ?_
       refine ws_eq 12 (.int .i64 (ga sk.nu (nbC d c k))) rfl (int_eq (by rw [hes9]; rfl)) ?_
       refine ws_region rfl ?_
       refine wlo 0 1 rfl rfl rfl (wo_run rfl rfl (run_fieldAddr rfl rfl Try.underlying108 rfl (ce33) (nf33)) ?_)
       refine wlo 1 2 rfl rfl rfl (wo_run rfl rfl (run_load1 rfl rfl Try.underlying33 rfl (S42.boxc (i := 2) rfl rfl)) ?_)
       refine wlm 2 3 rfl rfl rfl rfl rfl rfl rfl ?_
       refine wlo 3 4 rfl rfl rfl (wo_run rfl rfl (run_fieldAddr rfl rfl Try.underlying163 rfl (ce3) (nf3)) ?_)
       refine wlo 4 5 rfl rfl rfl (wo_run rfl rfl (run_load1 rfl rfl Try.underlying3 rfl (S42.boxc (i := 0) rfl rfl)) ?_)
       refine wlo 5 6 rfl rfl rfl (wo_buildSliceN (C := cdInt) (l := [_, _]) (pl := [(0, 1), (1, 1)]) rfl rfl rfl rfl sl33 rfl rfl rfl rfl rfl S42 ?_)
       intro gb13 w43 S55; clear S42
       have S57 := S55.boxrow (C := cdInt) [ga sk.nu (nbC d c k), (nbS d c k : Int)] (i := 0) (H' := [_, _, _, _, _, _, _]) rfl rfl (by simp) rfl; clear S55
       obtain ⟨M7, hle7, S56, ⟨_, _, eE, hr4⟩⟩ := S57.pubrow (i := 0) (H' := [_, _, _, _, _, _, _]) rfl rfl (by show 2 * _ ≤ _; decide); clear S57; injection eE with eE1 _ eE2; subst eE1; subst eE2
       replace hsb := hsb.mono (Hp.un_mono hle7 S56.mx)
       replace hsc := hsc.mono (Hp.un_mono hle7 S56.mx)
       replace hsi := hsi.mono (Hp.un_mono hle7 S56.mx)
       replace hso := hso.mono (Hp.un_mono hle7 S56.mx)
       refine wlo 6 7 rfl rfl rfl (wo_appendM (C := cdInt) (i := 2) rfl rfl rfl rfl rfl rfl rfl rfl sl33 S56 rfl hr4 S56.m (by show (_ + _) * 8 ≤ _; first | omega | (simp only [lens]; omega)) ?_)
       intro vrk6 w44 S58; clear S56
       change SH _ _ _ [_, _, Rs.row cdInt vrk6 (sk.co ++ ([ga sk.nu (nbC d c k), (nbS d c k : Int)])), _, _, _, _] at S58
       refine wlo 7 8 rfl rfl rfl (wo_run rfl rfl (run_fieldAddr rfl rfl Try.underlying108 rfl (ce33) (nf33)) ?_)
       refine wlo 8 9 rfl rfl rfl (wo_storeB (i := 3) (us := [_]) (l' := [_, _]) (H' := [_, _, _, _, _, _, _]) rfl rfl S58 rfl rfl rfl (S58.cells1 (i := 2) rfl) sz33 rfl (ones_cons (S58.one (i := 2) rfl) rfl) rfl rfl ?_)
       intro w45 S59; clear S58
       refine wl_end rfl ?_
       refine nm_blk ?_
       refine nm_sub [(0, _), (4, _), (5, _), (6, _), (7, _), (8, _), (47, _)] ⟨rfl, rfl, rfl, rfl, rfl, rfl, rfl, trivial⟩ ?_
       refine nm_thn ?_
       have hrc7 : sk.od = (cfS d c sk k).od := by rw [hS]
       rw [hrc7] at S59; clear hrc7
       have hrc8 : sk.co ++ ([ga sk.nu (nbC d c k), (nbS d c k : Int)]) = (cfS d c sk k).co := by rw [hS]
       rw [hrc8] at S59; clear hrc8
       refine ws_region rfl ?_
       refine wlo 0 1 rfl rfl rfl (wo_run rfl rfl (run_add rfl rfl rfl (by first | omega | (simp only [lens]; omega))) ?_)
       refine wlm 1 2 rfl rfl rfl rfl rfl rfl rfl ?_
       refine wl_end rfl ?_
       refine nm_lp ?_
       intro ax_ hax_
       refine ⟨_, ?hq8m, ⟨k + 1, (cfS d c sk k), es2, _, _, _, (hle5.trans hle7), rfl, hax_.sub ⟨rfl, rfl, rfl, rfl, rfl, rfl, rfl, trivial⟩, S59.pick [2, 3, 4, 5, 6] [_, _, _, _, _] (by decide) ⟨rfl, rfl, rfl, rfl, rfl, trivial⟩, ?hq8f0, ?hq8f1, ?hq8f2, ?hq8f3, ?hq8f4, ?hq8f5⟩⟩
       case hq8f0 => omega
       case hq8f1 => (rw [hsk]; rfl)
       case hq8f2 => (rw [hS]; first | exact hes2.put hck1 hnb9 (by omega) | exact hes2)
       case hq8f3 => exact (cfS_ok hab hck hcl hcp (by omega)).1
       case hq8f4 => exact hcm.trans (cfS_ok hab hck hcl hcp (by omega)).2.1
       case hq8f5 => (rw [(cfS_ok hab hck hcl hcp (by omega)).2.2.2]; omega)
       case hq8m => omega
     ·replace hb48 := of_decide_eq_false hb48
      refine ws_exit rfl rfl ?_
      refine nm_blk ?_
      refine nm_sub [(0, _), (4, _), (5, _), (6, _), (7, _)] ⟨rfl, rfl, rfl, rfl, rfl, trivial⟩ ?_
      refine nm_thn ?_
      refine ws_region rfl ?_
      refine wlm 0 1 rfl rfl rfl rfl rfl rfl rfl ?_
      refine wlo 1 2 rfl rfl rfl (wo_run rfl rfl (run_add rfl rfl rfl (by first | omega | (simp only [lens]; omega))) ?_)
      refine wla 2 3 rfl rfl rfl rfl rfl rfl rfl ?_
      refine wl_end rfl ?_
      refine nm_lp ?_
      intro ax_ hax_
      refine ⟨_, ?hq9m, ⟨i + 1, sk, es2, _, _, _, (hle1.trans hle5), rfl, hax_.sub ⟨rfl, rfl, rfl, rfl, rfl, trivial⟩, S39.pick [0, 1, 2, 3, 4] [_, _, _, _, _] (by decide) ⟨rfl, rfl, rfl, rfl, rfl, trivial⟩, ?hq9f0, ?hq9f1, ?hq9f2, ?hq9f3, ?hq9f4⟩⟩
      case hq9f0 => (have := hcm.len; replace this : sc.od.length ≤ sk.od.length := this; omega)
      case hq9f1 => (obtain rfl : k = 4 := (by omega); rw [cfN, ← hsn, if_pos (by omega)]; unfold cfG; rw [hcn, Int.toNat_natCast, hsk])
      case hq9f2 => exact hes2
      case hq9f3 => exact hck
      case hq9f4 => (have := hckl; omega)
      case hq9m => omega
  ·replace hb24 := of_decide_eq_false hb24
   refine ws_exit rfl rfl ?_
   refine nm_sub [(4, _), (6, _)] ⟨rfl, rfl, trivial⟩ ?_
   refine nm_thn ?_
   refine ws_seqN see_n63 see_n64 rfl rfl rfl ?_
   refine ws_region rfl ?_
   refine wlo 0 1 rfl rfl rfl (wo_run rfl rfl (run_loadN (us := [_, _]) rfl rfl Try.underlying108 rfl sz108 (S9.boxcs (i := 1) rfl ⟨rfl, rfl, trivial⟩)) ?_)
   refine wlo 1 2 rfl rfl rfl (wo_storeB (i := 4) (us := [_, _]) (l' := [_, _]) (H' := [_, _, _, _, _]) rfl rfl S9 rfl rfl rfl rfl sz108 rfl (ones_cons (S9.one (i := 2) rfl) (ones_cons (S9.one (i := 0) rfl) rfl)) rfl rfl ?_)
   intro w46 S60; clear S9
   refine wl_end rfl ?_
   refine nm_sub [(4, _)] ⟨rfl, trivial⟩ ?_
   refine nm_thn ?_
   obtain ⟨M8, hle8, S61, ⟨A1, c1, e1, hr5⟩⟩ := S60.pubrow (i := 2) (H' := [_, _, _, _, _]) rfl rfl (by show _ * 8 ≤ _; first | omega | (simp only [lens]; omega))
   clear S60; subst e1
   replace hsb := hsb.mono (Hp.un_mono hle8 S61.mx)
   replace hsc := hsc.mono (Hp.un_mono hle8 S61.mx)
   replace hsi := hsi.mono (Hp.un_mono hle8 S61.mx)
   replace hso := hso.mono (Hp.un_mono hle8 S61.mx)
   obtain ⟨M9, hle9, S62, ⟨A2, c2, e2, hr6⟩⟩ := S61.pubrow (i := 0) (H' := [_, _, _, _, _]) rfl rfl (by show _ * 8 ≤ _; first | omega | (simp only [lens]; omega))
   clear S61; subst e2
   replace hsb := hsb.mono (Hp.un_mono hle9 S62.mx)
   replace hsc := hsc.mono (Hp.un_mono hle9 S62.mx)
   replace hsi := hsi.mono (Hp.un_mono hle9 S62.mx)
   replace hso := hso.mono (Hp.un_mono hle9 S62.mx)
   replace hr5 := hr5.mono hle9
   refine ws_ret hC [_] rfl rfl ⟨⟨_, rfl, loadVarN (us := [_, _]) Try.underlying108 rfl sz108 (S62.boxcs (i := 4) rfl ⟨rfl, rfl, trivial⟩)⟩, trivial⟩ ?_
   refine ⟨_, rfl, _, (hle1.trans hle8).trans hle9, (S62.pick [] [] (by decide) trivial), ?_⟩
   have e9 : cfE d st = sc := by unfold cfE; rw [hsn]; rw [hsn] at hqle; exact cfN_end (by rw [← hsn]; omega) _ (by rw [hsn] at hi; omega)
   rw [e9]
   exact ⟨_, _, _, _, rfl, hr5, hr6⟩
noncomputable def otherEnd_n0 : Code := Try.f69.body.getD .skip
noncomputable def otherEnd_n1 : Code := cL otherEnd_n0
noncomputable def otherEnd_n2 : Code := cR otherEnd_n0
noncomputable def otherEnd_n3 : Code := cL otherEnd_n2
noncomputable def otherEnd_n4 : Code := cR otherEnd_n2
set_option maxRecDepth 10000 in
theorem otherEnd_q {w : World} {M : Hp} {X : Fr} (d : Dg) {dcrsA : Option Addr} {dcrsc : Nat} (c k : Nat) (hdcrs : RdA cdCr (M.un X.h) dcrsA dcrsc d.crs) (hab : arcsB d = true) (hc : c < d.crs.length) (hk : k < 4) (S : SH w M X []) : Cq Try.prog 69 [.agg [.slice dcrsA d.crs.length dcrsc, .int .i64 d.loops].toArray, .agg [.int .i64 (c : Int), .int .i64 (k : Int)].toArray] w M X (fun u => u = .agg [.int .i64 ((nbC d c k : Nat) : Int), .int .i64 ((nbS d c k : Nat) : Int)].toArray) := by
 unfold Cq
 have rmhdcrs : d.crs.length * 40 ≤ 140737488355328 := hdcrs.room
 have harc := arcAt_bd hab hc hk
 refine calls_in (b := otherEnd_n0) Try.func69 rfl Try.ntmps69 rfl (fun C hC => ?_)
 refine ws_sub [(0, _), (1, _)] ⟨rfl, rfl, trivial⟩ ?_
 refine ws_seqN otherEnd_n1 otherEnd_n2 rfl rfl rfl ?_
 refine ws_region rfl ?_
 refine wlo 0 1 rfl rfl rfl (wo_box (l := [_, _]) rfl rfl rfl rfl rfl S ?_)
 intro gb1 w1 S1; clear S
 refine wlo 1 2 rfl rfl rfl (wo_box (l := [_, _]) rfl rfl rfl rfl rfl S1 ?_)
 intro gb2 w2 S2; clear S1
 refine wlo 2 3 rfl rfl rfl (wo_alloc (l := [_, _]) rfl rfl rfl zr61 rfl S2 ?_)
 intro gb3 w3 S3; clear S2
 refine wl_end rfl ?_
 refine nm_sub [(2, _), (3, _), (4, _)] ⟨rfl, rfl, rfl, trivial⟩ ?_
 refine nm_thn ?_
 refine ws_seqN otherEnd_n3 otherEnd_n4 rfl rfl rfl ?_
 refine ws_draw rfl (by kernel_rfl) S3 9 rfl ?_
 clear S3
 refine wa_take (i := 0) (d := 5) 8 rfl (by kernel_rfl) (by kernel_rfl) (by kernel_rfl) rfl rfl rfl (fun M1 N1 w4 hle1 S4 => .inl (run_loadN (us := [_, _]) rfl rfl Try.underlying24 rfl sz24 (S4.suf.boxcs (i := 2) rfl ⟨rfl, rfl, trivial⟩))) ?_
 refine wa_take (i := 1) (d := 6) 7 rfl (by kernel_rfl) (by kernel_rfl) (by kernel_rfl) rfl rfl rfl (fun M2 N2 w5 hle2 S5 => .inl (run_loadN (us := [_, _]) rfl rfl Try.underlying24 rfl sz24 (S5.suf.boxcs (i := 2) rfl ⟨rfl, rfl, trivial⟩))) ?_
 refine wa_take (i := 2) (d := 7) 6 rfl (by kernel_rfl) (by kernel_rfl) (by kernel_rfl) rfl rfl rfl (fun M3 N3 w6 hle3 S6 => .inl (run_loadN (us := [_, _]) rfl rfl Try.underlying61 rfl sz61 (S6.suf.boxcs (i := 1) rfl ⟨rfl, rfl, trivial⟩))) ?_
 refine wa_take (i := 3) (d := 8) 5 rfl (by kernel_rfl) (by kernel_rfl) (by kernel_rfl) rfl rfl rfl (fun M4 N4 w7 hle4 S7 => yield_cq rfl rfl rfl rfl rfl cf30 S7 (ArcAt_q d c k ((hdcrs.mono (Hp.un_mono hle4 S7.mx)).mono S7.un_XH) (by omega) (by omega) S7.lend)) ?_
 refine wa_take (i := 4) (d := 9) 4 rfl (by kernel_rfl) (by kernel_rfl) (by kernel_rfl) rfl rfl rfl (fun M5 N5 w8 hle5 S8 => .inl (run_loadN (us := [_, _]) rfl rfl Try.underlying24 rfl sz24 (S8.suf.boxcs (i := 2) rfl ⟨rfl, rfl, trivial⟩))) ?_
 refine wa_take (i := 5) (d := 10) 3 rfl (by kernel_rfl) (by kernel_rfl) (by kernel_rfl) rfl rfl rfl (fun M6 N6 w9 hle6 S9 => .inl (run_loadN (us := [_, _]) rfl rfl Try.underlying61 rfl sz61 (S9.suf.boxcs (i := 1) rfl ⟨rfl, rfl, trivial⟩))) ?_
 refine wa_take (i := 6) (d := 11) 2 rfl (by kernel_rfl) (by kernel_rfl) (by kernel_rfl) rfl rfl rfl (fun M7 N7 w10 hle7 S10 => yield_cq rfl rfl rfl rfl rfl cf31 S10 (Entry_q d c k ((hdcrs.mono (Hp.un_mono hle7 S10.mx)).mono S10.un_XH) (by omega) (by omega) S10.lend)) ?_
 refine wa_take (i := 7) (d := 12) 1 rfl (by kernel_rfl) (by kernel_rfl) (by kernel_rfl) rfl rfl rfl (fun M8 N8 w11 hle8 S11 => yield_cq rfl rfl rfl rfl rfl cf68 S11 (EndOf_q d (arcAt d c k) (entryB d c k) ((hdcrs.mono (Hp.un_mono hle8 S11.mx)).mono S11.un_XH) S11.lend)) ?_
 refine wa_only (i := 8) 0 rfl (by kernel_rfl) rfl rfl (fun w13 S13 => ?_)
 refine (wo_storeB (i := 0) (us := [_, _]) (l' := [_, _]) (H' := [_, _, _]) rfl rfl S13 rfl rfl rfl rfl sz61 rfl rfl rfl rfl ?_)
 intro w14 S14; clear S13
 refine LeftW.turn (by kernel_rfl) S14 ?_; clear S14
 change WA _ _ _ _ _ _ _ _ _ _ _ _ [_, _, _]
 refine wa_end (by kernel_rfl) (fun w15 S15 => ?_)
 refine nm_sub [(4, _)] ⟨rfl, trivial⟩ ?_
 refine nm_thn ?_
 refine ws_ret hC [_] rfl rfl ⟨⟨_, rfl, loadVarN (us := [_, _]) Try.underlying61 rfl sz61 (S15.boxcs (i := 0) rfl ⟨rfl, rfl, trivial⟩)⟩, trivial⟩ ?_
 exact ⟨_, rfl, (S15.pick [] [] (by decide) trivial), rfl⟩
noncomputable def codeFrom_n0 : Code := Try.f33.body.getD .skip
noncomputable def codeFrom_n1 : Code := cL codeFrom_n0
noncomputable def codeFrom_n2 : Code := cR codeFrom_n0
noncomputable def codeFrom_n3 : Code := cL codeFrom_n2
noncomputable def codeFrom_n4 : Code := cR codeFrom_n2
noncomputable def codeFrom_n5 : Code := cL codeFrom_n4
noncomputable def codeFrom_n6 : Code := cR codeFrom_n4
noncomputable def codeFrom_n7 : Code := cL codeFrom_n5
noncomputable def codeFrom_n8 : Code := cR codeFrom_n5
noncomputable def codeFrom_n9 : Code := cL codeFrom_n8
noncomputable def codeFrom_n10 : Code := cL codeFrom_n9
noncomputable def codeFrom_n11 : Code := cL codeFrom_n10
noncomputable def codeFrom_n12 : Code := cR codeFrom_n10
noncomputable def codeFrom_n13 : Code := cL codeFrom_n11
noncomputable def codeFrom_n14 : Code := cR codeFrom_n11
noncomputable def codeFrom_n15 : Code := cL codeFrom_n14
noncomputable def codeFrom_n16 : Code := cR codeFrom_n14
noncomputable def codeFrom_n17 : Code := cL codeFrom_n12
noncomputable def codeFrom_n18 : Code := cR codeFrom_n12
noncomputable def codeFrom_n19 : Code := cL codeFrom_n17
noncomputable def codeFrom_n20 : Code := cL codeFrom_n6
noncomputable def codeFrom_n21 : Code := cR codeFrom_n6
noncomputable def codeFrom_n22 : Code := cL codeFrom_n21
noncomputable def codeFrom_n23 : Code := cR codeFrom_n21
noncomputable def codeFrom_n24 : Code := cL codeFrom_n23
noncomputable def codeFrom_n25 : Code := cR codeFrom_n23
noncomputable def codeFrom_n26 : Code := cL codeFrom_n25
noncomputable def codeFrom_n27 : Code := cR codeFrom_n25
noncomputable def codeFrom_n28 : Code := cL codeFrom_n26
noncomputable def codeFrom_n29 : Code := cR codeFrom_n26
noncomputable def codeFrom_n30 : Code := cL codeFrom_n29
noncomputable def codeFrom_n31 : Code := cL codeFrom_n30
noncomputable def codeFrom_n32 : Code := cL codeFrom_n31
noncomputable def codeFrom_n33 : Code := cR codeFrom_n31
noncomputable def codeFrom_n34 : Code := cL codeFrom_n32
noncomputable def codeFrom_n35 : Code := cR codeFrom_n32
noncomputable def codeFrom_n36 : Code := cL codeFrom_n35
noncomputable def codeFrom_n37 : Code := cR codeFrom_n35
noncomputable def codeFrom_n38 : Code := cL codeFrom_n33
noncomputable def codeFrom_n39 : Code := cR codeFrom_n33
noncomputable def codeFrom_n40 : Code := cL codeFrom_n38
noncomputable def codeFrom_n41 : Code := cL codeFrom_n40
noncomputable def codeFrom_n42 : Code := cR codeFrom_n40
noncomputable def codeFrom_n43 : Code := cL codeFrom_n42
noncomputable def codeFrom_n44 : Code := cR codeFrom_n42
noncomputable def codeFrom_n45 : Code := cL codeFrom_n43
noncomputable def codeFrom_n46 : Code := cR codeFrom_n43
noncomputable def codeFrom_n47 : Code := cL codeFrom_n46
noncomputable def codeFrom_n48 : Code := cR codeFrom_n46
noncomputable def codeFrom_n49 : Code := cL codeFrom_n44
noncomputable def codeFrom_n50 : Code := cR codeFrom_n44
noncomputable def codeFrom_n51 : Code := cL codeFrom_n50
noncomputable def codeFrom_n52 : Code := cL codeFrom_n51
noncomputable def codeFrom_n53 : Code := cL codeFrom_n52
noncomputable def codeFrom_n54 : Code := cR codeFrom_n52
noncomputable def codeFrom_n55 : Code := cL codeFrom_n53
noncomputable def codeFrom_n56 : Code := cR codeFrom_n53
noncomputable def codeFrom_n57 : Code := cL codeFrom_n56
noncomputable def codeFrom_n58 : Code := cR codeFrom_n56
noncomputable def codeFrom_n59 : Code := cL codeFrom_n54
noncomputable def codeFrom_n60 : Code := cR codeFrom_n54
noncomputable def codeFrom_n61 : Code := cL codeFrom_n59
noncomputable def codeFrom_n62 : Code := cL codeFrom_n61
noncomputable def codeFrom_n63 : Code := cR codeFrom_n61
noncomputable def codeFrom_n64 : Code := cL codeFrom_n63
noncomputable def codeFrom_n65 : Code := cR codeFrom_n63
noncomputable def codeFrom_n66 : Code := cL codeFrom_n64
noncomputable def codeFrom_n67 : Code := cR codeFrom_n64
noncomputable def codeFrom_n68 : Code := cL codeFrom_n67
noncomputable def codeFrom_n69 : Code := cR codeFrom_n67
noncomputable def codeFrom_n70 : Code := cL codeFrom_n68
noncomputable def codeFrom_n71 : Code := cR codeFrom_n68
noncomputable def codeFrom_n72 : Code := cL codeFrom_n27
noncomputable def codeFrom_n73 : Code := cR codeFrom_n27
set_option maxHeartbeats 4000000 in
set_option maxRecDepth 10000 in
theorem codeFrom_t {w : World} {M : Hp} {X : Fr} (d : Dg) {dcrsA : Option Addr} {dcrsc : Nat} (st : Nat) (hdcrs : RdA cdCr (M.un X.h) dcrsA dcrsc d.crs) (hn : d.crs.length ≤ 16) (hab : arcsB d = true) (hst : st < d.crs.length) (S : SH w M X []) : Ct Try.prog 33 [.agg [.slice dcrsA d.crs.length dcrsc, .int .i64 d.loops].toArray, .int .i64 (st : Int)] w M X (fun u N => ∃ A c B e, u = .tuple [.slice A (cfE d st).co.length c, .slice B (cfE d st).od.length e].toArray ∧ RdA cdInt N A c (cfE d st).co ∧ RdA cdInt N B e (cfE d st).od) := by
 unfold Ct
 have rmhdcrs : d.crs.length * 40 ≤ 140737488355328 := hdcrs.room
 refine calls_in (b := codeFrom_n0) Try.func33 rfl Try.ntmps33 rfl (fun C hC => ?_)
 refine ws_sub [(0, _), (1, _)] ⟨rfl, rfl, trivial⟩ ?_
 refine ws_seqN codeFrom_n1 codeFrom_n2 rfl rfl rfl ?_
 refine ws_region rfl ?_
 refine wlo 0 1 rfl rfl rfl (wo_box (l := [_, _]) rfl rfl rfl rfl rfl S ?_)
 intro gb1 w1 S1; clear S
 refine wla 1 2 rfl rfl rfl rfl rfl rfl rfl ?_
 refine wla 2 3 rfl rfl rfl rfl rfl rfl rfl ?_
 refine wl_end rfl ?_
 refine nm_sub [(1, _), (2, _)] ⟨rfl, rfl, trivial⟩ ?_
 refine nm_thn ?_
 refine ws_seqN codeFrom_n3 codeFrom_n4 rfl rfl rfl ?_
 refine ws_region rfl ?_
 refine wlo 0 1 rfl rfl rfl (wo_run rfl rfl (run_fieldAddr rfl rfl Try.underlying24 rfl (ce22) (nf22)) ?_)
 refine wlo 1 2 rfl rfl rfl (wo_run rfl rfl (run_load1 rfl rfl Try.underlying22 rfl (S1.boxc (i := 0) rfl rfl)) ?_)
 refine wlo 2 3 rfl rfl rfl (wo_run rfl rfl (run_len rfl rfl rfl rfl rfl rfl Try.underlying22) ?_)
 refine wlo 3 4 rfl rfl rfl (wo_make (C := cdInt) d.crs.length rfl rfl rfl rfl rfl sl33 (by first | rfl | omega) (by show _ * 8 ≤ _; first | omega | (simp only [lens]; omega)) S1 ?_)
 intro vr1 w2 S2; clear S1
 refine wla 4 5 rfl rfl rfl rfl rfl rfl rfl ?_
 refine wl_end rfl ?_
 refine nm_sub [(1, _), (2, _), (6, _)] ⟨rfl, rfl, rfl, trivial⟩ ?_
 refine nm_thn ?_
 refine ws_seqN codeFrom_n5 codeFrom_n6 rfl rfl rfl ?_
 refine ws_seqN codeFrom_n7 codeFrom_n8 rfl rfl rfl ?_
 refine ws_region rfl ?_
 refine wla 0 1 rfl rfl rfl rfl rfl rfl rfl ?_
 refine wl_end rfl ?_
 refine nm_thn ?_
 refine ws_blockN codeFrom_n9 0 rfl rfl rfl ?_
 refine ws_loopE (fun mx_ ax_ wx_ => ∃ (j0 : Nat) (nm : List Int) (vrn : Value), mx_ = d.crs.length - j0 ∧ Env 92 [(1, .int .i64 (st : Int)), (2, .pointer (some ⟨gb1, 0, none⟩)), (6, vrn), (7, .int .i64 (j0 : Int))] ax_ ∧ SH wx_ M X [Rs.row cdInt vrn nm, Rs.box gb1 24 [.slice dcrsA d.crs.length dcrsc, .int .i64 d.loops]] ∧ j0 ≤ d.crs.length ∧ nm.length = d.crs.length ∧ (∀ x, x < j0 → ga nm x = -1)) rfl ?_ ?_
 ·intro ax_ hax_
  refine ⟨_, ⟨0, _, _, rfl, hax_.sub ⟨rfl, rfl, rfl, rfl, trivial⟩, S2.pick [0, 1] [_, _] (by decide) ⟨rfl, rfl, trivial⟩, ?hq1f0, ?hq1f1, ?hq1f2⟩⟩
  case hq1f0 => omega
  case hq1f1 => (rw [List.length_replicate])
  case hq1f2 => (intro x hx; omega)
 ·rintro m1 a1 w3 ⟨j0, nm, vrn, rfl, he1, S3, hj0, hnl, hnm⟩
  clear S2
  refine ws_in he1 (c := codeFrom_n10) rfl ?_
  clear he1 a1
  refine ws_seqN codeFrom_n11 codeFrom_n12 rfl rfl rfl ?_
  refine ws_seqN codeFrom_n13 codeFrom_n14 rfl rfl rfl ?_
  refine ws_region rfl ?_
  refine wlm 0 1 rfl rfl rfl rfl rfl rfl rfl ?_
  refine wlm 1 2 rfl rfl rfl rfl rfl rfl rfl ?_
  refine wlo 2 3 rfl rfl rfl (wo_run rfl rfl (run_lenR (C := cdInt) (i := 0) rfl rfl rfl rfl rfl rfl sl33 S3 rfl) ?_)
  refine wlo 3 4 rfl rfl rfl (wo_run rfl rfl (run_lss rfl rfl rfl) ?_)
  refine wl_end rfl ?_
  refine nm_sub [(1, _), (2, _), (6, _), (7, _), (21, _)] ⟨rfl, rfl, rfl, rfl, rfl, trivial⟩ ?_
  refine nm_thn ?_
  refine ws_condN codeFrom_n15 codeFrom_n16 rfl rfl rfl rfl (fun hb21 => ?_) (fun hb21 => ?_)
  ·replace hb21 := of_decide_eq_true hb21
   refine ws_skip rfl ?_
   refine nm_sub [(1, _), (2, _), (6, _), (7, _)] ⟨rfl, rfl, rfl, rfl, trivial⟩ ?_
   refine nm_thn ?_
   refine ws_seqN codeFrom_n17 codeFrom_n18 rfl rfl rfl ?_
   refine ws_blockN codeFrom_n19 1 rfl rfl rfl ?_
   refine ws_region rfl ?_
   refine wlm 0 1 rfl rfl rfl rfl rfl rfl rfl ?_
   refine wlm 1 2 rfl rfl rfl rfl rfl rfl rfl ?_
   refine wlo 2 3 rfl rfl rfl (wo_run rfl rfl (run_indexR (C := cdInt) (i := 0) j0 rfl rfl rfl sl33 S3 rfl (by first | rfl | omega) (by first | omega | (simp only [lens]; omega))) ?_)
   refine wlo 3 4 rfl rfl rfl (wo_storeR (C := cdInt) (i := 0) (e := j0) (j := 0) (us := [_]) (H' := [_, _]) (-1) rfl rfl S3 rfl (by first | omega | (simp only [lens]; omega)) rfl rfl rfl sz3 rfl rfl rfl rfl ?_)
   intro w4 S4; clear S3
   refine wl_end rfl ?_
   refine nm_blk ?_
   refine nm_sub [(1, _), (2, _), (6, _), (7, _)] ⟨rfl, rfl, rfl, rfl, trivial⟩ ?_
   refine nm_thn ?_
   refine ws_region rfl ?_
   refine wlm 0 1 rfl rfl rfl rfl rfl rfl rfl ?_
   refine wlo 1 2 rfl rfl rfl (wo_run rfl rfl (run_add rfl rfl rfl (by first | omega | (simp only [lens]; omega))) ?_)
   refine wla 2 3 rfl rfl rfl rfl rfl rfl rfl ?_
   refine wl_end rfl ?_
   refine nm_lp ?_
   intro ax_ hax_
   refine ⟨_, ?hq2m, ⟨j0 + 1, _, _, rfl, hax_.sub ⟨rfl, rfl, rfl, rfl, trivial⟩, S4.pick [0, 1] [_, _] (by decide) ⟨rfl, rfl, trivial⟩, ?hq2f0, ?hq2f1, ?hq2f2⟩⟩
   case hq2f0 => omega
   case hq2f1 => simpa using hnl
   case hq2f2 => (intro x hx; rw [ga_set _ _ _ _ (by omega)]; split; rfl; exact hnm x (by omega))
   case hq2m => omega
  ·replace hb21 := of_decide_eq_false hb21
   refine ws_exit rfl rfl ?_
   refine nm_sub [(1, _), (2, _), (6, _)] ⟨rfl, rfl, rfl, trivial⟩ ?_
   refine nm_thn ?_
   refine ws_seqN codeFrom_n20 codeFrom_n21 rfl rfl rfl ?_
   have hrc1 : nm = (List.replicate d.crs.length (-1)) := ga_ext (by rw [hnl, List.length_replicate]) fun x hx => by rw [hnm x (by omega), ga_rep _ _ _ (by omega)]
   rw [hrc1] at S3; clear hrc1
   refine ws_region rfl ?_
   refine wlm 0 1 rfl rfl rfl rfl rfl rfl rfl ?_
   refine wlm 1 2 rfl rfl rfl rfl rfl rfl rfl ?_
   refine wlo 2 3 rfl rfl rfl (wo_run rfl rfl (run_indexR (C := cdInt) (i := 0) st rfl rfl rfl sl33 S3 rfl (by first | rfl | omega) (by first | omega | (simp only [lens]; omega))) ?_)
   refine wlo 3 4 rfl rfl rfl (wo_storeR (C := cdInt) (i := 0) (e := st) (j := 0) (us := [_]) (H' := [_, _]) 0 rfl rfl S3 rfl (by first | omega | (simp only [lens]; omega)) rfl rfl rfl sz3 rfl rfl rfl rfl ?_)
   intro w5 S5; clear S3
   refine wl_end rfl ?_
   refine nm_sub [(1, _), (2, _), (6, _)] ⟨rfl, rfl, rfl, trivial⟩ ?_
   refine nm_thn ?_
   refine ws_seqN codeFrom_n22 codeFrom_n23 rfl rfl rfl ?_
   refine ws_region rfl ?_
   refine wlm 0 1 rfl rfl rfl rfl rfl rfl rfl ?_
   refine wlo 1 2 rfl rfl rfl (wo_buildSlice1 (C := cdInt) (l := [_]) rfl rfl rfl rfl sl33 rfl rfl rfl rfl S5 ?_)
   intro gb2 w6 S6; clear S5
   refine wla 2 3 rfl rfl rfl rfl rfl rfl rfl ?_
   refine wl_end rfl ?_
   refine nm_sub [(2, _), (6, _), (8, _)] ⟨rfl, rfl, rfl, trivial⟩ ?_
   refine nm_thn ?_
   refine ws_seqN codeFrom_n24 codeFrom_n25 rfl rfl rfl ?_
   refine ws_region rfl ?_
   refine wla 0 1 rfl rfl rfl rfl rfl rfl rfl ?_
   refine wl_end rfl ?_
   refine nm_thn ?_
   refine ws_seqN codeFrom_n26 codeFrom_n27 rfl rfl rfl ?_
   refine ws_seqN codeFrom_n28 codeFrom_n29 rfl rfl rfl ?_
   refine ws_region rfl ?_
   refine wla 0 1 rfl rfl rfl rfl rfl rfl rfl ?_
   refine wl_end rfl ?_
   refine nm_thn ?_
   refine ws_blockN codeFrom_n30 2 rfl rfl rfl ?_
   have S7 := S6.boxrow (C := cdInt) [(st : Int)] (i := 0) (H' := [_, _, _]) rfl rfl (by simp) rfl; clear S6
   obtain ⟨vr2, er2⟩ : ∃ v, v = Value.slice (some ⟨gb2, 0, none⟩) ([(st : Int)]).length ([(st : Int)]).length := ⟨_, rfl⟩
   rw [← er2] at S7
   refine ws_eq 8 (vr2) rfl er2.symm ?_
   have S8 := S7.nilrow cdInt; clear S7
   refine ws_loopE (fun mx_ ax_ wx_ => ∃ (i : Nat) (sc : Cf) (vrn1 : Value) (vro : Value) (vrk : Value) (M1 : Hp), M.le M1 ∧ mx_ = d.crs.length - i ∧ Env 92 [(2, .pointer (some ⟨gb1, 0, none⟩)), (6, vrn1), (8, vro), (9, vrk), (10, .int .i64 (i : Int))] ax_ ∧ SH wx_ M1 X [Rs.row cdInt vrk sc.co, Rs.row cdInt vro sc.od, Rs.row cdInt vrn1 sc.nu, Rs.box gb1 24 [.slice dcrsA d.crs.length dcrsc, .int .i64 d.loops]] ∧ i ≤ sc.od.length ∧ sc = cfN d st i ∧ CfI d st sc ∧ sc.co.length ≤ 9 * i) rfl ?_ ?_
   ·intro ax_ hax_
    refine ⟨_, ⟨0, (cf0 d st), _, _, _, _, Hp.le_refl _, rfl, hax_.sub ⟨rfl, rfl, rfl, rfl, rfl, trivial⟩, S8.pick [0, 1, 2, 3] [_, _, _, _] (by decide) ⟨rfl, rfl, rfl, rfl, trivial⟩, ?hq3f0, ?hq3f1, ?hq3f2, ?hq3f3⟩⟩
    case hq3f0 => (show 0 ≤ 1; omega)
    case hq3f1 => rfl
    case hq3f2 => exact cf0_ok hst
    case hq3f3 => exact Nat.le_refl _
   ·rintro m2 a2 w7 ⟨i, sc, vrn1, vro, vrk, M1, hle2, rfl, he2, S9, hi, hsn, hci, hcol⟩
    clear S8
    refine ws_in he2 (c := codeFrom_n31) rfl ?_
    clear he2 a2
    replace hdcrs := hdcrs.mono (Hp.un_mono hle2 S9.mx)
    have hqle := hci.le
    have hod := fun h => hci.od i h
    refine ws_seqN codeFrom_n32 codeFrom_n33 rfl rfl rfl ?_
    refine ws_seqN codeFrom_n34 codeFrom_n35 rfl rfl rfl ?_
    refine ws_region rfl ?_
    refine wlm 0 1 rfl rfl rfl rfl rfl rfl rfl ?_
    refine wlm 1 2 rfl rfl rfl rfl rfl rfl rfl ?_
    refine wlo 2 3 rfl rfl rfl (wo_run rfl rfl (run_lenR (C := cdInt) (i := 1) rfl rfl rfl rfl rfl rfl sl33 S9 rfl) ?_)
    refine wlo 3 4 rfl rfl rfl (wo_run rfl rfl (run_lss rfl rfl rfl) ?_)
    refine wl_end rfl ?_
    refine nm_sub [(2, _), (6, _), (8, _), (9, _), (10, _), (35, _)] ⟨rfl, rfl, rfl, rfl, rfl, rfl, trivial⟩ ?_
    refine nm_thn ?_
    refine ws_condN codeFrom_n36 codeFrom_n37 rfl rfl rfl rfl (fun hb35 => ?_) (fun hb35 => ?_)
    ·replace hb35 := of_decide_eq_true hb35
     refine ws_skip rfl ?_
     refine nm_sub [(2, _), (6, _), (8, _), (9, _), (10, _)] ⟨rfl, rfl, rfl, rfl, rfl, trivial⟩ ?_
     refine nm_thn ?_
     refine ws_seqN codeFrom_n38 codeFrom_n39 rfl rfl rfl ?_
     refine ws_blockN codeFrom_n40 3 rfl rfl rfl ?_
     refine ws_seqN codeFrom_n41 codeFrom_n42 rfl rfl rfl ?_
     refine ws_region rfl ?_
     refine wlm 0 1 rfl rfl rfl rfl rfl rfl rfl ?_
     refine wlm 1 2 rfl rfl rfl rfl rfl rfl rfl ?_
     refine wlo 2 3 rfl rfl rfl (wo_run rfl rfl (run_indexR (C := cdInt) (i := 1) i rfl rfl rfl sl33 S9 rfl (by first | rfl | omega) (by first | omega | (simp only [lens]; omega))) ?_)
     refine wlo 3 4 rfl rfl rfl (wo_run rfl rfl (run_load1 rfl rfl Try.underlying3 rfl (S9.rowc (i := 1) (e := i) (j := 0) rfl (by first | omega | (simp only [lens]; omega)) rfl rfl)) ?_)
     refine wla 4 5 rfl rfl rfl rfl rfl rfl rfl ?_
     refine wl_end rfl ?_
     refine nm_sub [(2, _), (6, _), (8, _), (9, _), (10, _), (11, _)] ⟨rfl, rfl, rfl, rfl, rfl, rfl, trivial⟩ ?_
     refine nm_thn ?_
     refine ws_seqN codeFrom_n43 codeFrom_n44 rfl rfl rfl ?_
     refine ws_seqN codeFrom_n45 codeFrom_n46 rfl rfl rfl ?_
     obtain ⟨ho1, ho2, ho3⟩ := hod (by omega)
     obtain ⟨c, hcn⟩ : ∃ c : Nat, ga sc.od i = (c : Int) := ⟨(ga sc.od i).toNat, (Int.toNat_of_nonneg ho1).symm⟩
     have hcl : c < d.crs.length := by rw [hcn, Int.toNat_natCast] at ho2; exact ho2
     have hcp : pcI d c = pcI d st := by rw [hcn, Int.toNat_natCast] at ho3; exact hci.pc c hcl (by rw [ho3]; omega)
     rw [hcn, Int.toNat_natCast] at ho3
     clear hod ho2 ho1
     refine ws_eq 11 (.int .i64 (c : Int)) rfl (int_eq hcn) ?_
     refine ws_region rfl ?_
     refine wlo 0 1 rfl rfl rfl (wo_run rfl rfl (run_fieldAddr rfl rfl Try.underlying24 rfl (ce22) (nf22)) ?_)
     refine wlo 1 2 rfl rfl rfl (wo_run rfl rfl (run_load1 rfl rfl Try.underlying22 rfl (S9.boxc (i := 3) rfl rfl)) ?_)
     refine wlm 2 3 rfl rfl rfl rfl rfl rfl rfl ?_
     refine wlo 3 4 rfl rfl rfl (wo_run rfl rfl (run_indexM (C := cdCr) c rfl rfl rfl sl22 (by first | rfl | omega) hdcrs (by first | omega | (simp only [lens]; omega))) ?_)
     refine wlo 4 5 rfl rfl rfl (wo_run rfl rfl (run_fieldAddr rfl rfl Try.underlying59 rfl (ce4) (nf4)) ?_)
     refine wlo 5 6 rfl rfl rfl (wo_run rfl rfl (run_load1 rfl rfl Try.underlying4 rfl (hdcrs.cell S9.um (i := c) (by first | omega | (simp only [lens]; omega)) 4 rfl rfl)) ?_)
     refine wl_end rfl ?_
     refine nm_sub [(2, _), (6, _), (8, _), (9, _), (10, _), (11, _), (47, _)] ⟨rfl, rfl, rfl, rfl, rfl, rfl, rfl, trivial⟩ ?_
     refine nm_thn ?_
     refine ws_condN codeFrom_n47 codeFrom_n48 rfl rfl rfl rfl (fun hb47 => ?_) (fun hb47 => ?_)
     ·refine ws_region rfl ?_
      refine wlm 0 1 rfl rfl rfl rfl rfl rfl rfl ?_
      refine wlo 1 2 rfl rfl rfl (wo_buildSlice1 (C := cdInt) (l := [_]) rfl rfl rfl rfl sl33 rfl rfl rfl rfl S9 ?_)
      intro gb3 w8 S10; clear S9
      refine wlo 2 3 rfl rfl rfl (wo_append1 (C := cdInt) (i := 1) (q := 0) 1 rfl rfl rfl rfl rfl rfl rfl rfl sl33 S10 rfl rfl rfl (by show (_ + 1) * 8 ≤ _; first | omega | (simp only [lens]; omega)) ?_)
      intro vrk1 w9 S11; clear S10
      have S12 := S11.pick [1, 2, 3, 4] [_, _, _, _] (by decide) ⟨rfl, rfl, rfl, rfl, trivial⟩; clear S11
      refine wla 3 4 rfl rfl rfl rfl rfl rfl rfl ?_
      refine wl_end rfl ?_
      refine nm_sub [(2, _), (6, _), (8, _), (9, _), (10, _), (11, _)] ⟨rfl, rfl, rfl, rfl, rfl, rfl, trivial⟩ ?_
      refine nm_thn ?_
      refine ws_seqN codeFrom_n49 codeFrom_n50 rfl rfl rfl ?_
      have hrc2 : sc.co ++ [1] = (sc.co ++ [plI (ga d.crs c)]) := by unfold plI; first | (rw [if_pos (by assumption)]) | (rw [if_neg (by simp [*])])
      rw [hrc2] at S12; clear hrc2
      refine ws_region rfl ?_
      refine wla 0 1 rfl rfl rfl rfl rfl rfl rfl ?_
      refine wl_end rfl ?_
      refine nm_thn ?_
      refine ws_blockN codeFrom_n51 4 rfl rfl rfl ?_
      refine ws_loopE (fun mx_ ax_ wx_ => ∃ (k : Nat) (sk : Cf) (vrn2 : Value) (vro2 : Value) (vrk2 : Value) (M2 : Hp), M1.le M2 ∧ mx_ = 4 - k ∧ Env 92 [(2, .pointer (some ⟨gb1, 0, none⟩)), (6, vrn2), (8, vro2), (9, vrk2), (10, .int .i64 (i : Int)), (11, .int .i64 (c : Int)), (12, .int .i64 (k : Int))] ax_ ∧ SH wx_ M2 X [Rs.row cdInt vrk2 sk.co, Rs.row cdInt vro2 sk.od, Rs.row cdInt vrn2 sk.nu, Rs.box gb1 24 [.slice dcrsA d.crs.length dcrsc, .int .i64 d.loops]] ∧ k ≤ 4 ∧ sk = cfK d c ⟨sc.nu, sc.od, sc.co ++ [plI (ga d.crs c)]⟩ k ∧ CfI d st sk ∧ CfM (⟨sc.nu, sc.od, sc.co ++ [plI (ga d.crs c)]⟩ : Cf) sk ∧ sk.co.length ≤ 9 * i + 1 + 2 * k) rfl ?_ ?_
      ·intro ax_ hax_
       refine ⟨_, ⟨0, (⟨sc.nu, sc.od, sc.co ++ [plI (ga d.crs c)]⟩ : Cf), _, _, _, _, Hp.le_refl _, rfl, hax_.sub ⟨rfl, rfl, rfl, rfl, rfl, rfl, rfl, trivial⟩, S12.pick [0, 1, 2, 3] [_, _, _, _] (by decide) ⟨rfl, rfl, rfl, rfl, trivial⟩, ?hq4f0, ?hq4f1, ?hq4f2, ?hq4f3, ?hq4f4⟩⟩
       case hq4f0 => omega
       case hq4f1 => rfl
       case hq4f2 => exact ⟨hci.nl, hci.od, hci.nu, hci.pc, hci.sn, hci.ps⟩
       case hq4f3 => exact CfM.refl _
       case hq4f4 => (rw [List.length_append]; show _ + 1 ≤ _; omega)
      ·rintro m3 a3 w10 ⟨k, sk, vrn2, vro2, vrk2, M2, hle3, rfl, he3, S13, hk, hsk, hck, hcm, hckl⟩
       clear S12
       refine ws_in he3 (c := codeFrom_n52) rfl ?_
       clear he3 a3
       replace hdcrs := hdcrs.mono (Hp.un_mono hle3 S13.mx)
       have hqle2 := hck.le
       have hnb := fun (h : k < 4) => nbC_lt hab hcl h
       have hck1 := hck.nl
       refine ws_seqN codeFrom_n53 codeFrom_n54 rfl rfl rfl ?_
       refine ws_seqN codeFrom_n55 codeFrom_n56 rfl rfl rfl ?_
       refine ws_region rfl ?_
       refine wlm 0 1 rfl rfl rfl rfl rfl rfl rfl ?_
       refine wlo 1 2 rfl rfl rfl (wo_run rfl rfl (run_lss rfl rfl rfl) ?_)
       refine wl_end rfl ?_
       refine nm_sub [(2, _), (6, _), (8, _), (9, _), (10, _), (11, _), (12, _), (55, _)] ⟨rfl, rfl, rfl, rfl, rfl, rfl, rfl, rfl, trivial⟩ ?_
       refine nm_thn ?_
       refine ws_condN codeFrom_n57 codeFrom_n58 rfl rfl rfl rfl (fun hb55 => ?_) (fun hb55 => ?_)
       ·replace hb55 := of_decide_eq_true hb55
        refine ws_skip rfl ?_
        refine nm_sub [(2, _), (6, _), (8, _), (9, _), (10, _), (11, _), (12, _)] ⟨rfl, rfl, rfl, rfl, rfl, rfl, rfl, trivial⟩ ?_
        refine nm_thn ?_
        refine ws_seqN codeFrom_n59 codeFrom_n60 rfl rfl rfl ?_
        refine ws_blockN codeFrom_n61 5 rfl rfl rfl ?_
        refine ws_seqN codeFrom_n62 codeFrom_n63 rfl rfl rfl ?_
        refine ws_region rfl ?_
        refine wlo 0 1 rfl rfl rfl (wo_run rfl rfl (run_loadN (us := [_, _]) rfl rfl Try.underlying24 rfl sz24 (S13.boxcs (i := 3) rfl ⟨rfl, rfl, trivial⟩)) ?_)
        refine wlm 1 2 rfl rfl rfl rfl rfl rfl rfl ?_
        refine wlm 2 3 rfl rfl rfl rfl rfl rfl rfl ?_
        refine wlo 3 4 rfl rfl rfl (wo_run rfl rfl (run_build (l := [_, _]) rfl rfl st61 rfl rfl) ?_)
        refine wlo 4 5 rfl rfl rfl (wo_cq rfl rfl rfl rfl rfl rfl rfl cf69 S13 (otherEnd_q d c k (hdcrs.mono S13.un_XH) (hab) (hcl) ((by omega)) S13.lend) ?_)
        rintro _ w11 S14 rfl; clear S13
        refine wlo 5 6 rfl rfl rfl (wo_alloc (l := [_, _]) rfl rfl rfl zr61 rfl S14 ?_)
        intro gb4 w12 S15; clear S14
        refine wlo 6 7 rfl rfl rfl (wo_storeB (i := 0) (us := [_, _]) (l' := [_, _]) (H' := [_, _, _, _, _]) rfl rfl S15 rfl rfl rfl rfl sz61 rfl rfl rfl rfl ?_)
        intro w13 S16; clear S15
        refine wl_end rfl ?_
        refine nm_sub [(2, _), (6, _), (8, _), (9, _), (10, _), (11, _), (12, _), (13, _)] ⟨rfl, rfl, rfl, rfl, rfl, rfl, rfl, rfl, trivial⟩ ?_
        refine nm_thn ?_
        refine ws_seqN codeFrom_n64 codeFrom_n65 rfl rfl rfl ?_
        refine ws_seqN codeFrom_n66 codeFrom_n67 rfl rfl rfl ?_
        refine ws_region rfl ?_
        refine wlm 0 1 rfl rfl rfl rfl rfl rfl rfl ?_
        refine wlo 1 2 rfl rfl rfl (wo_run rfl rfl (run_fieldAddr rfl rfl Try.underlying61 rfl (ce3) (nf3)) ?_)
        refine wlo 2 3 rfl rfl rfl (wo_run rfl rfl (run_load1 rfl rfl Try.underlying3 rfl (S16.boxc (i := 0) rfl rfl)) ?_)
        have hnb9 := hnb (by omega)
        refine wlo 3 4 rfl rfl rfl (wo_run rfl rfl (run_indexR (C := cdInt) (i := 3) (nbC d c k) rfl rfl rfl sl33 S16 rfl (by first | rfl | omega) (by first | omega | (simp only [lens]; omega))) ?_)
        refine wlo 4 5 rfl rfl rfl (wo_run rfl rfl (run_load1 rfl rfl Try.underlying3 rfl (S16.rowc (i := 3) (e := nbC d c k) (j := 0) rfl (by first | omega | (simp only [lens]; omega)) rfl rfl)) ?_)
        refine wlo 5 6 rfl rfl rfl (wo_run rfl rfl (run_lss rfl rfl rfl) ?_)
        refine wl_end rfl ?_
        refine nm_sub [(2, _), (6, _), (8, _), (9, _), (10, _), (11, _), (12, _), (13, _), (68, _)] ⟨rfl, rfl, rfl, rfl, rfl, rfl, rfl, rfl, rfl, trivial⟩ ?_
        refine nm_thn ?_
        refine ws_condN codeFrom_n68 codeFrom_n69 rfl rfl rfl rfl (fun hb68 => ?_) (fun hb68 => ?_)
        ·replace hb68 := of_decide_eq_true hb68
         have hS : cfS d c sk k = ⟨sk.nu.set (nbC d c k) (sk.od.length : Int), sk.od ++ [(nbC d c k : Int)], sk.co ++ [(sk.od.length : Int), (nbS d c k : Int)]⟩ := by unfold cfS; rw [if_pos hb68]
         refine ws_seqN codeFrom_n70 codeFrom_n71 rfl rfl rfl ?_
         refine ws_region rfl ?_
         refine wlm 0 1 rfl rfl rfl rfl rfl rfl rfl ?_
         refine wlo 1 2 rfl rfl rfl (wo_run rfl rfl (run_fieldAddr rfl rfl Try.underlying61 rfl (ce3) (nf3)) ?_)
         refine wlo 2 3 rfl rfl rfl (wo_run rfl rfl (run_load1 rfl rfl Try.underlying3 rfl (S16.boxc (i := 0) rfl rfl)) ?_)
         refine wlm 3 4 rfl rfl rfl rfl rfl rfl rfl ?_
         refine wlo 4 5 rfl rfl rfl (wo_run rfl rfl (run_lenR (C := cdInt) (i := 2) rfl rfl rfl rfl rfl rfl sl33 S16 rfl) ?_)
         refine wlo 5 6 rfl rfl rfl (wo_run rfl rfl (run_indexR (C := cdInt) (i := 3) (nbC d c k) rfl rfl rfl sl33 S16 rfl (by first | rfl | omega) (by first | omega | (simp only [lens]; omega))) ?_)
         refine wlo 6 7 rfl rfl rfl (wo_storeR (C := cdInt) (i := 3) (e := nbC d c k) (j := 0) (us := [_]) (H' := [_, _, _, _, _]) (sk.od.length : Int) rfl rfl S16 rfl (by first | omega | (simp only [lens]; omega)) rfl rfl rfl sz3 rfl rfl rfl rfl ?_)
         intro w14 S17; clear S16
         refine wl_end rfl ?_
         refine nm_sub [(2, _), (6, _), (8, _), (9, _), (10, _), (11, _), (12, _), (13, _)] ⟨rfl, rfl, rfl, rfl, rfl, rfl, rfl, rfl, trivial⟩ ?_
         refine nm_thn ?_
         refine ws_region rfl ?_
         refine wlm 0 1 rfl rfl rfl rfl rfl rfl rfl ?_
         refine wlo 1 2 rfl rfl rfl (wo_run rfl rfl (run_fieldAddr rfl rfl Try.underlying61 rfl (ce3) (nf3)) ?_)
         refine wlo 2 3 rfl rfl rfl (wo_run rfl rfl (run_load1 rfl rfl Try.underlying3 rfl (S17.boxc (i := 0) rfl rfl)) ?_)
         refine wlo 3 4 rfl rfl rfl (wo_buildSlice1 (C := cdInt) (l := [_]) rfl rfl rfl rfl sl33 rfl rfl rfl rfl S17 ?_)
         intro gb5 w15 S18; clear S17
         refine wlo 4 5 rfl rfl rfl (wo_append1 (C := cdInt) (i := 3) (q := 0) (nbC d c k : Int) rfl rfl rfl rfl rfl rfl rfl rfl sl33 S18 rfl rfl rfl (by show (_ + 1) * 8 ≤ _; first | omega | (simp only [lens]; omega)) ?_)
         intro vro1 w16 S19; clear S18
         have S20 := S19.pick [1, 2, 3, 4, 5] [_, _, _, _, _] (by decide) ⟨rfl, rfl, rfl, rfl, rfl, trivial⟩; clear S19
         refine wla 5 6 rfl rfl rfl rfl rfl rfl rfl ?_
         refine wl_end rfl ?_
         refine nm_sub [(2, _), (6, _), (8, _), (9, _), (10, _), (11, _), (12, _), (13, _)] ⟨rfl, rfl, rfl, rfl, rfl, rfl, rfl, rfl, trivial⟩ ?_
         refine nm_thn ?_
         refine ws_draw rfl (by kernel_rfl) S20 11 rfl ?_
         clear S20
         refine wa_takeP (i := 0) (d := 80) 10 rfl (by kernel_rfl) (by kernel_rfl) (by kernel_rfl) rfl rfl rfl (fun w17 => run_move rfl rfl) ?_
         refine wa_takeP (i := 1) (d := 81) 9 rfl (by kernel_rfl) (by kernel_rfl) (by kernel_rfl) rfl rfl rfl (fun w18 => run_move rfl rfl) ?_
         refine wa_takeP (i := 2) (d := 82) 8 rfl (by kernel_rfl) (by kernel_rfl) (by kernel_rfl) rfl rfl rfl (fun w19 => run_fieldAddr rfl rfl Try.underlying61 rfl (ce3) (nf3)) ?_
         refine wa_take (i := 3) (d := 83) 7 rfl (by kernel_rfl) (by kernel_rfl) (by kernel_rfl) rfl rfl rfl (fun M6 N4 w20 hle7 S24 => .inl (run_load1 rfl rfl Try.underlying3 rfl (S24.suf.boxc (i := 0) rfl rfl))) ?_
         refine wa_take (i := 4) (d := 84) 6 rfl (by kernel_rfl) (by kernel_rfl) (by kernel_rfl) rfl rfl rfl (fun M7 N5 w21 hle8 S25 => .inl (run_indexR (C := cdInt) (i := 3) (nbC d c k) rfl rfl rfl sl33 S25.suf rfl (by first | rfl | omega) (by first | omega | (simp only [lens]; omega)))) ?_
         refine wa_take (i := 5) (d := 85) 5 rfl (by kernel_rfl) (by kernel_rfl) (by kernel_rfl) rfl rfl rfl (fun M8 N6 w22 hle9 S26 => .inl (run_load1 rfl rfl Try.underlying3 rfl (S26.suf.rowc (i := 3) (e := nbC d c k) (j := 0) rfl (by first | omega | (simp only [lens]; omega)) rfl rfl))) ?_
         refine wa_takeP (i := 6) (d := 86) 4 rfl (by kernel_rfl) (by kernel_rfl) (by kernel_rfl) rfl rfl rfl (fun w23 => run_fieldAddr rfl rfl Try.underlying61 rfl (ce3) (nf3)) ?_
         refine wa_take (i := 7) (d := 87) 3 rfl (by kernel_rfl) (by kernel_rfl) (by kernel_rfl) rfl rfl rfl (fun M10 N8 w24 hle11 S28 => .inl (run_load1 rfl rfl Try.underlying3 rfl (S28.suf.boxc (i := 0) rfl rfl))) ?_
         refine wa_only (i := 8) 2 rfl (by kernel_rfl) rfl rfl (fun w26 S30 => ?_)
         refine (wo_buildSliceN (C := cdInt) (l := [_, _]) (pl := [(0, 1), (1, 1)]) rfl rfl rfl rfl sl33 rfl rfl rfl rfl rfl S30 ?_)
         intro gb6 w28 S32; clear S30
         refine LeftW.grow [_] (Hp.le_refl _) S32 ?_; clear S32
         change WA _ _ _ _ _ _ _ _ _ _ _ _ [_, _, _, _, _, _]
         refine wa_only (i := 9) 1 rfl (by kernel_rfl) rfl rfl (fun w30 S34 => ?_)
         have S36 := S34.boxrow (C := cdInt) [ga (sk.nu.set (nbC d c k) (sk.od.length : Int)) (nbC d c k), (nbS d c k : Int)] (i := 0) (H' := [_, _, _, _, _, _]) rfl rfl (by simp) rfl; clear S34
         obtain ⟨M13, hle14, S35, ⟨_, _, eE, hr1⟩⟩ := S36.pubrow (i := 0) (H' := [_, _, _, _, _, _]) rfl rfl (by show 2 * _ ≤ _; decide); clear S36; injection eE with eE1 _ eE2; subst eE1; subst eE2
         replace hdcrs := hdcrs.mono (Hp.un_mono hle14 S35.mx)
         refine (wo_appendM (C := cdInt) (i := 2) rfl rfl rfl rfl rfl rfl rfl rfl sl33 S35 rfl hr1 S35.m (by show (_ + _) * 8 ≤ _; first | omega | (simp only [lens]; omega)) ?_)
         intro vrk2 w31 S37; clear S35
         change SH _ _ _ [_, _, Rs.row cdInt vrk2 (sk.co ++ ([ga (sk.nu.set (nbC d c k) (sk.od.length : Int)) (nbC d c k), (nbS d c k : Int)])), _, _, _] at S37
         refine LeftW.turn (by kernel_rfl) S37 ?_; clear S37
         change WA _ _ _ _ _ _ _ _ _ _ _ _ [_, _, _, _, _, _]
         refine wa_takeP (i := 10) (d := 9) 0 rfl (by kernel_rfl) (by kernel_rfl) (by kernel_rfl) rfl rfl rfl (fun w32 => run_assign rfl rfl) ?_
         refine wa_end (by kernel_rfl) (fun w33 S39 => ?_)
         refine nm_blk ?_
         refine nm_sub [(2, _), (6, _), (8, _), (9, _), (10, _), (11, _), (12, _)] ⟨rfl, rfl, rfl, rfl, rfl, rfl, rfl, trivial⟩ ?_
         refine nm_thn ?_
         have hrc3 : sk.co ++ ([ga (sk.nu.set (nbC d c k) (sk.od.length : Int)) (nbC d c k), (nbS d c k : Int)]) = (cfS d c sk k).co := by first | (rw [hS]; done) | (rw [hS, ga_set _ _ _ _ (by omega), if_pos rfl])
         rw [hrc3] at S39; clear hrc3
         have hrc4 : sk.od ++ [(nbC d c k : Int)] = (cfS d c sk k).od := by rw [hS]
         rw [hrc4] at S39; clear hrc4
         have hrc5 : sk.nu.set (nbC d c k) (sk.od.length : Int) = (cfS d c sk k).nu := by rw [hS]
         rw [hrc5] at S39; clear hrc5
         refine ws_region rfl ?_
         refine wlm 0 1 rfl rfl rfl rfl rfl rfl rfl ?_
         refine wlo 1 2 rfl rfl rfl (wo_run rfl rfl (run_add rfl rfl rfl (by first | omega | (simp only [lens]; omega))) ?_)
         refine wla 2 3 rfl rfl rfl rfl rfl rfl rfl ?_
         refine wl_end rfl ?_
         refine nm_lp ?_
         intro ax_ hax_
         refine ⟨_, ?hq5m, ⟨k + 1, (cfS d c sk k), _, _, _, _, (hle3.trans hle14), rfl, hax_.sub ⟨rfl, rfl, rfl, rfl, rfl, rfl, rfl, trivial⟩, S39.pick [2, 3, 4, 5] [_, _, _, _] (by decide) ⟨rfl, rfl, rfl, rfl, trivial⟩, ?hq5f0, ?hq5f1, ?hq5f2, ?hq5f3, ?hq5f4⟩⟩
         case hq5f0 => omega
         case hq5f1 => (rw [hsk]; rfl)
         case hq5f2 => exact (cfS_ok hab hck hcl hcp (by omega)).1
         case hq5f3 => exact hcm.trans (cfS_ok hab hck hcl hcp (by omega)).2.1
         case hq5f4 => (rw [(cfS_ok hab hck hcl hcp (by omega)).2.2.2]; omega)
         case hq5m => omega
        ·replace hb68 := of_decide_eq_false hb68
         have hS : cfS d c sk k = ⟨sk.nu, sk.od, sk.co ++ [ga sk.nu (nbC d c k), (nbS d c k : Int)]⟩ := by unfold cfS; rw [if_neg hb68]
         refine ws_skip rfl ?_
         refine nm_sub [(2, _), (6, _), (8, _), (9, _), (10, _), (11, _), (12, _), (13, _)] ⟨rfl, rfl, rfl, rfl, rfl, rfl, rfl, rfl, trivial⟩ ?_
         refine nm_thn ?_
         refine ws_draw rfl (by kernel_rfl) S16 11 rfl ?_
         clear S16
         refine wa_takeP (i := 0) (d := 80) 10 rfl (by kernel_rfl) (by kernel_rfl) (by kernel_rfl) rfl rfl rfl (fun w34 => run_move rfl rfl) ?_
         refine wa_takeP (i := 1) (d := 81) 9 rfl (by kernel_rfl) (by kernel_rfl) (by kernel_rfl) rfl rfl rfl (fun w35 => run_move rfl rfl) ?_
         refine wa_takeP (i := 2) (d := 82) 8 rfl (by kernel_rfl) (by kernel_rfl) (by kernel_rfl) rfl rfl rfl (fun w36 => run_fieldAddr rfl rfl Try.underlying61 rfl (ce3) (nf3)) ?_
         refine wa_take (i := 3) (d := 83) 7 rfl (by kernel_rfl) (by kernel_rfl) (by kernel_rfl) rfl rfl rfl (fun M18 N15 w37 hle19 S43 => .inl (run_load1 rfl rfl Try.underlying3 rfl (S43.suf.boxc (i := 0) rfl rfl))) ?_
         refine wa_take (i := 4) (d := 84) 6 rfl (by kernel_rfl) (by kernel_rfl) (by kernel_rfl) rfl rfl rfl (fun M19 N16 w38 hle20 S44 => .inl (run_indexR (C := cdInt) (i := 3) (nbC d c k) rfl rfl rfl sl33 S44.suf rfl (by first | rfl | omega) (by first | omega | (simp only [lens]; omega)))) ?_
         refine wa_take (i := 5) (d := 85) 5 rfl (by kernel_rfl) (by kernel_rfl) (by kernel_rfl) rfl rfl rfl (fun M20 N17 w39 hle21 S45 => .inl (run_load1 rfl rfl Try.underlying3 rfl (S45.suf.rowc (i := 3) (e := nbC d c k) (j := 0) rfl (by first | omega | (simp only [lens]; omega)) rfl rfl))) ?_
         refine wa_takeP (i := 6) (d := 86) 4 rfl (by kernel_rfl) (by kernel_rfl) (by kernel_rfl) rfl rfl rfl (fun w40 => run_fieldAddr rfl rfl Try.underlying61 rfl (ce3) (nf3)) ?_
         refine wa_take (i := 7) (d := 87) 3 rfl (by kernel_rfl) (by kernel_rfl) (by kernel_rfl) rfl rfl rfl (fun M22 N19 w41 hle23 S47 => .inl (run_load1 rfl rfl Try.underlying3 rfl (S47.suf.boxc (i := 0) rfl rfl))) ?_
         refine wa_only (i := 8) 2 rfl (by kernel_rfl) rfl rfl (fun w43 S49 => ?_)
         refine (wo_buildSliceN (C := cdInt) (l := [_, _]) (pl := [(0, 1), (1, 1)]) rfl rfl rfl rfl sl33 rfl rfl rfl rfl rfl S49 ?_)
         intro gb7 w45 S51; clear S49
         refine LeftW.grow [_] (Hp.le_refl _) S51 ?_; clear S51
         change WA _ _ _ _ _ _ _ _ _ _ _ _ [_, _, _, _, _, _]
         refine wa_only (i := 9) 1 rfl (by kernel_rfl) rfl rfl (fun w47 S53 => ?_)
         have S55 := S53.boxrow (C := cdInt) [ga sk.nu (nbC d c k), (nbS d c k : Int)] (i := 0) (H' := [_, _, _, _, _, _]) rfl rfl (by simp) rfl; clear S53
         obtain ⟨M25, hle26, S54, ⟨_, _, eE, hr2⟩⟩ := S55.pubrow (i := 0) (H' := [_, _, _, _, _, _]) rfl rfl (by show 2 * _ ≤ _; decide); clear S55; injection eE with eE1 _ eE2; subst eE1; subst eE2
         replace hdcrs := hdcrs.mono (Hp.un_mono hle26 S54.mx)
         refine (wo_appendM (C := cdInt) (i := 2) rfl rfl rfl rfl rfl rfl rfl rfl sl33 S54 rfl hr2 S54.m (by show (_ + _) * 8 ≤ _; first | omega | (simp only [lens]; omega)) ?_)
         intro vrk3 w48 S56; clear S54
         change SH _ _ _ [_, _, Rs.row cdInt vrk3 (sk.co ++ ([ga sk.nu (nbC d c k), (nbS d c k : Int)])), _, _, _] at S56
         refine LeftW.turn (by kernel_rfl) S56 ?_; clear S56
         change WA _ _ _ _ _ _ _ _ _ _ _ _ [_, _, _, _, _, _]
         refine wa_takeP (i := 10) (d := 9) 0 rfl (by kernel_rfl) (by kernel_rfl) (by kernel_rfl) rfl rfl rfl (fun w49 => run_assign rfl rfl) ?_
         refine wa_end (by kernel_rfl) (fun w50 S58 => ?_)
         refine nm_blk ?_
         refine nm_sub [(2, _), (6, _), (8, _), (9, _), (10, _), (11, _), (12, _)] ⟨rfl, rfl, rfl, rfl, rfl, rfl, rfl, trivial⟩ ?_
         refine nm_thn ?_
         have hrc6 : sk.co ++ ([ga sk.nu (nbC d c k), (nbS d c k : Int)]) = (cfS d c sk k).co := by first | (rw [hS]; done) | (rw [hS, ga_set _ _ _ _ (by omega), if_pos rfl])
         rw [hrc6] at S58; clear hrc6
         have hrc7 : sk.od = (cfS d c sk k).od := by rw [hS]
         rw [hrc7] at S58; clear hrc7
         have hrc8 : sk.nu = (cfS d c sk k).nu := by rw [hS]
         rw [hrc8] at S58; clear hrc8
         refine ws_region rfl ?_
         refine wlm 0 1 rfl rfl rfl rfl rfl rfl rfl ?_
         refine wlo 1 2 rfl rfl rfl (wo_run rfl rfl (run_add rfl rfl rfl (by first | omega | (simp only [lens]; omega))) ?_)
         refine wla 2 3 rfl rfl rfl rfl rfl rfl rfl ?_
         refine wl_end rfl ?_
         refine nm_lp ?_
         intro ax_ hax_
         refine ⟨_, ?hq6m, ⟨k + 1, (cfS d c sk k), _, _, _, _, (hle3.trans hle26), rfl, hax_.sub ⟨rfl, rfl, rfl, rfl, rfl, rfl, rfl, trivial⟩, S58.pick [2, 3, 4, 5] [_, _, _, _] (by decide) ⟨rfl, rfl, rfl, rfl, trivial⟩, ?hq6f0, ?hq6f1, ?hq6f2, ?hq6f3, ?hq6f4⟩⟩
         case hq6f0 => omega
         case hq6f1 => (rw [hsk]; rfl)
         case hq6f2 => exact (cfS_ok hab hck hcl hcp (by omega)).1
         case hq6f3 => exact hcm.trans (cfS_ok hab hck hcl hcp (by omega)).2.1
         case hq6f4 => (rw [(cfS_ok hab hck hcl hcp (by omega)).2.2.2]; omega)
         case hq6m => omega
       ·replace hb55 := of_decide_eq_false hb55
        refine ws_exit rfl rfl ?_
        refine nm_blk ?_
        refine nm_sub [(2, _), (6, _), (8, _), (9, _), (10, _)] ⟨rfl, rfl, rfl, rfl, rfl, trivial⟩ ?_
        refine nm_thn ?_
        refine ws_region rfl ?_
        refine wlm 0 1 rfl rfl rfl rfl rfl rfl rfl ?_
        refine wlo 1 2 rfl rfl rfl (wo_run rfl rfl (run_add rfl rfl rfl (by first | omega | (simp only [lens]; omega))) ?_)
        refine wla 2 3 rfl rfl rfl rfl rfl rfl rfl ?_
        refine wl_end rfl ?_
        refine nm_lp ?_
        intro ax_ hax_
        refine ⟨_, ?hq7m, ⟨i + 1, sk, _, _, _, _, (hle2.trans hle3), rfl, hax_.sub ⟨rfl, rfl, rfl, rfl, rfl, trivial⟩, S13.pick [0, 1, 2, 3] [_, _, _, _] (by decide) ⟨rfl, rfl, rfl, rfl, trivial⟩, ?hq7f0, ?hq7f1, ?hq7f2, ?hq7f3⟩⟩
        case hq7f0 => (have := hcm.len; replace this : sc.od.length ≤ sk.od.length := this; omega)
        case hq7f1 => (obtain rfl : k = 4 := (by omega); rw [cfN, ← hsn, if_pos (by omega)]; unfold cfG; rw [hcn, Int.toNat_natCast, hsk])
        case hq7f2 => exact hck
        case hq7f3 => (have := hckl; omega)
        case hq7m => omega
     ·refine ws_region rfl ?_
      refine wlm 0 1 rfl rfl rfl rfl rfl rfl rfl ?_
      refine wlo 1 2 rfl rfl rfl (wo_buildSlice1 (C := cdInt) (l := [_]) rfl rfl rfl rfl sl33 rfl rfl rfl rfl S9 ?_)
      intro gb8 w51 S59; clear S9
      refine wlo 2 3 rfl rfl rfl (wo_append1 (C := cdInt) (i := 1) (q := 0) 0 rfl rfl rfl rfl rfl rfl rfl rfl sl33 S59 rfl rfl rfl (by show (_ + 1) * 8 ≤ _; first | omega | (simp only [lens]; omega)) ?_)
      intro vrk4 w52 S60; clear S59
      have S61 := S60.pick [1, 2, 3, 4] [_, _, _, _] (by decide) ⟨rfl, rfl, rfl, rfl, trivial⟩; clear S60
      refine wla 3 4 rfl rfl rfl rfl rfl rfl rfl ?_
      refine wl_end rfl ?_
      refine nm_sub [(2, _), (6, _), (8, _), (9, _), (10, _), (11, _)] ⟨rfl, rfl, rfl, rfl, rfl, rfl, trivial⟩ ?_
      refine nm_thn ?_
      refine ws_seqN codeFrom_n49 codeFrom_n50 rfl rfl rfl ?_
      have hrc9 : sc.co ++ [0] = (sc.co ++ [plI (ga d.crs c)]) := by unfold plI; first | (rw [if_pos (by assumption)]) | (rw [if_neg (by simp [*])])
      rw [hrc9] at S61; clear hrc9
      refine ws_region rfl ?_
      refine wla 0 1 rfl rfl rfl rfl rfl rfl rfl ?_
      refine wl_end rfl ?_
      refine nm_thn ?_
      refine ws_blockN codeFrom_n51 4 rfl rfl rfl ?_
      refine ws_loopE (fun mx_ ax_ wx_ => ∃ (k : Nat) (sk : Cf) (vrn2 : Value) (vro2 : Value) (vrk2 : Value) (M27 : Hp), M1.le M27 ∧ mx_ = 4 - k ∧ Env 92 [(2, .pointer (some ⟨gb1, 0, none⟩)), (6, vrn2), (8, vro2), (9, vrk2), (10, .int .i64 (i : Int)), (11, .int .i64 (c : Int)), (12, .int .i64 (k : Int))] ax_ ∧ SH wx_ M27 X [Rs.row cdInt vrk2 sk.co, Rs.row cdInt vro2 sk.od, Rs.row cdInt vrn2 sk.nu, Rs.box gb1 24 [.slice dcrsA d.crs.length dcrsc, .int .i64 d.loops]] ∧ k ≤ 4 ∧ sk = cfK d c ⟨sc.nu, sc.od, sc.co ++ [plI (ga d.crs c)]⟩ k ∧ CfI d st sk ∧ CfM (⟨sc.nu, sc.od, sc.co ++ [plI (ga d.crs c)]⟩ : Cf) sk ∧ sk.co.length ≤ 9 * i + 1 + 2 * k) rfl ?_ ?_
      ·intro ax_ hax_
       refine ⟨_, ⟨0, (⟨sc.nu, sc.od, sc.co ++ [plI (ga d.crs c)]⟩ : Cf), _, _, _, _, Hp.le_refl _, rfl, hax_.sub ⟨rfl, rfl, rfl, rfl, rfl, rfl, rfl, trivial⟩, S61.pick [0, 1, 2, 3] [_, _, _, _] (by decide) ⟨rfl, rfl, rfl, rfl, trivial⟩, ?hq8f0, ?hq8f1, ?hq8f2, ?hq8f3, ?hq8f4⟩⟩
       case hq8f0 => omega
       case hq8f1 => rfl
       case hq8f2 => exact ⟨hci.nl, hci.od, hci.nu, hci.pc, hci.sn, hci.ps⟩
       case hq8f3 => exact CfM.refl _
       case hq8f4 => (rw [List.length_append]; show _ + 1 ≤ _; omega)
      ·rintro m4 a4 w53 ⟨k, sk, vrn2, vro2, vrk2, M27, hle28, rfl, he4, S62, hk, hsk, hck, hcm, hckl⟩
       clear S61
       refine ws_in he4 (c := codeFrom_n52) rfl ?_
       clear he4 a4
       replace hdcrs := hdcrs.mono (Hp.un_mono hle28 S62.mx)
       have hqle2 := hck.le
       have hnb := fun (h : k < 4) => nbC_lt hab hcl h
       have hck1 := hck.nl
       refine ws_seqN codeFrom_n53 codeFrom_n54 rfl rfl rfl ?_
       refine ws_seqN codeFrom_n55 codeFrom_n56 rfl rfl rfl ?_
       refine ws_region rfl ?_
       refine wlm 0 1 rfl rfl rfl rfl rfl rfl rfl ?_
       refine wlo 1 2 rfl rfl rfl (wo_run rfl rfl (run_lss rfl rfl rfl) ?_)
       refine wl_end rfl ?_
       refine nm_sub [(2, _), (6, _), (8, _), (9, _), (10, _), (11, _), (12, _), (55, _)] ⟨rfl, rfl, rfl, rfl, rfl, rfl, rfl, rfl, trivial⟩ ?_
       refine nm_thn ?_
       refine ws_condN codeFrom_n57 codeFrom_n58 rfl rfl rfl rfl (fun hb55 => ?_) (fun hb55 => ?_)
       ·replace hb55 := of_decide_eq_true hb55
        refine ws_skip rfl ?_
        refine nm_sub [(2, _), (6, _), (8, _), (9, _), (10, _), (11, _), (12, _)] ⟨rfl, rfl, rfl, rfl, rfl, rfl, rfl, trivial⟩ ?_
        refine nm_thn ?_
        refine ws_seqN codeFrom_n59 codeFrom_n60 rfl rfl rfl ?_
        refine ws_blockN codeFrom_n61 5 rfl rfl rfl ?_
        refine ws_seqN codeFrom_n62 codeFrom_n63 rfl rfl rfl ?_
        refine ws_region rfl ?_
        refine wlo 0 1 rfl rfl rfl (wo_run rfl rfl (run_loadN (us := [_, _]) rfl rfl Try.underlying24 rfl sz24 (S62.boxcs (i := 3) rfl ⟨rfl, rfl, trivial⟩)) ?_)
        refine wlm 1 2 rfl rfl rfl rfl rfl rfl rfl ?_
        refine wlm 2 3 rfl rfl rfl rfl rfl rfl rfl ?_
        refine wlo 3 4 rfl rfl rfl (wo_run rfl rfl (run_build (l := [_, _]) rfl rfl st61 rfl rfl) ?_)
        refine wlo 4 5 rfl rfl rfl (wo_cq rfl rfl rfl rfl rfl rfl rfl cf69 S62 (otherEnd_q d c k (hdcrs.mono S62.un_XH) (hab) (hcl) ((by omega)) S62.lend) ?_)
        rintro _ w54 S63 rfl; clear S62
        refine wlo 5 6 rfl rfl rfl (wo_alloc (l := [_, _]) rfl rfl rfl zr61 rfl S63 ?_)
        intro gb9 w55 S64; clear S63
        refine wlo 6 7 rfl rfl rfl (wo_storeB (i := 0) (us := [_, _]) (l' := [_, _]) (H' := [_, _, _, _, _]) rfl rfl S64 rfl rfl rfl rfl sz61 rfl rfl rfl rfl ?_)
        intro w56 S65; clear S64
        refine wl_end rfl ?_
        refine nm_sub [(2, _), (6, _), (8, _), (9, _), (10, _), (11, _), (12, _), (13, _)] ⟨rfl, rfl, rfl, rfl, rfl, rfl, rfl, rfl, trivial⟩ ?_
        refine nm_thn ?_
        refine ws_seqN codeFrom_n64 codeFrom_n65 rfl rfl rfl ?_
        refine ws_seqN codeFrom_n66 codeFrom_n67 rfl rfl rfl ?_
        refine ws_region rfl ?_
        refine wlm 0 1 rfl rfl rfl rfl rfl rfl rfl ?_
        refine wlo 1 2 rfl rfl rfl (wo_run rfl rfl (run_fieldAddr rfl rfl Try.underlying61 rfl (ce3) (nf3)) ?_)
        refine wlo 2 3 rfl rfl rfl (wo_run rfl rfl (run_load1 rfl rfl Try.underlying3 rfl (S65.boxc (i := 0) rfl rfl)) ?_)
        have hnb9 := hnb (by omega)
        refine wlo 3 4 rfl rfl rfl (wo_run rfl rfl (run_indexR (C := cdInt) (i := 3) (nbC d c k) rfl rfl rfl sl33 S65 rfl (by first | rfl | omega) (by first | omega | (simp only [lens]; omega))) ?_)
        refine wlo 4 5 rfl rfl rfl (wo_run rfl rfl (run_load1 rfl rfl Try.underlying3 rfl (S65.rowc (i := 3) (e := nbC d c k) (j := 0) rfl (by first | omega | (simp only [lens]; omega)) rfl rfl)) ?_)
        refine wlo 5 6 rfl rfl rfl (wo_run rfl rfl (run_lss rfl rfl rfl) ?_)
        refine wl_end rfl ?_
        refine nm_sub [(2, _), (6, _), (8, _), (9, _), (10, _), (11, _), (12, _), (13, _), (68, _)] ⟨rfl, rfl, rfl, rfl, rfl, rfl, rfl, rfl, rfl, trivial⟩ ?_
        refine nm_thn ?_
        refine ws_condN codeFrom_n68 codeFrom_n69 rfl rfl rfl rfl (fun hb68 => ?_) (fun hb68 => ?_)
        ·replace hb68 := of_decide_eq_true hb68
         have hS : cfS d c sk k = ⟨sk.nu.set (nbC d c k) (sk.od.length : Int), sk.od ++ [(nbC d c k : Int)], sk.co ++ [(sk.od.length : Int), (nbS d c k : Int)]⟩ := by unfold cfS; rw [if_pos hb68]
         refine ws_seqN codeFrom_n70 codeFrom_n71 rfl rfl rfl ?_
         refine ws_region rfl ?_
         refine wlm 0 1 rfl rfl rfl rfl rfl rfl rfl ?_
         refine wlo 1 2 rfl rfl rfl (wo_run rfl rfl (run_fieldAddr rfl rfl Try.underlying61 rfl (ce3) (nf3)) ?_)
         refine wlo 2 3 rfl rfl rfl (wo_run rfl rfl (run_load1 rfl rfl Try.underlying3 rfl (S65.boxc (i := 0) rfl rfl)) ?_)
         refine wlm 3 4 rfl rfl rfl rfl rfl rfl rfl ?_
         refine wlo 4 5 rfl rfl rfl (wo_run rfl rfl (run_lenR (C := cdInt) (i := 2) rfl rfl rfl rfl rfl rfl sl33 S65 rfl) ?_)
         refine wlo 5 6 rfl rfl rfl (wo_run rfl rfl (run_indexR (C := cdInt) (i := 3) (nbC d c k) rfl rfl rfl sl33 S65 rfl (by first | rfl | omega) (by first | omega | (simp only [lens]; omega))) ?_)
         refine wlo 6 7 rfl rfl rfl (wo_storeR (C := cdInt) (i := 3) (e := nbC d c k) (j := 0) (us := [_]) (H' := [_, _, _, _, _]) (sk.od.length : Int) rfl rfl S65 rfl (by first | omega | (simp only [lens]; omega)) rfl rfl rfl sz3 rfl rfl rfl rfl ?_)
         intro w57 S66; clear S65
         refine wl_end rfl ?_
         refine nm_sub [(2, _), (6, _), (8, _), (9, _), (10, _), (11, _), (12, _), (13, _)] ⟨rfl, rfl, rfl, rfl, rfl, rfl, rfl, rfl, trivial⟩ ?_
         refine nm_thn ?_
         refine ws_region rfl ?_
         refine wlm 0 1 rfl rfl rfl rfl rfl rfl rfl ?_
         refine wlo 1 2 rfl rfl rfl (wo_run rfl rfl (run_fieldAddr rfl rfl Try.underlying61 rfl (ce3) (nf3)) ?_)
         refine wlo 2 3 rfl rfl rfl (wo_run rfl rfl (run_load1 rfl rfl Try.underlying3 rfl (S66.boxc (i := 0) rfl rfl)) ?_)
         refine wlo 3 4 rfl rfl rfl (wo_buildSlice1 (C := cdInt) (l := [_]) rfl rfl rfl rfl sl33 rfl rfl rfl rfl S66 ?_)
         intro gb10 w58 S67; clear S66
         refine wlo 4 5 rfl rfl rfl (wo_append1 (C := cdInt) (i := 3) (q := 0) (nbC d c k : Int) rfl rfl rfl rfl rfl rfl rfl rfl sl33 S67 rfl rfl rfl (by show (_ + 1) * 8 ≤ _; first | omega | (simp only [lens]; omega)) ?_)
         intro vro2 w59 S68; clear S67
         have S69 := S68.pick [1, 2, 3, 4, 5] [_, _, _, _, _] (by decide) ⟨rfl, rfl, rfl, rfl, rfl, trivial⟩; clear S68
         refine wla 5 6 rfl rfl rfl rfl rfl rfl rfl ?_
         refine wl_end rfl ?_
         refine nm_sub [(2, _), (6, _), (8, _), (9, _), (10, _), (11, _), (12, _), (13, _)] ⟨rfl, rfl, rfl, rfl, rfl, rfl, rfl, rfl, trivial⟩ ?_
         refine nm_thn ?_
         refine ws_draw rfl (by kernel_rfl) S69 11 rfl ?_
         clear S69
         refine wa_takeP (i := 0) (d := 80) 10 rfl (by kernel_rfl) (by kernel_rfl) (by kernel_rfl) rfl rfl rfl (fun w60 => run_move rfl rfl) ?_
         refine wa_takeP (i := 1) (d := 81) 9 rfl (by kernel_rfl) (by kernel_rfl) (by kernel_rfl) rfl rfl rfl (fun w61 => run_move rfl rfl) ?_
         refine wa_takeP (i := 2) (d := 82) 8 rfl (by kernel_rfl) (by kernel_rfl) (by kernel_rfl) rfl rfl rfl (fun w62 => run_fieldAddr rfl rfl Try.underlying61 rfl (ce3) (nf3)) ?_
         refine wa_take (i := 3) (d := 83) 7 rfl (by kernel_rfl) (by kernel_rfl) (by kernel_rfl) rfl rfl rfl (fun M31 N26 w63 hle32 S73 => .inl (run_load1 rfl rfl Try.underlying3 rfl (S73.suf.boxc (i := 0) rfl rfl))) ?_
         refine wa_take (i := 4) (d := 84) 6 rfl (by kernel_rfl) (by kernel_rfl) (by kernel_rfl) rfl rfl rfl (fun M32 N27 w64 hle33 S74 => .inl (run_indexR (C := cdInt) (i := 3) (nbC d c k) rfl rfl rfl sl33 S74.suf rfl (by first | rfl | omega) (by first | omega | (simp only [lens]; omega)))) ?_
         refine wa_take (i := 5) (d := 85) 5 rfl (by kernel_rfl) (by kernel_rfl) (by kernel_rfl) rfl rfl rfl (fun M33 N28 w65 hle34 S75 => .inl (run_load1 rfl rfl Try.underlying3 rfl (S75.suf.rowc (i := 3) (e := nbC d c k) (j := 0) rfl (by first | omega | (simp only [lens]; omega)) rfl rfl))) ?_
         refine wa_takeP (i := 6) (d := 86) 4 rfl (by kernel_rfl) (by kernel_rfl) (by kernel_rfl) rfl rfl rfl (fun w66 => run_fieldAddr rfl rfl Try.underlying61 rfl (ce3) (nf3)) ?_
         refine wa_take (i := 7) (d := 87) 3 rfl (by kernel_rfl) (by kernel_rfl) (by kernel_rfl) rfl rfl rfl (fun M35 N30 w67 hle36 S77 => .inl (run_load1 rfl rfl Try.underlying3 rfl (S77.suf.boxc (i := 0) rfl rfl))) ?_
         refine wa_only (i := 8) 2 rfl (by kernel_rfl) rfl rfl (fun w69 S79 => ?_)
         refine (wo_buildSliceN (C := cdInt) (l := [_, _]) (pl := [(0, 1), (1, 1)]) rfl rfl rfl rfl sl33 rfl rfl rfl rfl rfl S79 ?_)
         intro gb11 w71 S81; clear S79
         refine LeftW.grow [_] (Hp.le_refl _) S81 ?_; clear S81
         change WA _ _ _ _ _ _ _ _ _ _ _ _ [_, _, _, _, _, _]
         refine wa_only (i := 9) 1 rfl (by kernel_rfl) rfl rfl (fun w73 S83 => ?_)
         have S85 := S83.boxrow (C := cdInt) [ga (sk.nu.set (nbC d c k) (sk.od.length : Int)) (nbC d c k), (nbS d c k : Int)] (i := 0) (H' := [_, _, _, _, _, _]) rfl rfl (by simp) rfl; clear S83
         obtain ⟨M38, hle39, S84, ⟨_, _, eE, hr3⟩⟩ := S85.pubrow (i := 0) (H' := [_, _, _, _, _, _]) rfl rfl (by show 2 * _ ≤ _; decide); clear S85; injection eE with eE1 _ eE2; subst eE1; subst eE2
         replace hdcrs := hdcrs.mono (Hp.un_mono hle39 S84.mx)
         refine (wo_appendM (C := cdInt) (i := 2) rfl rfl rfl rfl rfl rfl rfl rfl sl33 S84 rfl hr3 S84.m (by show (_ + _) * 8 ≤ _; first | omega | (simp only [lens]; omega)) ?_)
         intro vrk5 w74 S86; clear S84
         change SH _ _ _ [_, _, Rs.row cdInt vrk5 (sk.co ++ ([ga (sk.nu.set (nbC d c k) (sk.od.length : Int)) (nbC d c k), (nbS d c k : Int)])), _, _, _] at S86
         refine LeftW.turn (by kernel_rfl) S86 ?_; clear S86
         change WA _ _ _ _ _ _ _ _ _ _ _ _ [_, _, _, _, _, _]
         refine wa_takeP (i := 10) (d := 9) 0 rfl (by kernel_rfl) (by kernel_rfl) (by kernel_rfl) rfl rfl rfl (fun w75 => run_assign rfl rfl) ?_
         refine wa_end (by kernel_rfl) (fun w76 S88 => ?_)
         refine nm_blk ?_
         refine nm_sub [(2, _), (6, _), (8, _), (9, _), (10, _), (11, _), (12, _)] ⟨rfl, rfl, rfl, rfl, rfl, rfl, rfl, trivial⟩ ?_
         refine nm_thn ?_
         have hrc10 : sk.co ++ ([ga (sk.nu.set (nbC d c k) (sk.od.length : Int)) (nbC d c k), (nbS d c k : Int)]) = (cfS d c sk k).co := by first | (rw [hS]; done) | (rw [hS, ga_set _ _ _ _ (by omega), if_pos rfl])
         rw [hrc10] at S88; clear hrc10
         have hrc11 : sk.od ++ [(nbC d c k : Int)] = (cfS d c sk k).od := by rw [hS]
         rw [hrc11] at S88; clear hrc11
         have hrc12 : sk.nu.set (nbC d c k) (sk.od.length : Int) = (cfS d c sk k).nu := by rw [hS]
         rw [hrc12] at S88; clear hrc12
         refine ws_region rfl ?_
         refine wlm 0 1 rfl rfl rfl rfl rfl rfl rfl ?_
         refine wlo 1 2 rfl rfl rfl (wo_run rfl rfl (run_add rfl rfl rfl (by first | omega | (simp only [lens]; omega))) ?_)
         refine wla 2 3 rfl rfl rfl rfl rfl rfl rfl ?_
         refine wl_end rfl ?_
         refine nm_lp ?_
         intro ax_ hax_
         refine ⟨_, ?hq9m, ⟨k + 1, (cfS d c sk k), _, _, _, _, (hle28.trans hle39), rfl, hax_.sub ⟨rfl, rfl, rfl, rfl, rfl, rfl, rfl, trivial⟩, S88.pick [2, 3, 4, 5] [_, _, _, _] (by decide) ⟨rfl, rfl, rfl, rfl, trivial⟩, ?hq9f0, ?hq9f1, ?hq9f2, ?hq9f3, ?hq9f4⟩⟩
         case hq9f0 => omega
         case hq9f1 => (rw [hsk]; rfl)
         case hq9f2 => exact (cfS_ok hab hck hcl hcp (by omega)).1
         case hq9f3 => exact hcm.trans (cfS_ok hab hck hcl hcp (by omega)).2.1
         case hq9f4 => (rw [(cfS_ok hab hck hcl hcp (by omega)).2.2.2]; omega)
         case hq9m => omega
        ·replace hb68 := of_decide_eq_false hb68
         have hS : cfS d c sk k = ⟨sk.nu, sk.od, sk.co ++ [ga sk.nu (nbC d c k), (nbS d c k : Int)]⟩ := by unfold cfS; rw [if_neg hb68]
         refine ws_skip rfl ?_
         refine nm_sub [(2, _), (6, _), (8, _), (9, _), (10, _), (11, _), (12, _), (13, _)] ⟨rfl, rfl, rfl, rfl, rfl, rfl, rfl, rfl, trivial⟩ ?_
         refine nm_thn ?_
         refine ws_draw rfl (by kernel_rfl) S65 11 rfl ?_
         clear S65
         refine wa_takeP (i := 0) (d := 80) 10 rfl (by kernel_rfl) (by kernel_rfl) (by kernel_rfl) rfl rfl rfl (fun w77 => run_move rfl rfl) ?_
         refine wa_takeP (i := 1) (d := 81) 9 rfl (by kernel_rfl) (by kernel_rfl) (by kernel_rfl) rfl rfl rfl (fun w78 => run_move rfl rfl) ?_
         refine wa_takeP (i := 2) (d := 82) 8 rfl (by kernel_rfl) (by kernel_rfl) (by kernel_rfl) rfl rfl rfl (fun w79 => run_fieldAddr rfl rfl Try.underlying61 rfl (ce3) (nf3)) ?_
         refine wa_take (i := 3) (d := 83) 7 rfl (by kernel_rfl) (by kernel_rfl) (by kernel_rfl) rfl rfl rfl (fun M43 N37 w80 hle44 S92 => .inl (run_load1 rfl rfl Try.underlying3 rfl (S92.suf.boxc (i := 0) rfl rfl))) ?_
         refine wa_take (i := 4) (d := 84) 6 rfl (by kernel_rfl) (by kernel_rfl) (by kernel_rfl) rfl rfl rfl (fun M44 N38 w81 hle45 S93 => .inl (run_indexR (C := cdInt) (i := 3) (nbC d c k) rfl rfl rfl sl33 S93.suf rfl (by first | rfl | omega) (by first | omega | (simp only [lens]; omega)))) ?_
         refine wa_take (i := 5) (d := 85) 5 rfl (by kernel_rfl) (by kernel_rfl) (by kernel_rfl) rfl rfl rfl (fun M45 N39 w82 hle46 S94 => .inl (run_load1 rfl rfl Try.underlying3 rfl (S94.suf.rowc (i := 3) (e := nbC d c k) (j := 0) rfl (by first | omega | (simp only [lens]; omega)) rfl rfl))) ?_
         refine wa_takeP (i := 6) (d := 86) 4 rfl (by kernel_rfl) (by kernel_rfl) (by kernel_rfl) rfl rfl rfl (fun w83 => run_fieldAddr rfl rfl Try.underlying61 rfl (ce3) (nf3)) ?_
         refine wa_take (i := 7) (d := 87) 3 rfl (by kernel_rfl) (by kernel_rfl) (by kernel_rfl) rfl rfl rfl (fun M47 N41 w84 hle48 S96 => .inl (run_load1 rfl rfl Try.underlying3 rfl (S96.suf.boxc (i := 0) rfl rfl))) ?_
         refine wa_only (i := 8) 2 rfl (by kernel_rfl) rfl rfl (fun w86 S98 => ?_)
         refine (wo_buildSliceN (C := cdInt) (l := [_, _]) (pl := [(0, 1), (1, 1)]) rfl rfl rfl rfl sl33 rfl rfl rfl rfl rfl S98 ?_)
         intro gb12 w88 S100; clear S98
         refine LeftW.grow [_] (Hp.le_refl _) S100 ?_; clear S100
         change WA _ _ _ _ _ _ _ _ _ _ _ _ [_, _, _, _, _, _]
         refine wa_only (i := 9) 1 rfl (by kernel_rfl) rfl rfl (fun w90 S102 => ?_)
         have S104 := S102.boxrow (C := cdInt) [ga sk.nu (nbC d c k), (nbS d c k : Int)] (i := 0) (H' := [_, _, _, _, _, _]) rfl rfl (by simp) rfl; clear S102
         obtain ⟨M50, hle51, S103, ⟨_, _, eE, hr4⟩⟩ := S104.pubrow (i := 0) (H' := [_, _, _, _, _, _]) rfl rfl (by show 2 * _ ≤ _; decide); clear S104; injection eE with eE1 _ eE2; subst eE1; subst eE2
         replace hdcrs := hdcrs.mono (Hp.un_mono hle51 S103.mx)
         refine (wo_appendM (C := cdInt) (i := 2) rfl rfl rfl rfl rfl rfl rfl rfl sl33 S103 rfl hr4 S103.m (by show (_ + _) * 8 ≤ _; first | omega | (simp only [lens]; omega)) ?_)
         intro vrk6 w91 S105; clear S103
         change SH _ _ _ [_, _, Rs.row cdInt vrk6 (sk.co ++ ([ga sk.nu (nbC d c k), (nbS d c k : Int)])), _, _, _] at S105
         refine LeftW.turn (by kernel_rfl) S105 ?_; clear S105
         change WA _ _ _ _ _ _ _ _ _ _ _ _ [_, _, _, _, _, _]
         refine wa_takeP (i := 10) (d := 9) 0 rfl (by kernel_rfl) (by kernel_rfl) (by kernel_rfl) rfl rfl rfl (fun w92 => run_assign rfl rfl) ?_
         refine wa_end (by kernel_rfl) (fun w93 S107 => ?_)
         refine nm_blk ?_
         refine nm_sub [(2, _), (6, _), (8, _), (9, _), (10, _), (11, _), (12, _)] ⟨rfl, rfl, rfl, rfl, rfl, rfl, rfl, trivial⟩ ?_
         refine nm_thn ?_
         have hrc13 : sk.co ++ ([ga sk.nu (nbC d c k), (nbS d c k : Int)]) = (cfS d c sk k).co := by first | (rw [hS]; done) | (rw [hS, ga_set _ _ _ _ (by omega), if_pos rfl])
         rw [hrc13] at S107; clear hrc13
         have hrc14 : sk.od = (cfS d c sk k).od := by rw [hS]
         rw [hrc14] at S107; clear hrc14
         have hrc15 : sk.nu = (cfS d c sk k).nu := by rw [hS]
         rw [hrc15] at S107; clear hrc15
         refine ws_region rfl ?_
         refine wlm 0 1 rfl rfl rfl rfl rfl rfl rfl ?_
         refine wlo 1 2 rfl rfl rfl (wo_run rfl rfl (run_add rfl rfl rfl (by first | omega | (simp only [lens]; omega))) ?_)
         refine wla 2 3 rfl rfl rfl rfl rfl rfl rfl ?_
         refine wl_end rfl ?_
         refine nm_lp ?_
         intro ax_ hax_
         refine ⟨_, ?hq10m, ⟨k + 1, (cfS d c sk k), _, _, _, _, (hle28.trans hle51), rfl, hax_.sub ⟨rfl, rfl, rfl, rfl, rfl, rfl, rfl, trivial⟩, S107.pick [2, 3, 4, 5] [_, _, _, _] (by decide) ⟨rfl, rfl, rfl, rfl, trivial⟩, ?hq10f0, ?hq10f1, ?hq10f2, ?hq10f3, ?hq10f4⟩⟩
         case hq10f0 => omega
         case hq10f1 => (rw [hsk]; rfl)
         case hq10f2 => exact (cfS_ok hab hck hcl hcp (by omega)).1
         case hq10f3 => exact hcm.trans (cfS_ok hab hck hcl hcp (by omega)).2.1
         case hq10f4 => (rw [(cfS_ok hab hck hcl hcp (by omega)).2.2.2]; omega)
         case hq10m => omega
       ·replace hb55 := of_decide_eq_false hb55
        refine ws_exit rfl rfl ?_
        refine nm_blk ?_
        refine nm_sub [(2, _), (6, _), (8, _), (9, _), (10, _)] ⟨rfl, rfl, rfl, rfl, rfl, trivial⟩ ?_
        refine nm_thn ?_
        refine ws_region rfl ?_
        refine wlm 0 1 rfl rfl rfl rfl rfl rfl rfl ?_
        refine wlo 1 2 rfl rfl rfl (wo_run rfl rfl (run_add rfl rfl rfl (by first | omega | (simp only [lens]; omega))) ?_)
        refine wla 2 3 rfl rfl rfl rfl rfl rfl rfl ?_
        refine wl_end rfl ?_
        refine nm_lp ?_
        intro ax_ hax_
        refine ⟨_, ?hq11m, ⟨i + 1, sk, _, _, _, _, (hle2.trans hle28), rfl, hax_.sub ⟨rfl, rfl, rfl, rfl, rfl, trivial⟩, S62.pick [0, 1, 2, 3] [_, _, _, _] (by decide) ⟨rfl, rfl, rfl, rfl, trivial⟩, ?hq11f0, ?hq11f1, ?hq11f2, ?hq11f3⟩⟩
        case hq11f0 => (have := hcm.len; replace this : sc.od.length ≤ sk.od.length := this; omega)
        case hq11f1 => (obtain rfl : k = 4 := (by omega); rw [cfN, ← hsn, if_pos (by omega)]; unfold cfG; rw [hcn, Int.toNat_natCast, hsk])
        case hq11f2 => exact hck
        case hq11f3 => (have := hckl; omega)
        case hq11m => omega
    ·replace hb35 := of_decide_eq_false hb35
     refine ws_exit rfl rfl ?_
     refine nm_sub [(8, _), (9, _)] ⟨rfl, rfl, trivial⟩ ?_
     refine nm_thn ?_
     refine ws_seqN codeFrom_n72 codeFrom_n73 rfl rfl rfl ?_
     refine ws_region rfl ?_
     refine wlm 0 1 rfl rfl rfl rfl rfl rfl rfl ?_
     refine wlm 1 2 rfl rfl rfl rfl rfl rfl rfl ?_
     refine wla 2 3 rfl rfl rfl rfl rfl rfl rfl ?_
     refine wla 3 4 rfl rfl rfl rfl rfl rfl rfl ?_
     refine wl_end rfl ?_
     refine nm_sub [(4, _), (5, _)] ⟨rfl, rfl, trivial⟩ ?_
     refine nm_thn ?_
     obtain ⟨M52, hle53, S108, ⟨A1, c1, e1, hr5⟩⟩ := S9.pubrow (i := 0) (H' := [_, _, _, _]) rfl rfl (by show _ * 8 ≤ _; first | omega | (simp only [lens]; omega))
     clear S9; subst e1
     replace hdcrs := hdcrs.mono (Hp.un_mono hle53 S108.mx)
     obtain ⟨M53, hle54, S109, ⟨A2, c2, e2, hr6⟩⟩ := S108.pubrow (i := 1) (H' := [_, _, _, _]) rfl rfl (by show _ * 8 ≤ _; first | omega | (simp only [lens]; omega))
     clear S108; subst e2
     replace hdcrs := hdcrs.mono (Hp.un_mono hle54 S109.mx)
     replace hr5 := hr5.mono hle54
     refine ws_ret hC [_, _] rfl rfl ⟨rfl, rfl, trivial⟩ ?_
     refine ⟨_, rfl, _, (hle2.trans hle53).trans hle54, (S109.pick [] [] (by decide) trivial), ?_⟩
     have e9 : cfE d st = sc := by unfold cfE; rw [hsn]; rw [hsn] at hqle; exact cfN_end (by rw [← hsn]; omega) _ (by rw [hsn] at hi; omega)
     rw [e9]
     exact ⟨_, _, _, _, rfl, hr5, hr6⟩
end Go.Proofs.Ytefkjfcncpmneaa
