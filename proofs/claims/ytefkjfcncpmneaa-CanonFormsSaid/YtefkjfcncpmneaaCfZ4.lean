/- Part 4 of the proof of the law CanonForms: the walks through its functions and the plain laws that they need. -/
import Derived.Test.YtefkjfcncpmneaaCfZ3
set_option linter.unusedSimpArgs false
set_option linter.unusedVariables false
namespace Go.Proofs.Ytefkjfcncpmneaa
open Go.ChangeShapes Go.WideShapes Go.ChangeAt Go.RowKit
/-- The crossing that lies across the arc at a crossing's side; the search for a piece; the pieces. -/
def nbC (d : Dg) (x k : Nat) : Nat := (endOf d (arcAt d x k) (entryB d x k)).1
def addS (s : List Bool × List Int) (y : Nat) : List Bool × List Int := if ga s.1 y = true then s else (s.1.set y true, s.2 ++ [(y : Int)])
def bfsS (d : Dg) (x : Nat) (s : List Bool × List Int) : Nat → List Bool × List Int
 | 0 => s
 | k + 1 => addS (bfsS d x s k) (nbC d x k)
def bfsN (d : Dg) : Nat → Nat → List Bool × List Int → List Bool × List Int
 | 0, _, s => s
 | f + 1, i, s => if i < s.2.length then bfsN d f (i + 1) (bfsS d (ga s.2 i).toNat s 4) else s
def pcsN (d : Dg) : Nat → List Bool × List (List Int)
 | 0 => (List.replicate d.crs.length false, [])
 | c + 1 => if ga (pcsN d c).1 c = true then pcsN d c else ((bfsN d d.crs.length 0 ((pcsN d c).1.set c true, [(c : Int)])).1, (pcsN d c).2 ++ [srt (bfsN d d.crs.length 0 ((pcsN d c).1.set c true, [(c : Int)])).2])
def pcsL (d : Dg) : List (List Int) := (pcsN d d.crs.length).2
theorem bfsN_stop {d : Dg} {f i : Nat} {s : List Bool × List Int} (h : s.2.length ≤ i) : bfsN d f i s = s := by
 cases f with
 | zero => rfl
 | succ f => rw [bfsN, if_neg (by omega)]
theorem bfsN_go {d : Dg} {f i x : Nat} {s s' : List Bool × List Int} (h : i < s.2.length) (hx : ga s.2 i = (x : Int)) (hs : bfsS d x s 4 = s') : bfsN d (f + 1) i s = bfsN d f (i + 1) s' := by
 rw [bfsN, if_pos h, hx, Int.toNat_natCast, hs]
theorem pcsN_skip {d : Dg} {c : Nat} {s : List Bool × List (List Int)} (h : pcsN d c = s) (hg : ga s.1 c = true) : pcsN d (c + 1) = s := by
 rw [pcsN, h, if_pos hg]
theorem pcsN_add {d : Dg} {c : Nat} {s : List Bool × List (List Int)} {r : List Bool × List Int} (h : pcsN d c = s) (hg : ga s.1 c = false) (hr : bfsN d d.crs.length 0 (s.1.set c true, [(c : Int)]) = r) : pcsN d (c + 1) = (r.1, s.2 ++ [srt r.2]) := by
 rw [pcsN, h, if_neg (by rw [hg]; exact Bool.false_ne_true), hr]
theorem bfsN_len (d : Dg) (f i : Nat) (s : List Bool × List Int) : (bfsN d f i s).1.length = s.1.length := by
 have h1 : ∀ x s k, (bfsS d x s k).1.length = s.1.length := fun x s k => by
  induction k with
  | zero => rfl
  | succ k ih => rw [bfsS, addS]; split <;> simp [ih]
 induction f generalizing i s with
 | zero => rfl
 | succ f ih => rw [bfsN]; split <;> simp [ih, h1]
theorem pcsN_len (d : Dg) (c : Nat) : (pcsN d c).1.length = d.crs.length := by
 induction c with
 | zero => simp [pcsN]
 | succ c ih => rw [pcsN]; split <;> simp [ih, bfsN_len]
theorem pcsN_many (d : Dg) (c : Nat) : (pcsN d c).2.length ≤ c := by
 induction c with
 | zero => simp [pcsN]
 | succ c ih => rw [pcsN]; split; exact Nat.le_succ_of_le ih; rw [List.length_append]; show _ + 1 ≤ _; omega
theorem nbC_lt {d : Dg} (h : arcsB d = true) {x k : Nat} (hx : x < d.crs.length) (hk : k < 4) : nbC d x k < d.crs.length := (endD h (arcAt_bd h hx hk) _).1
noncomputable def Pieces_n0 : Code := Try.f61.body.getD .skip
noncomputable def Pieces_n1 : Code := cL Pieces_n0
noncomputable def Pieces_n2 : Code := cR Pieces_n0
noncomputable def Pieces_n3 : Code := cL Pieces_n2
noncomputable def Pieces_n4 : Code := cR Pieces_n2
noncomputable def Pieces_n5 : Code := cL Pieces_n4
noncomputable def Pieces_n6 : Code := cR Pieces_n4
noncomputable def Pieces_n7 : Code := cL Pieces_n6
noncomputable def Pieces_n8 : Code := cR Pieces_n6
noncomputable def Pieces_n9 : Code := cL Pieces_n7
noncomputable def Pieces_n10 : Code := cR Pieces_n7
noncomputable def Pieces_n11 : Code := cL Pieces_n10
noncomputable def Pieces_n12 : Code := cL Pieces_n11
noncomputable def Pieces_n13 : Code := cL Pieces_n12
noncomputable def Pieces_n14 : Code := cR Pieces_n12
noncomputable def Pieces_n15 : Code := cL Pieces_n14
noncomputable def Pieces_n16 : Code := cR Pieces_n14
noncomputable def Pieces_n17 : Code := cL Pieces_n15
noncomputable def Pieces_n18 : Code := cR Pieces_n15
noncomputable def Pieces_n19 : Code := cL Pieces_n16
noncomputable def Pieces_n20 : Code := cR Pieces_n16
noncomputable def Pieces_n21 : Code := cL Pieces_n19
noncomputable def Pieces_n22 : Code := cL Pieces_n21
noncomputable def Pieces_n23 : Code := cR Pieces_n21
noncomputable def Pieces_n24 : Code := cL Pieces_n23
noncomputable def Pieces_n25 : Code := cR Pieces_n23
noncomputable def Pieces_n26 : Code := cL Pieces_n24
noncomputable def Pieces_n27 : Code := cR Pieces_n24
noncomputable def Pieces_n28 : Code := cL Pieces_n27
noncomputable def Pieces_n29 : Code := cR Pieces_n27
noncomputable def Pieces_n30 : Code := cL Pieces_n25
noncomputable def Pieces_n31 : Code := cR Pieces_n25
noncomputable def Pieces_n32 : Code := cL Pieces_n31
noncomputable def Pieces_n33 : Code := cR Pieces_n31
noncomputable def Pieces_n34 : Code := cL Pieces_n33
noncomputable def Pieces_n35 : Code := cR Pieces_n33
noncomputable def Pieces_n36 : Code := cL Pieces_n34
noncomputable def Pieces_n37 : Code := cR Pieces_n34
noncomputable def Pieces_n38 : Code := cL Pieces_n37
noncomputable def Pieces_n39 : Code := cL Pieces_n38
noncomputable def Pieces_n40 : Code := cL Pieces_n39
noncomputable def Pieces_n41 : Code := cR Pieces_n39
noncomputable def Pieces_n42 : Code := cL Pieces_n40
noncomputable def Pieces_n43 : Code := cR Pieces_n40
noncomputable def Pieces_n44 : Code := cL Pieces_n43
noncomputable def Pieces_n45 : Code := cR Pieces_n43
noncomputable def Pieces_n46 : Code := cL Pieces_n41
noncomputable def Pieces_n47 : Code := cR Pieces_n41
noncomputable def Pieces_n48 : Code := cL Pieces_n46
noncomputable def Pieces_n49 : Code := cL Pieces_n48
noncomputable def Pieces_n50 : Code := cR Pieces_n48
noncomputable def Pieces_n51 : Code := cL Pieces_n50
noncomputable def Pieces_n52 : Code := cL Pieces_n51
noncomputable def Pieces_n53 : Code := cL Pieces_n52
noncomputable def Pieces_n54 : Code := cR Pieces_n52
noncomputable def Pieces_n55 : Code := cL Pieces_n54
noncomputable def Pieces_n56 : Code := cR Pieces_n54
noncomputable def Pieces_n57 : Code := cL Pieces_n55
noncomputable def Pieces_n58 : Code := cR Pieces_n55
noncomputable def Pieces_n59 : Code := cL Pieces_n56
noncomputable def Pieces_n60 : Code := cR Pieces_n56
noncomputable def Pieces_n61 : Code := cL Pieces_n59
noncomputable def Pieces_n62 : Code := cL Pieces_n61
noncomputable def Pieces_n63 : Code := cR Pieces_n61
noncomputable def Pieces_n64 : Code := cL Pieces_n63
noncomputable def Pieces_n65 : Code := cR Pieces_n63
noncomputable def Pieces_n66 : Code := cL Pieces_n65
noncomputable def Pieces_n67 : Code := cR Pieces_n65
noncomputable def Pieces_n68 : Code := cL Pieces_n67
noncomputable def Pieces_n69 : Code := cR Pieces_n67
noncomputable def Pieces_n70 : Code := cL Pieces_n68
noncomputable def Pieces_n71 : Code := cR Pieces_n68
noncomputable def Pieces_n72 : Code := cL Pieces_n35
noncomputable def Pieces_n73 : Code := cR Pieces_n35
noncomputable def Pieces_n74 : Code := cL Pieces_n8
noncomputable def Pieces_n75 : Code := cR Pieces_n8
set_option maxHeartbeats 1000000 in
set_option maxRecDepth 10000 in
theorem Pieces_t {w : World} {M : Hp} {X : Fr} (d : Dg) {gsh : Nat} {cA iA oA : Option Addr} {cc ic oc : Nat} (hsb : BxM (M.un X.h) gsh 93 [.slice cA d.crs.length cc, .int .i64 d.loops, .slice iA (tabL d false (4 * d.crs.length)).length ic, .slice oA (tabL d true (4 * d.crs.length)).length oc]) (hsc : RdA cdCr (M.un X.h) cA cc d.crs) (hsi : RdA cdPl (M.un X.h) iA ic (tabL d false (4 * d.crs.length))) (hso : RdA cdPl (M.un X.h) oA oc (tabL d true (4 * d.crs.length))) (hn : d.crs.length ≤ 16) (hab : arcsB d = true) (S : SH w M X []) : Ct Try.prog 61 [.pointer (some ⟨gsh, 0, none⟩)] w M X (fun u M => ∃ A c vs, u = .slice A vs.length c ∧ RdA (cdV 33) M A c vs ∧ Rd2 cdInt M vs (pcsL d)) := by
 unfold Ct
 refine calls_in (b := Pieces_n0) Try.func61 rfl Try.ntmps61 rfl (fun C hC => ?_)
 refine ws_sub [(0, _)] ⟨rfl, trivial⟩ ?_
 refine ws_seqN Pieces_n1 Pieces_n2 rfl rfl rfl ?_
 refine ws_region rfl ?_
 refine wla 0 1 rfl rfl rfl rfl rfl rfl rfl ?_
 refine wl_end rfl ?_
 refine nm_sub [(0, _)] ⟨rfl, trivial⟩ ?_
 refine nm_thn ?_
 refine ws_seqN Pieces_n3 Pieces_n4 rfl rfl rfl ?_
 refine ws_region rfl ?_
 refine wlm 0 1 rfl rfl rfl rfl rfl rfl rfl ?_
 refine wlo 1 2 rfl rfl rfl (wo_run rfl rfl (run_nilCheck rfl rfl) ?_)
 refine wlo 2 3 rfl rfl rfl (wo_run rfl rfl (run_fieldAddr rfl rfl Try.underlying93 rfl (ce24) (nf24)) ?_)
 refine wlo 3 4 rfl rfl rfl (wo_run rfl rfl (run_fieldAddr rfl rfl Try.underlying24 rfl (ce22) (nf22)) ?_)
 refine wlo 4 5 rfl rfl rfl (wo_run rfl rfl (run_load1 rfl rfl Try.underlying22 rfl (hsb.cell S.um rfl)) ?_)
 refine wlo 5 6 rfl rfl rfl (wo_run rfl rfl (run_len rfl rfl rfl rfl rfl rfl Try.underlying22) ?_)
 refine wlo 6 7 rfl rfl rfl (wo_make (C := cdBool) d.crs.length rfl rfl rfl rfl rfl sl68 (by first | rfl | omega) (by show _ * 1 ≤ _; first | omega | (simp only [lens]; omega)) S ?_)
 intro vr1 w1 S1; clear S
 refine wla 7 8 rfl rfl rfl rfl rfl rfl rfl ?_
 refine wl_end rfl ?_
 refine nm_sub [(0, _), (3, _)] ⟨rfl, rfl, trivial⟩ ?_
 refine nm_thn ?_
 refine ws_seqN Pieces_n5 Pieces_n6 rfl rfl rfl ?_
 refine ws_region rfl ?_
 refine wla 0 1 rfl rfl rfl rfl rfl rfl rfl ?_
 refine wl_end rfl ?_
 refine nm_thn ?_
 refine ws_seqN Pieces_n7 Pieces_n8 rfl rfl rfl ?_
 refine ws_seqN Pieces_n9 Pieces_n10 rfl rfl rfl ?_
 refine ws_region rfl ?_
 refine wlm 0 1 rfl rfl rfl rfl rfl rfl rfl ?_
 refine wlo 1 2 rfl rfl rfl (wo_run rfl rfl (run_nilCheck rfl rfl) ?_)
 refine wlo 2 3 rfl rfl rfl (wo_run rfl rfl (run_fieldAddr rfl rfl Try.underlying93 rfl (ce24) (nf24)) ?_)
 refine wlo 3 4 rfl rfl rfl (wo_run rfl rfl (run_fieldAddr rfl rfl Try.underlying24 rfl (ce22) (nf22)) ?_)
 refine wlo 4 5 rfl rfl rfl (wo_run rfl rfl (run_load1 rfl rfl Try.underlying22 rfl (hsb.cell S1.um rfl)) ?_)
 refine wlo 5 6 rfl rfl rfl (wo_run rfl rfl (run_len rfl rfl rfl rfl rfl rfl Try.underlying22) ?_)
 refine wlm 6 7 rfl rfl rfl rfl rfl rfl rfl ?_
 refine wl_end rfl ?_
 refine nm_sub [(0, _), (3, _), (4, _), (22, _), (23, _)] ⟨rfl, rfl, rfl, rfl, rfl, trivial⟩ ?_
 refine nm_thn ?_
 refine ws_blockN Pieces_n11 0 rfl rfl rfl ?_
 have S2 := S1.nilrow (cdV 33); clear S1
 refine ws_loopE (fun mx_ ax_ wx_ => ∃ (c : Nat) (seen : List Bool) (vs : List SlV) (pss : List (List Int)) (vrs : Value) (vro : Value) (M1 : Hp), M.le M1 ∧ mx_ = d.crs.length - c ∧ Env 74 [(0, .pointer (some ⟨gsh, 0, none⟩)), (3, vrs), (4, vro), (22, .int .i64 (d.crs.length : Int)), (23, .int .i64 (c : Int))] ax_ ∧ SH wx_ M1 X [Rs.row (cdV 33) vro vs, Rs.row cdBool vrs seen] ∧ c ≤ d.crs.length ∧ pcsN d c = (seen, pss) ∧ Rd2 cdInt M1 vs pss) rfl ?_ ?_
 ·intro ax_ hax_
  refine ⟨_, ⟨0, _, _, [], _, _, _, Hp.le_refl _, rfl, hax_.sub ⟨rfl, rfl, rfl, rfl, rfl, trivial⟩, S2.pick [0, 1] [_, _] (by decide) ⟨rfl, rfl, trivial⟩, ?hq1f0, ?hq1f1, ?hq1f2⟩⟩
  case hq1f0 => omega
  case hq1f1 => rfl
  case hq1f2 => first | exact Rd2.nil_ | (rw [e9]; exact Rd2.nil_)
 ·rintro m1 a1 w2 ⟨c, seen, vs, pss, vrs, vro, M1, hle1, rfl, he1, S3, hc, hpn, hdo⟩
  clear S2
  refine ws_in he1 (c := Pieces_n12) rfl ?_
  clear he1 a1
  replace hsb := hsb.mono (Hp.un_mono hle1 S3.mx)
  replace hsc := hsc.mono (Hp.un_mono hle1 S3.mx)
  replace hsi := hsi.mono (Hp.un_mono hle1 S3.mx)
  replace hso := hso.mono (Hp.un_mono hle1 S3.mx)
  have hvs := hdo.1
  have hmany := pcsN_many d c
  rw [hpn] at hmany
  replace hmany : pss.length ≤ c := hmany
  have hsl : seen.length = d.crs.length := by have h9 := pcsN_len d c; rw [hpn] at h9; exact h9
  refine ws_seqN Pieces_n13 Pieces_n14 rfl rfl rfl ?_
  refine ws_region rfl ?_
  refine wlo 0 1 rfl rfl rfl (wo_run rfl rfl (run_lss rfl rfl rfl) ?_)
  refine wl_end rfl ?_
  refine nm_thn ?_
  refine ws_seqN Pieces_n15 Pieces_n16 rfl rfl rfl ?_
  refine ws_condN Pieces_n17 Pieces_n18 rfl rfl rfl rfl (fun hb24 => ?_) (fun hb24 => ?_)
  ·replace hb24 := of_decide_eq_true hb24
   refine ws_skip rfl ?_
   refine nm_sub [(0, _), (3, _), (4, _), (22, _), (23, _)] ⟨rfl, rfl, rfl, rfl, rfl, trivial⟩ ?_
   refine nm_thn ?_
   refine ws_seqN Pieces_n19 Pieces_n20 rfl rfl rfl ?_
   refine ws_blockN Pieces_n21 1 rfl rfl rfl ?_
   refine ws_seqN Pieces_n22 Pieces_n23 rfl rfl rfl ?_
   refine ws_region rfl ?_
   refine wlm 0 1 rfl rfl rfl rfl rfl rfl rfl ?_
   refine wla 1 2 rfl rfl rfl rfl rfl rfl rfl ?_
   refine wl_end rfl ?_
   refine nm_sub [(0, _), (3, _), (4, _), (22, _), (23, _), (5, _)] ⟨rfl, rfl, rfl, rfl, rfl, rfl, trivial⟩ ?_
   refine nm_thn ?_
   refine ws_seqN Pieces_n24 Pieces_n25 rfl rfl rfl ?_
   refine ws_seqN Pieces_n26 Pieces_n27 rfl rfl rfl ?_
   refine ws_region rfl ?_
   refine wlm 0 1 rfl rfl rfl rfl rfl rfl rfl ?_
   refine wlm 1 2 rfl rfl rfl rfl rfl rfl rfl ?_
   refine wlo 2 3 rfl rfl rfl (wo_run rfl rfl (run_indexR (C := cdBool) (i := 1) c rfl rfl rfl sl68 S3 rfl (by first | rfl | omega) (by first | omega | (simp only [lens]; omega))) ?_)
   refine wlo 3 4 rfl rfl rfl (wo_run rfl rfl (run_load1 rfl rfl Try.underlying4 rfl (S3.rowc (i := 1) (e := c) (j := 0) rfl (by first | omega | (simp only [lens]; omega)) rfl rfl)) ?_)
   refine wl_end rfl ?_
   refine nm_sub [(0, _), (3, _), (4, _), (22, _), (23, _), (5, _), (29, _)] ⟨rfl, rfl, rfl, rfl, rfl, rfl, rfl, trivial⟩ ?_
   refine nm_thn ?_
   refine ws_condN Pieces_n28 Pieces_n29 rfl rfl rfl rfl (fun hb29 => ?_) (fun hb29 => ?_)
   ·refine ws_exit rfl rfl ?_
    refine nm_sub [(0, _), (3, _), (4, _), (22, _), (23, _)] ⟨rfl, rfl, rfl, rfl, rfl, trivial⟩ ?_
    refine nm_thn ?_
    refine ws_region rfl ?_
    refine wlo 0 1 rfl rfl rfl (wo_run rfl rfl (run_add rfl rfl rfl (by first | omega | (simp only [lens]; omega))) ?_)
    refine wlm 1 2 rfl rfl rfl rfl rfl rfl rfl ?_
    refine wl_end rfl ?_
    refine nm_lp ?_
    intro ax_ hax_
    refine ⟨_, ?hq2m, ⟨c + 1, _, _, pss, _, _, _, (hle1), rfl, hax_.sub ⟨rfl, rfl, rfl, rfl, rfl, trivial⟩, S3.pick [0, 1] [_, _] (by decide) ⟨rfl, rfl, trivial⟩, ?hq2f0, ?hq2f1, ?hq2f2⟩⟩
    case hq2f0 => omega
    case hq2f1 => first | exact pcsN_skip hpn hb29 | exact pcsN_add hpn (by simpa using hb29) (hbf.trans (bfsN_stop (by show l.length ≤ i; omega)))
    case hq2f2 => first | exact hdo | (rw [e9]; exact hdo)
    case hq2m => omega
   ·refine ws_skip rfl ?_
    refine nm_sub [(0, _), (3, _), (4, _), (22, _), (23, _), (5, _)] ⟨rfl, rfl, rfl, rfl, rfl, rfl, trivial⟩ ?_
    refine nm_thn ?_
    refine ws_seqN Pieces_n30 Pieces_n31 rfl rfl rfl ?_
    refine ws_region rfl ?_
    refine wlm 0 1 rfl rfl rfl rfl rfl rfl rfl ?_
    refine wlm 1 2 rfl rfl rfl rfl rfl rfl rfl ?_
    refine wlo 2 3 rfl rfl rfl (wo_run rfl rfl (run_indexR (C := cdBool) (i := 1) c rfl rfl rfl sl68 S3 rfl (by first | rfl | omega) (by first | omega | (simp only [lens]; omega))) ?_)
    refine wlo 3 4 rfl rfl rfl (wo_storeR (C := cdBool) (i := 1) (e := c) (j := 0) (us := [_]) (H' := [_, _]) true rfl rfl S3 rfl (by first | omega | (simp only [lens]; omega)) rfl rfl rfl sz4 rfl rfl rfl rfl ?_)
    intro w3 S4; clear S3
    refine wl_end rfl ?_
    refine nm_sub [(0, _), (3, _), (4, _), (22, _), (23, _), (5, _)] ⟨rfl, rfl, rfl, rfl, rfl, rfl, trivial⟩ ?_
    refine nm_thn ?_
    refine ws_seqN Pieces_n32 Pieces_n33 rfl rfl rfl ?_
    refine ws_region rfl ?_
    refine wlm 0 1 rfl rfl rfl rfl rfl rfl rfl ?_
    refine wlo 1 2 rfl rfl rfl (wo_buildSlice1 (C := cdInt) (l := [_]) rfl rfl rfl rfl sl33 rfl rfl rfl rfl S4 ?_)
    intro gb1 w4 S5; clear S4
    refine wla 2 3 rfl rfl rfl rfl rfl rfl rfl ?_
    refine wl_end rfl ?_
    refine nm_sub [(0, _), (3, _), (4, _), (22, _), (23, _), (6, _)] ⟨rfl, rfl, rfl, rfl, rfl, rfl, trivial⟩ ?_
    refine nm_thn ?_
    refine ws_seqN Pieces_n34 Pieces_n35 rfl rfl rfl ?_
    refine ws_seqN Pieces_n36 Pieces_n37 rfl rfl rfl ?_
    refine ws_region rfl ?_
    refine wla 0 1 rfl rfl rfl rfl rfl rfl rfl ?_
    refine wl_end rfl ?_
    refine nm_thn ?_
    refine ws_blockN Pieces_n38 2 rfl rfl rfl ?_
    have S6 := S5.boxrow (C := cdInt) [(c : Int)] (i := 0) (H' := [_, _, _]) rfl rfl (by simp) rfl; clear S5
    obtain ⟨vr3, er3⟩ : ∃ v, v = Value.slice (some ⟨gb1, 0, none⟩) ([(c : Int)]).length ([(c : Int)]).length := ⟨_, rfl⟩
    rw [← er3] at S6
    refine ws_eq 6 (vr3) rfl er3.symm ?_
    refine ws_loopE (fun mx_ ax_ wx_ => ∃ (i : Nat) (seen2 : List Bool) (l : List Int) (vrs2 : Value) (vrl : Value), mx_ = d.crs.length - i ∧ Env 74 [(0, .pointer (some ⟨gsh, 0, none⟩)), (3, vrs2), (4, vro), (22, .int .i64 (d.crs.length : Int)), (23, .int .i64 (c : Int)), (6, vrl), (7, .int .i64 (i : Int))] ax_ ∧ SH wx_ M1 X [Rs.row cdInt vrl l, Rs.row (cdV 33) vro vs, Rs.row cdBool vrs2 seen2] ∧ bfsN d d.crs.length 0 (seen.set c true, [(c : Int)]) = bfsN d (d.crs.length - i) i (seen2, l) ∧ i ≤ l.length ∧ l.length + free seen2 ≤ d.crs.length ∧ (∀ y, y ∈ l → 0 ≤ y ∧ y < (d.crs.length : Int)) ∧ seen2.length = d.crs.length) rfl ?_ ?_
    ·intro ax_ hax_
     refine ⟨_, ⟨0, _, _, _, _, rfl, hax_.sub ⟨rfl, rfl, rfl, rfl, rfl, rfl, rfl, trivial⟩, S6.pick [0, 1, 2] [_, _, _] (by decide) ⟨rfl, rfl, rfl, trivial⟩, ?hq3f0, ?hq3f1, ?hq3f2, ?hq3f3, ?hq3f4⟩⟩
     case hq3f0 => rfl
     case hq3f1 => (exact Nat.zero_le _)
     case hq3f2 => (have h8 := free_set (seen := seen) (x := c) (by omega) (by simpa using hb29); have h9 : free seen ≤ seen.length := List.countP_le_length; show 1 + _ ≤ _; omega)
     case hq3f3 => (intro y hy; rw [List.mem_singleton] at hy; subst hy; omega)
     case hq3f4 => (rw [List.length_set]; exact hsl)
    ·rintro m2 a2 w5 ⟨i, seen2, l, vrs2, vrl, rfl, he2, S7, hbf, hi, hfr, hin, hs2⟩
     clear S6
     refine ws_in he2 (c := Pieces_n39) rfl ?_
     clear he2 a2
     refine ws_seqN Pieces_n40 Pieces_n41 rfl rfl rfl ?_
     refine ws_seqN Pieces_n42 Pieces_n43 rfl rfl rfl ?_
     refine ws_region rfl ?_
     refine wlm 0 1 rfl rfl rfl rfl rfl rfl rfl ?_
     refine wlm 1 2 rfl rfl rfl rfl rfl rfl rfl ?_
     refine wlo 2 3 rfl rfl rfl (wo_run rfl rfl (run_lenR (C := cdInt) (i := 0) rfl rfl rfl rfl rfl rfl sl33 S7 rfl) ?_)
     refine wlo 3 4 rfl rfl rfl (wo_run rfl rfl (run_lss rfl rfl rfl) ?_)
     refine wl_end rfl ?_
     refine nm_sub [(0, _), (3, _), (4, _), (22, _), (23, _), (6, _), (7, _), (38, _)] ⟨rfl, rfl, rfl, rfl, rfl, rfl, rfl, rfl, trivial⟩ ?_
     refine nm_thn ?_
     refine ws_condN Pieces_n44 Pieces_n45 rfl rfl rfl rfl (fun hb38 => ?_) (fun hb38 => ?_)
     ·replace hb38 := of_decide_eq_true hb38
      have hil : i < l.length := by omega
      have hxm := hin (ga l i) (by rw [ga_eq hil]; exact List.getElem_mem hil)
      obtain ⟨x, hx⟩ : ∃ x : Nat, ga l i = (x : Int) := ⟨(ga l i).toNat, by omega⟩
      have hxn : x < d.crs.length := by omega
      refine ws_skip rfl ?_
      refine nm_sub [(0, _), (3, _), (4, _), (22, _), (23, _), (6, _), (7, _)] ⟨rfl, rfl, rfl, rfl, rfl, rfl, rfl, trivial⟩ ?_
      refine nm_thn ?_
      refine ws_seqN Pieces_n46 Pieces_n47 rfl rfl rfl ?_
      refine ws_blockN Pieces_n48 3 rfl rfl rfl ?_
      refine ws_seqN Pieces_n49 Pieces_n50 rfl rfl rfl ?_
      refine ws_region rfl ?_
      refine wlm 0 1 rfl rfl rfl rfl rfl rfl rfl ?_
      refine wl_end rfl ?_
      refine nm_thn ?_
      refine ws_blockN Pieces_n51 4 rfl rfl rfl ?_
      refine ws_loopE (fun mx_ ax_ wx_ => ∃ (k : Nat) (seen3 : List Bool) (l3 : List Int) (vrs3 : Value) (vrl3 : Value), mx_ = 4 - k ∧ Env 74 [(0, .pointer (some ⟨gsh, 0, none⟩)), (3, vrs3), (4, vro), (22, .int .i64 (d.crs.length : Int)), (23, .int .i64 (c : Int)), (6, vrl3), (7, .int .i64 (i : Int)), (41, .int .i64 (k : Int))] ax_ ∧ SH wx_ M1 X [Rs.row cdInt vrl3 l3, Rs.row (cdV 33) vro vs, Rs.row cdBool vrs3 seen3] ∧ k ≤ 4 ∧ bfsS d x (seen2, l) k = (seen3, l3) ∧ l3.length + free seen3 ≤ d.crs.length ∧ (∀ y, y ∈ l3 → 0 ≤ y ∧ y < (d.crs.length : Int)) ∧ seen3.length = d.crs.length ∧ i < l3.length ∧ ga l3 i = (x : Int)) rfl ?_ ?_
      ·intro ax_ hax_
       refine ⟨_, ⟨0, _, _, _, _, rfl, hax_.sub ⟨rfl, rfl, rfl, rfl, rfl, rfl, rfl, rfl, trivial⟩, S7.pick [0, 1, 2] [_, _, _] (by decide) ⟨rfl, rfl, rfl, trivial⟩, ?hq4f0, ?hq4f1, ?hq4f2, ?hq4f3, ?hq4f4, ?hq4f5, ?hq4f6⟩⟩
       case hq4f0 => omega
       case hq4f1 => rfl
       case hq4f2 => exact hfr
       case hq4f3 => exact hin
       case hq4f4 => exact hs2
       case hq4f5 => omega
       case hq4f6 => exact hx
      ·rintro m3 a3 w6 ⟨k, seen3, l3, vrs3, vrl3, rfl, he3, S8, hk, hbs, hfr3, hin3, hs3, hi3, hx3⟩
       clear S7
       refine ws_in he3 (c := Pieces_n52) rfl ?_
       clear he3 a3
       refine ws_seqN Pieces_n53 Pieces_n54 rfl rfl rfl ?_
       refine ws_region rfl ?_
       refine wlo 0 1 rfl rfl rfl (wo_run rfl rfl (run_lss rfl rfl rfl) ?_)
       refine wl_end rfl ?_
       refine nm_thn ?_
       refine ws_seqN Pieces_n55 Pieces_n56 rfl rfl rfl ?_
       refine ws_condN Pieces_n57 Pieces_n58 rfl rfl rfl rfl (fun hb42 => ?_) (fun hb42 => ?_)
       ·replace hb42 := of_decide_eq_true hb42
        refine ws_skip rfl ?_
        refine nm_sub [(0, _), (3, _), (4, _), (22, _), (23, _), (6, _), (7, _), (41, _)] ⟨rfl, rfl, rfl, rfl, rfl, rfl, rfl, rfl, trivial⟩ ?_
        refine nm_thn ?_
        refine ws_seqN Pieces_n59 Pieces_n60 rfl rfl rfl ?_
        refine ws_blockN Pieces_n61 5 rfl rfl rfl ?_
        refine ws_seqN Pieces_n62 Pieces_n63 rfl rfl rfl ?_
        refine ws_region rfl ?_
        refine wlm 0 1 rfl rfl rfl rfl rfl rfl rfl ?_
        refine wla 1 2 rfl rfl rfl rfl rfl rfl rfl ?_
        refine wl_end rfl ?_
        refine nm_sub [(0, _), (3, _), (4, _), (22, _), (23, _), (6, _), (7, _), (41, _), (8, _)] ⟨rfl, rfl, rfl, rfl, rfl, rfl, rfl, rfl, rfl, trivial⟩ ?_
        refine nm_thn ?_
        refine ws_seqN Pieces_n64 Pieces_n65 rfl rfl rfl ?_
        refine ws_region rfl ?_
        refine wlm 0 1 rfl rfl rfl rfl rfl rfl rfl ?_
        refine wlm 1 2 rfl rfl rfl rfl rfl rfl rfl ?_
        refine wlm 2 3 rfl rfl rfl rfl rfl rfl rfl ?_
        refine wlo 3 4 rfl rfl rfl (wo_run rfl rfl (run_indexR (C := cdInt) (i := 0) i rfl rfl rfl sl33 S8 rfl (by first | rfl | omega) (by first | omega | (simp only [lens]; omega))) ?_)
        refine wlo 4 5 rfl rfl rfl (wo_run rfl rfl (run_load1 rfl rfl Try.underlying3 rfl (S8.rowc (i := 0) (e := i) (j := 0) rfl (by first | omega | (simp only [lens]; omega)) rfl rfl)) ?_)
        refine wl_eq 48 (.int .i64 (x : Int)) rfl (int_eq hx3) ?_
        have hnb := nbC_lt hab (k := k) hxn (by omega)
        refine wlm 5 6 rfl rfl rfl rfl rfl rfl rfl ?_
        refine wlo 6 7 rfl rfl rfl (wo_run rfl rfl (run_build (l := [_, _]) rfl rfl st163 rfl rfl) ?_)
        refine wlo 7 8 rfl rfl rfl (wo_cq rfl rfl rfl rfl rfl rfl rfl cf96 S8 (Other_q d x k (hsb.mono S8.un_XH) (hsc.mono S8.un_XH) (hsi.mono S8.un_XH) (hso.mono S8.un_XH) (by first | assumption | omega) hab (by omega) (by omega) S8.lend) ?_)
        rintro _ w7 S9 rfl; clear S8
        refine wlo 8 9 rfl rfl rfl (wo_run rfl rfl (run_field0 rfl rfl Try.underlying163 rfl Try.underlying3 rfl rfl) ?_)
        refine wla 9 10 rfl rfl rfl rfl rfl rfl rfl ?_
        refine wl_end rfl ?_
        refine nm_sub [(0, _), (3, _), (4, _), (22, _), (23, _), (6, _), (7, _), (41, _), (9, _)] ⟨rfl, rfl, rfl, rfl, rfl, rfl, rfl, rfl, rfl, trivial⟩ ?_
        refine nm_thn ?_
        refine ws_seqN Pieces_n66 Pieces_n67 rfl rfl rfl ?_
        refine ws_eq 9 (.int .i64 ((nbC d x k : Nat) : Int)) rfl (int_eq rfl) ?_
        refine ws_region rfl ?_
        refine wlm 0 1 rfl rfl rfl rfl rfl rfl rfl ?_
        refine wlm 1 2 rfl rfl rfl rfl rfl rfl rfl ?_
        refine wlo 2 3 rfl rfl rfl (wo_run rfl rfl (run_indexR (C := cdBool) (i := 2) (nbC d x k) rfl rfl rfl sl68 S9 rfl (by first | rfl | omega) (by first | omega | (simp only [lens]; omega))) ?_)
        refine wlo 3 4 rfl rfl rfl (wo_run rfl rfl (run_load1 rfl rfl Try.underlying4 rfl (S9.rowc (i := 2) (e := nbC d x k) (j := 0) rfl (by first | omega | (simp only [lens]; omega)) rfl rfl)) ?_)
        refine wlo 4 5 rfl rfl rfl (wo_run rfl rfl (run_not rfl rfl) ?_)
        refine wl_end rfl ?_
        refine nm_sub [(0, _), (3, _), (4, _), (22, _), (23, _), (6, _), (7, _), (41, _), (9, _), (57, _)] ⟨rfl, rfl, rfl, rfl, rfl, rfl, rfl, rfl, rfl, rfl, trivial⟩ ?_
        refine nm_thn ?_
        refine ws_condN Pieces_n68 Pieces_n69 rfl rfl rfl rfl (fun hb57 => ?_) (fun hb57 => ?_)
        ·simp only [Bool.and_eq_true, Bool.or_eq_true, Bool.and_eq_false_iff, Bool.or_eq_false_iff, decide_eq_true_eq, decide_eq_false_iff_not, Bool.not_eq_true', Bool.not_eq_false'] at hb57
         have hga : ga seen3 (nbC d x k) = false := by simpa using hb57
         have hfs := free_set (seen := seen3) (x := nbC d x k) (by omega) hga
         refine ws_seqN Pieces_n70 Pieces_n71 rfl rfl rfl ?_
         refine ws_region rfl ?_
         refine wlm 0 1 rfl rfl rfl rfl rfl rfl rfl ?_
         refine wlm 1 2 rfl rfl rfl rfl rfl rfl rfl ?_
         refine wlo 2 3 rfl rfl rfl (wo_run rfl rfl (run_indexR (C := cdBool) (i := 2) (nbC d x k) rfl rfl rfl sl68 S9 rfl (by first | rfl | omega) (by first | omega | (simp only [lens]; omega))) ?_)
         refine wlo 3 4 rfl rfl rfl (wo_storeR (C := cdBool) (i := 2) (e := nbC d x k) (j := 0) (us := [_]) (H' := [_, _, _]) true rfl rfl S9 rfl (by first | omega | (simp only [lens]; omega)) rfl rfl rfl sz4 rfl rfl rfl rfl ?_)
         intro w8 S10; clear S9
         refine wl_end rfl ?_
         refine nm_sub [(0, _), (3, _), (4, _), (22, _), (23, _), (6, _), (7, _), (41, _), (9, _)] ⟨rfl, rfl, rfl, rfl, rfl, rfl, rfl, rfl, rfl, trivial⟩ ?_
         refine nm_thn ?_
         refine ws_region rfl ?_
         refine wlm 0 1 rfl rfl rfl rfl rfl rfl rfl ?_
         refine wlm 1 2 rfl rfl rfl rfl rfl rfl rfl ?_
         refine wlo 2 3 rfl rfl rfl (wo_buildSlice1 (C := cdInt) (l := [_]) rfl rfl rfl rfl sl33 rfl rfl rfl rfl S10 ?_)
         intro gb2 w9 S11; clear S10
         refine wlo 3 4 rfl rfl rfl (wo_append1 (C := cdInt) (i := 1) (q := 0) ((nbC d x k : Nat) : Int) rfl rfl rfl rfl rfl rfl rfl rfl sl33 S11 rfl rfl rfl (by show (_ + 1) * 8 ≤ _; first | omega | (simp only [lens]; omega)) ?_)
         intro vrl1 w10 S12; clear S11
         have S13 := S12.pick [1, 2, 3] [_, _, _] (by decide) ⟨rfl, rfl, rfl, trivial⟩; clear S12
         refine wla 4 5 rfl rfl rfl rfl rfl rfl rfl ?_
         refine wl_end rfl ?_
         refine nm_blk ?_
         refine nm_sub [(0, _), (3, _), (4, _), (22, _), (23, _), (6, _), (7, _), (41, _)] ⟨rfl, rfl, rfl, rfl, rfl, rfl, rfl, rfl, trivial⟩ ?_
         refine nm_thn ?_
         refine ws_region rfl ?_
         refine wlo 0 1 rfl rfl rfl (wo_run rfl rfl (run_add rfl rfl rfl (by first | omega | (simp only [lens]; omega))) ?_)
         refine wlm 1 2 rfl rfl rfl rfl rfl rfl rfl ?_
         refine wl_end rfl ?_
         refine nm_lp ?_
         intro ax_ hax_
         refine ⟨_, ?hq5m, ⟨k + 1, _, _, _, _, rfl, hax_.sub ⟨rfl, rfl, rfl, rfl, rfl, rfl, rfl, rfl, trivial⟩, S13.pick [0, 1, 2] [_, _, _] (by decide) ⟨rfl, rfl, rfl, trivial⟩, ?hq5f0, ?hq5f1, ?hq5f2, ?hq5f3, ?hq5f4, ?hq5f5, ?hq5f6⟩⟩
         case hq5f0 => omega
         case hq5f1 => (show addS _ _ = _; rw [hbs, addS]; first | rw [if_pos (by assumption)] | rw [if_neg (by rw [hga]; exact Bool.false_ne_true)])
         case hq5f2 => first | exact hfr3 | (rw [List.length_append]; show _ + 1 + _ ≤ _; omega)
         case hq5f3 => first | exact hin3 | (intro y hy; rcases List.mem_append.1 hy with hy | hy; exact hin3 y hy; rw [List.mem_singleton] at hy; subst hy; omega)
         case hq5f4 => first | exact hs3 | (rw [List.length_set]; exact hs3)
         case hq5f5 => first | exact hi3 | (rw [List.length_append]; omega)
         case hq5f6 => first | exact hx3 | (rw [ga_append_left _ _ _ (by omega)]; exact hx3)
         case hq5m => omega
        ·simp only [Bool.and_eq_true, Bool.or_eq_true, Bool.and_eq_false_iff, Bool.or_eq_false_iff, decide_eq_true_eq, decide_eq_false_iff_not, Bool.not_eq_true', Bool.not_eq_false'] at hb57
         refine ws_skip rfl ?_
         refine nm_blk ?_
         refine nm_sub [(0, _), (3, _), (4, _), (22, _), (23, _), (6, _), (7, _), (41, _)] ⟨rfl, rfl, rfl, rfl, rfl, rfl, rfl, rfl, trivial⟩ ?_
         refine nm_thn ?_
         refine ws_region rfl ?_
         refine wlo 0 1 rfl rfl rfl (wo_run rfl rfl (run_add rfl rfl rfl (by first | omega | (simp only [lens]; omega))) ?_)
         refine wlm 1 2 rfl rfl rfl rfl rfl rfl rfl ?_
         refine wl_end rfl ?_
         refine nm_lp ?_
         intro ax_ hax_
         refine ⟨_, ?hq6m, ⟨k + 1, _, _, _, _, rfl, hax_.sub ⟨rfl, rfl, rfl, rfl, rfl, rfl, rfl, rfl, trivial⟩, S9.pick [0, 1, 2] [_, _, _] (by decide) ⟨rfl, rfl, rfl, trivial⟩, ?hq6f0, ?hq6f1, ?hq6f2, ?hq6f3, ?hq6f4, ?hq6f5, ?hq6f6⟩⟩
         case hq6f0 => omega
         case hq6f1 => (show addS _ _ = _; rw [hbs, addS]; first | rw [if_pos (by assumption)] | rw [if_neg (by rw [hga]; exact Bool.false_ne_true)])
         case hq6f2 => first | exact hfr3 | (rw [List.length_append]; show _ + 1 + _ ≤ _; omega)
         case hq6f3 => first | exact hin3 | (intro y hy; rcases List.mem_append.1 hy with hy | hy; exact hin3 y hy; rw [List.mem_singleton] at hy; subst hy; omega)
         case hq6f4 => first | exact hs3 | (rw [List.length_set]; exact hs3)
         case hq6f5 => first | exact hi3 | (rw [List.length_append]; omega)
         case hq6f6 => first | exact hx3 | (rw [ga_append_left _ _ _ (by omega)]; exact hx3)
         case hq6m => omega
       ·replace hb42 := of_decide_eq_false hb42
        refine ws_exit rfl rfl ?_
        refine nm_blk ?_
        refine nm_sub [(0, _), (3, _), (4, _), (22, _), (23, _), (6, _), (7, _)] ⟨rfl, rfl, rfl, rfl, rfl, rfl, rfl, trivial⟩ ?_
        refine nm_thn ?_
        refine ws_region rfl ?_
        refine wlm 0 1 rfl rfl rfl rfl rfl rfl rfl ?_
        refine wlo 1 2 rfl rfl rfl (wo_run rfl rfl (run_add rfl rfl rfl (by first | omega | (simp only [lens]; omega))) ?_)
        refine wla 2 3 rfl rfl rfl rfl rfl rfl rfl ?_
        refine wl_end rfl ?_
        refine nm_lp ?_
        intro ax_ hax_
        refine ⟨_, ?hq7m, ⟨i + 1, _, _, _, _, rfl, hax_.sub ⟨rfl, rfl, rfl, rfl, rfl, rfl, rfl, trivial⟩, S8.pick [0, 1, 2] [_, _, _] (by decide) ⟨rfl, rfl, rfl, trivial⟩, ?hq7f0, ?hq7f1, ?hq7f2, ?hq7f3, ?hq7f4⟩⟩
        case hq7f0 => (rw [hbf, show d.crs.length - i = (d.crs.length - (i + 1)) + 1 by omega]; exact bfsN_go (by show i < l.length; omega) hx (hbs ▸ (by rw [show k = 4 by omega])))
        case hq7f1 => omega
        case hq7f2 => omega
        case hq7f3 => exact hin3
        case hq7f4 => exact hs3
        case hq7m => omega
     ·replace hb38 := of_decide_eq_false hb38
      have hsr := srt_len l
      refine ws_exit rfl rfl ?_
      refine nm_sub [(0, _), (3, _), (4, _), (22, _), (23, _), (6, _)] ⟨rfl, rfl, rfl, rfl, rfl, rfl, trivial⟩ ?_
      refine nm_thn ?_
      refine ws_seqN Pieces_n72 Pieces_n73 rfl rfl rfl ?_
      refine ws_region rfl ?_
      refine wlm 0 1 rfl rfl rfl rfl rfl rfl rfl ?_
      refine wlo 1 2 rfl rfl rfl (wo_c1 rfl rfl rfl rfl rfl rfl rfl cf97 S7 (i := 0) rfl (sort_w (by omega) (S7.lend1 (i := 0) rfl)) ?_)
      rintro vw11 w11 _ _ - S14 ⟨rfl, rfl, rfl⟩; clear S7
      change SH _ _ _ [_, _, _] at S14
      refine wl_end rfl ?_
      refine nm_sub [(0, _), (3, _), (4, _), (22, _), (23, _), (6, _)] ⟨rfl, rfl, rfl, rfl, rfl, rfl, trivial⟩ ?_
      refine nm_thn ?_
      refine ws_region rfl ?_
      refine wlm 0 1 rfl rfl rfl rfl rfl rfl rfl ?_
      refine wlm 1 2 rfl rfl rfl rfl rfl rfl rfl ?_
      obtain ⟨M2, hle4, S15, ⟨A1, c1, e1, hr1⟩⟩ := S14.pubrow (i := 0) (H' := [_, _, _]) rfl rfl (by show _ * 8 ≤ _; first | omega | (simp only [lens]; omega))
      clear S14; subst e1
      replace hsb := hsb.mono (Hp.un_mono hle4 S15.mx)
      replace hsc := hsc.mono (Hp.un_mono hle4 S15.mx)
      replace hsi := hsi.mono (Hp.un_mono hle4 S15.mx)
      replace hso := hso.mono (Hp.un_mono hle4 S15.mx)
      replace hdo := hdo.mono hle4
      refine wlo 2 3 rfl rfl rfl (wo_buildSlice1 (C := (cdV 33)) (l := [_]) rfl rfl rfl rfl sl34 rfl rfl rfl rfl S15 ?_)
      intro gb3 w12 S16; clear S15
      refine wlo 3 4 rfl rfl rfl (wo_append1 (C := (cdV 33)) (i := 2) (q := 0) (⟨A1, (srt l).length, c1⟩ : SlV) rfl rfl rfl rfl rfl rfl rfl rfl sl34 S16 rfl rfl rfl (by show (_ + 1) * 24 ≤ _; first | omega | (simp only [lens]; omega)) ?_)
      intro vro1 w13 S17; clear S16
      have S18 := S17.pick [1, 2, 3] [_, _, _] (by decide) ⟨rfl, rfl, rfl, trivial⟩; clear S17
      have hd1 := hdo.snoc (c := c1) hr1
      refine wla 4 5 rfl rfl rfl rfl rfl rfl rfl ?_
      refine wl_end rfl ?_
      refine nm_blk ?_
      refine nm_sub [(0, _), (3, _), (4, _), (22, _), (23, _)] ⟨rfl, rfl, rfl, rfl, rfl, trivial⟩ ?_
      refine nm_thn ?_
      refine ws_region rfl ?_
      refine wlo 0 1 rfl rfl rfl (wo_run rfl rfl (run_add rfl rfl rfl (by first | omega | (simp only [lens]; omega))) ?_)
      refine wlm 1 2 rfl rfl rfl rfl rfl rfl rfl ?_
      refine wl_end rfl ?_
      refine nm_lp ?_
      intro ax_ hax_
      refine ⟨_, ?hq8m, ⟨c + 1, _, _, (pss ++ [srt l]), _, _, _, (hle1.trans hle4), rfl, hax_.sub ⟨rfl, rfl, rfl, rfl, rfl, trivial⟩, S18.pick [1, 2] [_, _] (by decide) ⟨rfl, rfl, trivial⟩, ?hq8f0, ?hq8f1, ?hq8f2⟩⟩
      case hq8f0 => omega
      case hq8f1 => first | exact pcsN_skip hpn hb29 | exact pcsN_add hpn (by simpa using hb29) (hbf.trans (bfsN_stop (by show l.length ≤ i; omega)))
      case hq8f2 => first | exact hd1 | (rw [e9]; exact hd1)
      case hq8m => omega
  ·replace hb24 := of_decide_eq_false hb24
   refine ws_exit rfl rfl ?_
   refine nm_sub [(4, _)] ⟨rfl, trivial⟩ ?_
   refine nm_thn ?_
   refine ws_seqN Pieces_n74 Pieces_n75 rfl rfl rfl ?_
   refine ws_region rfl ?_
   refine wlm 0 1 rfl rfl rfl rfl rfl rfl rfl ?_
   refine wla 1 2 rfl rfl rfl rfl rfl rfl rfl ?_
   refine wl_end rfl ?_
   refine nm_sub [(2, _)] ⟨rfl, trivial⟩ ?_
   refine nm_thn ?_
   obtain ⟨M3, hle5, S19, ⟨A2, c2, e2, hr2⟩⟩ := S3.pubrow (i := 0) (H' := [_, _]) rfl rfl (by show _ * 24 ≤ _; first | omega | (simp only [lens]; omega))
   clear S3; subst e2
   replace hsb := hsb.mono (Hp.un_mono hle5 S19.mx)
   replace hsc := hsc.mono (Hp.un_mono hle5 S19.mx)
   replace hsi := hsi.mono (Hp.un_mono hle5 S19.mx)
   replace hso := hso.mono (Hp.un_mono hle5 S19.mx)
   replace hdo := hdo.mono hle5
   refine ws_ret hC [_] rfl rfl ⟨rfl, trivial⟩ ?_
   refine ⟨_, rfl, _, hle1.trans hle5, (S19.pick [] [] (by decide) trivial), ?_⟩
   obtain rfl : c = d.crs.length := by omega
   have e2 : pcsL d = pss := by unfold pcsL; rw [hpn]
   rw [e2]
   exact ⟨_, _, _, rfl, hr2, hdo⟩
end Go.Proofs.Ytefkjfcncpmneaa
namespace Go.Proofs.Ytefkjfcncpmneaa
open Go.ChangeShapes Go.WideShapes Go.ChangeAt Go.RowKit
theorem gs_same {xs : List Bool} {i : Nat} {y : Bool} (h : i < xs.length) : ga (xs.set i y) i = y := by rw [ga_set _ _ _ _ h, if_pos rfl]
theorem gs_ne {xs : List Bool} {i j : Nat} {y : Bool} (h : i ≠ j) : ga (xs.set i y) j = ga xs j := by unfold ga; simp [List.getElem?_set, h]
/-- What the search for the pieces finds, in plain Lean. -/
inductive Rc (d : Dg) : Nat → Nat → Prop
 | refl (x : Nat) : Rc d x x
 | step {x y k : Nat} : Rc d x y → k < 4 → Rc d x (nbC d y k)
structure BI (d : Dg) (n : Nat) (s0 : List Bool) (c : Nat) (s : List Bool × List Int) : Prop where
 len : s.1.length = n
 see : ∀ x, x < n → (ga s.1 x = true ↔ (ga s0 x = true ∨ (x : Int) ∈ s.2))
 nod : s.2.Nodup
 el : ∀ y ∈ s.2, ∃ z : Nat, y = (z : Int) ∧ z < n ∧ ga s0 z = false ∧ Rc d c z
 room : s.2.length + free s.1 ≤ n
theorem addS_bi {d : Dg} {n : Nat} {s0 : List Bool} {c : Nat} {s : List Bool × List Int} (h : BI d n s0 c s) {y : Nat} (hy : y < n) (hr : Rc d c y) :
  BI d n s0 c (addS s y) ∧ (∃ t, (addS s y).2 = s.2 ++ t) ∧ ga (addS s y).1 y = true ∧ ∀ x, ga s.1 x = true → ga (addS s y).1 x = true := by
 unfold addS
 by_cases hg : ga s.1 y = true
 ·rw [if_pos hg]
  exact ⟨h, ⟨[], by simp⟩, hg, fun x hx => hx⟩
 ·rw [if_neg hg]
  have hlen := h.len
  have hf : ga s.1 y = false := by simpa using hg
  have hnot : ¬ (ga s0 y = true ∨ (y : Int) ∈ s.2) := fun hh => hg ((h.see y hy).2 hh)
  have hfr := free_set (seen := s.1) (x := y) (by omega) hf
  have hro := h.room
  refine ⟨⟨by simp [hlen], fun x hx => ?_, ?_, fun z hz => ?_, ?_⟩, ⟨[(y : Int)], rfl⟩, ?_, fun x hx => ?_⟩
  ·by_cases e : x = y
   ·subst e
    exact ⟨fun _ => .inr (by simp), fun _ => gs_same (by omega)⟩
   ·show ga (s.1.set y true) x = true ↔ _
    rw [gs_ne (show y ≠ x from fun e' => e e'.symm)]
    rw [h.see x hx, List.mem_append, List.mem_singleton]
    constructor
    ·rintro (h1 | h1)
     ·exact .inl h1
     ·exact .inr (.inl h1)
    ·rintro (h1 | h1 | h1)
     ·exact .inl h1
     ·exact .inr h1
     ·exact absurd (Int.ofNat.inj h1) e
  ·rw [List.nodup_append]
   refine ⟨h.nod, by simp, fun a ha b hb e => ?_⟩
   rw [List.mem_singleton] at hb
   subst hb; subst e
   exact hnot (.inr ha)
  ·rcases List.mem_append.1 hz with hz | hz
   ·exact h.el z hz
   ·rw [List.mem_singleton] at hz
    exact ⟨y, hz, hy, by have := fun e => hnot (.inl e); simpa using this, hr⟩
  ·show (s.2 ++ [(y : Int)]).length + free (s.1.set y true) ≤ n
   rw [List.length_append]
   show s.2.length + 1 + _ ≤ n
   omega
  ·exact gs_same (by omega)
  ·by_cases e : x = y
   ·subst e; exact gs_same (by omega)
   ·show ga (s.1.set y true) x = true
    rw [gs_ne (show y ≠ x from fun e' => e e'.symm)]; exact hx
theorem bfsS_bi {d : Dg} {s0 : List Bool} {c x : Nat} {s : List Bool × List Int} (hab : arcsB d = true) (h : BI d d.crs.length s0 c s) (hx : x < d.crs.length) (hr : Rc d c x) (k : Nat) (hk : k ≤ 4) :
  BI d d.crs.length s0 c (bfsS d x s k) ∧ (∃ t, (bfsS d x s k).2 = s.2 ++ t) ∧ (∀ j, j < k → ga (bfsS d x s k).1 (nbC d x j) = true) ∧ ∀ z, ga s.1 z = true → ga (bfsS d x s k).1 z = true := by
 induction k with
 | zero => exact ⟨h, ⟨[], by simp [bfsS]⟩, fun j hj => by omega, fun z hz => hz⟩
 | succ k ih =>
  obtain ⟨h1, ⟨t1, h2⟩, h3, h4⟩ := ih (by omega)
  obtain ⟨g1, ⟨t2, g2⟩, g3, g4⟩ := addS_bi h1 (nbC_lt hab hx (show k < 4 by omega)) (hr.step (show k < 4 by omega))
  refine ⟨g1, ⟨t1 ++ t2, ?_⟩, fun j hj => ?_, fun z hz => g4 z (h4 z hz)⟩
  ·show (addS _ _).2 = _
   rw [g2, h2, List.append_assoc]
  ·by_cases e : j = k
   ·subst e; exact g3
   ·exact g4 _ (h3 j (by omega))
theorem bfsN_bi {d : Dg} {s0 : List Bool} {c : Nat} (hab : arcsB d = true) : ∀ (f i : Nat) (s : List Bool × List Int), BI d d.crs.length s0 c s → d.crs.length ≤ i + f → i ≤ s.2.length → (∀ j, j < i → ∀ k, k < 4 → ga s.1 (nbC d (ga s.2 j).toNat k) = true) →
  BI d d.crs.length s0 c (bfsN d f i s) ∧ (∃ t, (bfsN d f i s).2 = s.2 ++ t) ∧ ∀ j, j < (bfsN d f i s).2.length → ∀ k, k < 4 → ga (bfsN d f i s).1 (nbC d (ga (bfsN d f i s).2 j).toNat k) = true := by
 intro f
 induction f with
 | zero =>
  intro i s h hf hi hp
  have := h.room
  exact ⟨h, ⟨[], by simp [bfsN]⟩, fun j hj => hp j (by have hj' : j < s.2.length := hj; omega)⟩
 | succ f ih =>
  intro i s h hf hi hp
  by_cases hlt : i < s.2.length
  ·rw [bfsN, if_pos hlt]
   obtain ⟨z, hz, hzn, _, hrz⟩ := h.el _ (ga_mem hlt)
   rw [hz, Int.toNat_natCast]
   obtain ⟨h1, ⟨t, h2⟩, h3, h4⟩ := bfsS_bi hab h hzn hrz 4 (Nat.le_refl _)
   obtain ⟨g1, ⟨t', g2⟩, g3⟩ := ih (i + 1) (bfsS d z s 4) h1 (by omega) (by rw [h2, List.length_append]; omega) (fun j hj k hk => by
    rw [h2, ga_append_left _ _ _ (by omega)]
    by_cases e : j = i
    ·subst e; rw [hz, Int.toNat_natCast]; exact h3 k hk
    ·exact h4 _ (hp j (by omega) k hk))
   exact ⟨g1, ⟨t ++ t', by rw [g2, h2, List.append_assoc]⟩, g3⟩
  ·rw [bfsN_stop (by omega)]
   exact ⟨h, ⟨[], by simp⟩, fun j hj => hp j (by omega)⟩
structure PcI (d : Dg) (c : Nat) (s : List Bool × List (List Int)) : Prop where
 see : ∀ x, x < d.crs.length → (ga s.1 x = true ↔ ∃ i, i < s.2.length ∧ (x : Int) ∈ ga s.2 i)
 cov : ∀ x, x < c → ga s.1 x = true
 el : ∀ i, i < s.2.length → (ga s.2 i).Nodup ∧ ∃ c0 : Nat, c0 < d.crs.length ∧ (c0 : Int) ∈ ga s.2 i ∧ ∀ y ∈ ga s.2 i, ∃ z : Nat, y = (z : Int) ∧ z < d.crs.length ∧ Rc d c0 z
 clo : ∀ i, i < s.2.length → ∀ z : Nat, (z : Int) ∈ ga s.2 i → ∀ k, k < 4 → ((nbC d z k : Nat) : Int) ∈ ga s.2 i
 dis : ∀ i j, i < s.2.length → j < s.2.length → ∀ y, y ∈ ga s.2 i → y ∈ ga s.2 j → i = j
theorem pcsN_pi {d : Dg} (hab : arcsB d = true) (hsym : ∀ x k, x < d.crs.length → k < 4 → ∃ k', k' < 4 ∧ nbC d (nbC d x k) k' = x) (c : Nat) (hc : c ≤ d.crs.length) : PcI d c (pcsN d c) := by
 induction c with
 | zero =>
  refine ⟨fun x hx => ?_, fun x hx => by omega, fun i hi => ?_, fun i hi => ?_, fun i j hi => ?_⟩
  ·simp only [pcsN]
   rw [ga_rep _ _ _ hx]
   constructor
   ·intro h; cases h
   ·rintro ⟨i, hi, _⟩; exact absurd hi (Nat.not_lt_zero _)
  all_goals exact absurd hi (Nat.not_lt_zero _)
 | succ c ih =>
  have I := ih (by omega)
  have hlen := pcsN_len d c
  generalize hs : pcsN d c = s at I hlen
  obtain ⟨seen, pss⟩ := s
  by_cases hg : ga seen c = true
  ·rw [pcsN_skip hs hg]
   exact ⟨I.see, fun x hx => by by_cases e : x = c; (subst e; exact hg); exact I.cov x (by omega), I.el, I.clo, I.dis⟩
  ·have hgf : ga seen c = false := by simpa using hg
   rw [pcsN_add hs hgf rfl]
   have hlen' : seen.length = d.crs.length := hlen
   have B0 : BI d d.crs.length seen c (seen.set c true, [(c : Int)]) := by
    have hfr := free_set (seen := seen) (x := c) (by omega) hgf
    have hfl : free seen ≤ seen.length := List.countP_le_length
    refine ⟨by simp [hlen'], fun x hx => ?_, by simp, fun y hy => ?_, by show 1 + free (seen.set c true) ≤ _; omega⟩
    ·by_cases e : x = c
     ·subst e; exact ⟨fun _ => .inr (by simp), fun _ => gs_same (by omega)⟩
     ·show ga (seen.set c true) x = true ↔ _
      rw [gs_ne (show c ≠ x from fun e' => e e'.symm)]
      constructor
      ·exact .inl
      ·rintro (h1 | h1)
       ·exact h1
       ·rw [List.mem_singleton] at h1; exact absurd (Int.ofNat.inj h1) e
    ·rw [List.mem_singleton] at hy; exact ⟨c, hy, by omega, hgf, .refl c⟩
   obtain ⟨B1, ⟨t, B2⟩, B3⟩ := bfsN_bi hab d.crs.length 0 _ B0 (by omega) (Nat.zero_le _) (fun j hj => by omega)
   generalize hr : bfsN d d.crs.length 0 (seen.set c true, [(c : Int)]) = r at B1 B2 B3 ⊢
   have hcm : (c : Int) ∈ r.2 := by rw [B2]; simp
   have hnew : ga (pss ++ [srt r.2]) pss.length = srt r.2 := by rw [ga_append_right _ _ _ (Nat.le_refl _), Nat.sub_self]; rfl
   have hold : ∀ i, i < pss.length → ga (pss ++ [srt r.2]) i = ga pss i := fun i hi => ga_append_left _ _ _ hi
   have hL : (pss ++ [srt r.2]).length = pss.length + 1 := by simp
   have hcl : ∀ z : Nat, (z : Int) ∈ r.2 → ∀ k, k < 4 → ((nbC d z k : Nat) : Int) ∈ r.2 := fun z hz k hk => by
    obtain ⟨j, hj, ej⟩ := List.mem_iff_getElem.1 hz
    have h1 := B3 j hj k hk
    rw [ga_eq hj, ej, Int.toNat_natCast] at h1
    obtain ⟨z', e', hzn, hz0, _⟩ := B1.el _ hz
    obtain rfl : z = z' := by omega
    have hnl := nbC_lt hab hzn hk
    rcases (B1.see _ hnl).1 h1 with h2 | h2
    ·exfalso
     obtain ⟨i, hi, hm⟩ := (I.see _ hnl).1 h2
     obtain ⟨k', hk', e2⟩ := hsym z k hzn hk
     have h3 := I.clo i hi _ hm k' hk'
     rw [e2] at h3
     have h4 := (I.see z hzn).2 ⟨i, hi, h3⟩
     have h5 : ga seen z = true := h4
     rw [hz0] at h5; cases h5
    ·exact h2
   refine ⟨fun x hx => ?_, fun x hx => ?_, fun i hi => ?_, fun i hi => ?_, fun i j hi hj y hy hy' => ?_⟩
   ·show ga r.1 x = true ↔ ∃ i, i < (pss ++ [srt r.2]).length ∧ (x : Int) ∈ ga (pss ++ [srt r.2]) i
    rw [B1.see x hx]
    have hI : ga seen x = true ↔ ∃ i, i < pss.length ∧ (x : Int) ∈ ga pss i := I.see x hx
    rw [hI]
    constructor
    ·rintro (⟨i, hi, hm⟩ | hm)
     ·exact ⟨i, by omega, by rw [hold i hi]; exact hm⟩
     ·exact ⟨pss.length, by omega, by rw [hnew]; exact srt_mem.2 hm⟩
    ·rintro ⟨i, hi, hm⟩
     by_cases e : i < pss.length
     ·rw [hold i e] at hm; exact .inl ⟨i, e, hm⟩
     ·obtain rfl : i = pss.length := by omega
      rw [hnew] at hm; exact .inr (srt_mem.1 hm)
   ·show ga r.1 x = true
    rw [B1.see x (by omega)]
    by_cases e : x = c
    ·subst e; exact .inr hcm
    ·exact .inl (I.cov x (by omega))
   ·show (ga (pss ++ [srt r.2]) i).Nodup ∧ ∃ c0 : Nat, c0 < d.crs.length ∧ (c0 : Int) ∈ ga (pss ++ [srt r.2]) i ∧ ∀ y ∈ ga (pss ++ [srt r.2]) i, _
    have hi' : i < (pss ++ [srt r.2]).length := hi
    by_cases e : i < pss.length
    ·rw [hold i e]; exact I.el i e
    ·obtain rfl : i = pss.length := by omega
     rw [hnew]
     refine ⟨(srt_perm r.2).nodup_iff.2 B1.nod, c, by omega, srt_mem.2 hcm, fun y hy => ?_⟩
     obtain ⟨z, h1, h2, _, h3⟩ := B1.el y (srt_mem.1 hy)
     exact ⟨z, h1, h2, h3⟩
   ·show ∀ z : Nat, (z : Int) ∈ ga (pss ++ [srt r.2]) i → ∀ k, k < 4 → ((nbC d z k : Nat) : Int) ∈ ga (pss ++ [srt r.2]) i
    have hi' : i < (pss ++ [srt r.2]).length := hi
    by_cases e : i < pss.length
    ·rw [hold i e]; exact I.clo i e
    ·obtain rfl : i = pss.length := by omega
     rw [hnew]
     intro z hz k hk
     exact srt_mem.2 (hcl z (srt_mem.1 hz) k hk)
   ·have hi' : i < (pss ++ [srt r.2]).length := hi
    have hj' : j < (pss ++ [srt r.2]).length := hj
    have hy1 : y ∈ ga (pss ++ [srt r.2]) i := hy
    have hy2 : y ∈ ga (pss ++ [srt r.2]) j := hy'
    have key : ∀ i, i < pss.length → y ∈ ga pss i → y ∈ r.2 → False := fun i hi h1 h2 => by
     obtain ⟨z, rfl, hzn, hz0, _⟩ := B1.el y h2
     have h5 : ga seen z = true := (I.see z hzn).2 ⟨i, hi, h1⟩
     rw [hz0] at h5; cases h5
    by_cases e : i < pss.length
    ·rw [hold i e] at hy1
     by_cases e' : j < pss.length
     ·rw [hold j e'] at hy2; exact I.dis i j e e' y hy1 hy2
     ·obtain rfl : j = pss.length := by omega
      rw [hnew] at hy2
      exact (key i e hy1 (srt_mem.1 hy2)).elim
    ·obtain rfl : i = pss.length := by omega
     rw [hnew] at hy1
     by_cases e' : j < pss.length
     ·rw [hold j e'] at hy2
      exact (key j e' hy2 (srt_mem.1 hy1)).elim
     ·omega
end Go.Proofs.Ytefkjfcncpmneaa
namespace Go.Proofs.Ytefkjfcncpmneaa
open Go.ChangeShapes Go.WideShapes Go.ChangeAt Go.RowKit
theorem endOf_back {d : Dg} (h : arcsB d = true) {c k : Nat} {b : Bool} (hc : c < d.crs.length) (hk : k < 4) (hin : entryB d c k = !b) : endOf d (arcAt d c k) b = (c, k) := by
 have hr := arcAt_bd h hc hk
 have hcn : cntP d ((arcAt d c k).toNat : Nat) b (4 * d.crs.length) = 1 := by
  have := arcsB_out h (arcAt d c k).toNat (by omega) (by omega)
  cases b
  ·exact this.1
  ·exact this.2
 rw [show (((arcAt d c k).toNat : Nat) : Int) = arcAt d c k by omega] at hcn
 obtain ⟨j, j1, j2, j3, j4⟩ := cntP_one hcn
 have hme : endP d (arcAt d c k) b (4 * c + k) = true := by rw [endP_at hk]; cases b <;> simp [hin]
 obtain rfl := j3 (4 * c + k) (by omega) hme
 have e := lastP_end hcn
 rw [j4] at e
 rw [← e]
 exact Prod.ext (by dsimp only; omega) (by dsimp only; omega)
theorem endOf_there {d : Dg} (h : arcsB d = true) {a : Int} (ha : 1 ≤ a ∧ a ≤ 2 * (d.crs.length : Int)) (b : Bool) : arcAt d (endOf d a b).1 (endOf d a b).2 = a ∧ entryB d (endOf d a b).1 (endOf d a b).2 = !b := by
 obtain ⟨_, _, _, h4, h5⟩ := endOf_lt h (a := a.toNat) (by omega) (by omega) b
 rw [show ((a.toNat : Nat) : Int) = a by omega] at h4 h5
 exact ⟨h4, h5⟩
theorem nb_sym {d : Dg} (h : arcsB d = true) (x k : Nat) (hx : x < d.crs.length) (hk : k < 4) : ∃ k', k' < 4 ∧ nbC d (nbC d x k) k' = x := by
 have ha := arcAt_bd h hx hk
 obtain ⟨h1, h2, _⟩ := endD h ha (entryB d x k)
 obtain ⟨h3, h4⟩ := endOf_there h ha (entryB d x k)
 refine ⟨(endOf d (arcAt d x k) (entryB d x k)).2, h2, ?_⟩
 show (endOf d (arcAt d (endOf d (arcAt d x k) (entryB d x k)).1 (endOf d (arcAt d x k) (entryB d x k)).2) (entryB d (endOf d (arcAt d x k) (entryB d x k)).1 (endOf d (arcAt d x k) (entryB d x k)).2)).1 = x
 rw [h3, h4, endOf_back h hx hk (by cases entryB d x k <;> rfl)]
theorem pcs {d : Dg} (h : arcsB d = true) : PcI d d.crs.length (pcsN d d.crs.length) := pcsN_pi h (nb_sym h) _ (Nat.le_refl _)
/-- The map from crossings to pieces. -/
def putP (i : Nat) (p : List Int) (es : List (Int × Int)) : Nat → List (Int × Int)
 | 0 => es
 | k + 1 => mp (ga p k) (i : Int) (putP i p es k)
def pmapN (pss : List (List Int)) : Nat → List (Int × Int)
 | 0 => []
 | i + 1 => putP i (ga pss i) (pmapN pss i) (ga pss i).length
theorem putP_mg (i : Nat) (p : List Int) (es : List (Int × Int)) (k : Nat) (hk : k ≤ p.length) (y : Int) : (y ∈ p.take k → mg y (putP i p es k) = some (i : Int)) ∧ (y ∉ p.take k → mg y (putP i p es k) = mg y es) := by
 induction k with
 | zero => exact ⟨fun h => by simp at h, fun _ => rfl⟩
 | succ k ih =>
  have ih := ih (by omega)
  rw [take_ga _ _ (by omega), putP, mg_mp]
  constructor
  ·intro h
   by_cases e : y = ga p k
   ·rw [if_pos e]
   ·rw [if_neg e]
    rcases List.mem_append.1 h with h | h
    ·exact ih.1 h
    ·exact absurd (List.mem_singleton.1 h) e
  ·intro h
   rw [List.mem_append, List.mem_singleton] at h
   rw [if_neg (fun e => h (.inr e))]
   exact ih.2 (fun e => h (.inl e))
theorem pmapN_mg {pss : List (List Int)} (hd : ∀ i j, i < pss.length → j < pss.length → ∀ y, y ∈ ga pss i → y ∈ ga pss j → i = j) (m : Nat) (hm : m ≤ pss.length) {i : Nat} (hi : i < m) {y : Int} (hy : y ∈ ga pss i) : mg y (pmapN pss m) = some (i : Int) := by
 induction m with
 | zero => omega
 | succ m ih =>
  have h := putP_mg m (ga pss m) (pmapN pss m) (ga pss m).length (Nat.le_refl _) y
  rw [List.take_length] at h
  rw [pmapN]
  by_cases e : y ∈ ga pss m
  ·rw [h.1 e, hd i m (by omega) (by omega) y hy e]
  ·rw [h.2 e]
   exact ih (by omega) (by
    rcases Nat.lt_or_ge i m with h1 | h1
    ·exact h1
    ·obtain rfl : i = m := by omega
     exact absurd hy e)
def pmap (d : Dg) : List (Int × Int) := pmapN (pcsL d) (pcsL d).length
/-- The number of a crossing's piece. -/
def pcI (d : Dg) (x : Nat) : Nat := ((mg (x : Int) (pmap d)).getD 0).toNat
theorem pcI_at {d : Dg} (h : arcsB d = true) {i x : Nat} (hi : i < (pcsL d).length) (hx : (x : Int) ∈ ga (pcsL d) i) : mg (x : Int) (pmap d) = some (i : Int) ∧ pcI d x = i := by
 have e := pmapN_mg (pcs h).dis _ (Nat.le_refl _) hi hx
 refine ⟨e, ?_⟩
 unfold pcI
 unfold pmap
 rw [show mg (x : Int) (pmapN (pcsL d) (pcsL d).length) = some (i : Int) from e]
 rfl
theorem pcI_lt {d : Dg} (h : arcsB d = true) {x : Nat} (hx : x < d.crs.length) : pcI d x < (pcsL d).length ∧ (x : Int) ∈ ga (pcsL d) (pcI d x) ∧ (mg (x : Int) (pmap d)).getD 0 = (pcI d x : Int) := by
 obtain ⟨i, hi, hm⟩ := ((pcs h).see x hx).1 ((pcs h).cov x hx)
 have hi' : i < (pcsL d).length := hi
 have hm' : (x : Int) ∈ ga (pcsL d) i := hm
 obtain ⟨h1, h2⟩ := pcI_at h hi' hm'
 rw [h2]
 exact ⟨hi', hm', by rw [h1]; rfl⟩
theorem nodup_le {α : Type} [DecidableEq α] {xs ys : List α} (h : xs.Nodup) (hs : ∀ y ∈ xs, y ∈ ys) : xs.length ≤ ys.length := by
 induction xs generalizing ys with
 | nil => exact Nat.zero_le _
 | cons x xs ih =>
  rw [List.nodup_cons] at h
  have hx := hs x (by simp)
  have h1 := ih h.2 (ys := ys.erase x) (fun y hy => (List.mem_erase_of_ne (fun (e : y = x) => h.1 (by rw [← e]; exact hy))).2 (hs y (by simp [hy])))
  rw [List.length_erase_of_mem hx] at h1
  have := List.length_pos_of_mem hx
  rw [List.length_cons]
  omega
end Go.Proofs.Ytefkjfcncpmneaa
namespace Go.Proofs.Ytefkjfcncpmneaa
open Go.ChangeShapes Go.WideShapes Go.ChangeAt Go.RowKit
def roundG (e1 e2 : Nat → Nat) (ws : List Int) : Nat → List Int
 | 0 => ws
 | k + 1 => stepW (roundG e1 e2 ws k) (e1 k) (e2 k)
def cn (P : Nat → Bool) : Nat → Nat
 | 0 => 0
 | k + 1 => cn P k + (if P k = true then 1 else 0)
theorem cn_le (P : Nat → Bool) (k : Nat) : cn P k ≤ k := by
 induction k with
 | zero => exact Nat.le_refl _
 | succ k ih => rw [cn]; split <;> omega
theorem cn_mono {P Q : Nat → Bool} (k : Nat) (h : ∀ x, x < k → P x = true → Q x = true) : cn P k ≤ cn Q k := by
 induction k with
 | zero => exact Nat.le_refl _
 | succ k ih =>
  have := ih (fun x hx => h x (by omega))
  rw [cn, cn]
  by_cases hp : P k = true
  ·rw [if_pos hp, if_pos (h k (by omega) hp)]; omega
  ·rw [if_neg hp]; omega
theorem cn_lt {P Q : Nat → Bool} (k : Nat) (h : ∀ x, x < k → P x = true → Q x = true) {x : Nat} (hx : x < k) (hq : Q x = true) (hp : P x = false) : cn P k < cn Q k := by
 induction k with
 | zero => omega
 | succ k ih =>
  rw [cn, cn]
  by_cases e : x = k
  ·subst e
   have := cn_mono x (P := P) (Q := Q) (fun y hy => h y (by omega))
   rw [if_pos hq, if_neg (by rw [hp]; exact Bool.false_ne_true)]; omega
  ·have := ih (fun y hy => h y (by omega)) (by omega)
   by_cases hp' : P k = true
   ·rw [if_pos hp', if_pos (h k (by omega) hp')]; omega
   ·rw [if_neg hp']; omega
theorem cn_all {P : Nat → Bool} (k : Nat) (h : k ≤ cn P k) : ∀ x, x < k → P x = true := by
 induction k with
 | zero => intro x hx; omega
 | succ k ih =>
  rw [cn] at h
  have hl := cn_le P k
  by_cases hp : P k = true
  ·intro x hx
   by_cases e : x = k
   ·subst e; exact hp
   ·rw [if_pos hp] at h; exact ih (by omega) x (by omega)
  ·rw [if_neg hp] at h; omega
theorem least {P : Nat → Prop} (y : Nat) (h : P y) : ∃ z, P z ∧ ∀ u, P u → z ≤ u := by
 induction y using Nat.strongRecOn with
 | _ y ih =>
  by_cases hs : ∃ u, u < y ∧ P u
  ·obtain ⟨u, hu, hp⟩ := hs
   exact ih u hu hp
  ·exact ⟨y, h, fun u hu => by
    rcases Nat.lt_or_ge u y with h1 | h1
    ·exact absurd ⟨u, h1, hu⟩ hs
    ·exact h1⟩
/-- Labels lie in their class; m is the least of each class. -/
def LabOk (N : Nat) (cl : Nat → Nat) (ws : List Int) : Prop := ws.length = N ∧ ∀ x, x < N → ∃ z : Nat, z < N ∧ ga ws x = (z : Int) ∧ cl z = cl x
theorem stepW_ok {N : Nat} {cl : Nat → Nat} {ws : List Int} (h : LabOk N cl ws) {x y : Nat} (hx : x < N) (hy : y < N) (hc : cl x = cl y) : LabOk N cl (stepW ws x y) := by
 refine ⟨by rw [stepW_len]; exact h.1, fun z hz => ?_⟩
 have hl := h.1
 unfold stepW
 split
 ·rw [ga_set _ _ _ _ (by omega)]
  split
  ·rename_i e; subst e
   obtain ⟨u, h1, h2, h3⟩ := h.2 x hx
   exact ⟨u, h1, h2, h3.trans hc⟩
  ·exact h.2 z hz
 ·rw [ga_set _ _ _ _ (by omega)]
  split
  ·rename_i e; subst e
   obtain ⟨u, h1, h2, h3⟩ := h.2 y hy
   exact ⟨u, h1, h2, h3.trans hc.symm⟩
  ·exact h.2 z hz
/-- What a step does to those that have the least label. -/
theorem stepW_good {N : Nat} {cl : Nat → Nat} {m : Nat → Nat} (hm : ∀ x, x < N → ∀ y, y < N → cl y = cl x → m x ≤ y) (hmc : ∀ x y, x < N → y < N → cl x = cl y → m x = m y) {ws : List Int} (h : LabOk N cl ws) {x y : Nat} (hx : x < N) (hy : y < N) (hc : cl x = cl y) :
  (∀ z, z < N → ga ws z = (m z : Int) → ga (stepW ws x y) z = (m z : Int)) ∧ (ga ws x = (m x : Int) ∨ ga ws y = (m y : Int) → ga (stepW ws x y) x = (m x : Int) ∧ ga (stepW ws x y) y = (m y : Int)) := by
 have hl := h.1
 have hmm := hmc x y hx hy hc
 obtain ⟨u, u1, u2, u3⟩ := h.2 x hx
 obtain ⟨v, v1, v2, v3⟩ := h.2 y hy
 have b1 := hm x hx u u1 u3
 have b2 := hm y hy v v1 v3
 unfold stepW
 by_cases hlt : ga ws x < ga ws y
 ·rw [if_pos hlt]
  simp only [ga_set _ _ _ _ (show y < ws.length by omega)]
  refine ⟨fun z hz hg => ?_, fun hg => ?_⟩
  ·split
   ·rename_i e; subst e; omega
   ·exact hg
  ·simp only [if_true, ite_self]
   have e0 : ga ws x = (m x : Int) := by rcases hg with hg | hg <;> omega
   omega
 ·rw [if_neg hlt]
  simp only [ga_set _ _ _ _ (show x < ws.length by omega)]
  refine ⟨fun z hz hg => ?_, fun hg => ?_⟩
  ·split
   ·rename_i e; subst e; omega
   ·exact hg
  ·simp only [if_true, ite_self]
   have e0 : ga ws y = (m y : Int) := by rcases hg with hg | hg <;> omega
   omega
theorem labels {N K : Nat} (e1 e2 : Nat → Nat) (he : ∀ k, k < K → e1 k < N ∧ e2 k < N) (cl : Nat → Nat) (hin : ∀ k, k < K → cl (e1 k) = cl (e2 k))
  (hcon : ∀ Z : Nat → Prop, (∀ k, k < K → (Z (e1 k) ↔ Z (e2 k))) → ∀ x y, x < N → y < N → cl x = cl y → Z x → Z y)
  (ws : Nat → List Int) (hlen : (ws 0).length = N) (h0 : ∀ x : Nat, x < N → ga (ws 0) x = (x : Int)) (hs : ∀ j, ws (j + 1) = roundG e1 e2 (ws j) K) :
  ∀ x, x < N → ∃ z : Nat, z < N ∧ ga (ws N) x = (z : Int) ∧ cl z = cl x ∧ ∀ y, y < N → cl y = cl x → z ≤ y := by
 have hex : ∀ x : Nat, ∃ z : Nat, x < N → (z < N ∧ cl z = cl x) ∧ ∀ u, u < N ∧ cl u = cl x → z ≤ u := fun x => by
  by_cases hx : x < N
  ·obtain ⟨z, h1, h2⟩ := least (P := fun z => z < N ∧ cl z = cl x) x ⟨hx, rfl⟩
   exact ⟨z, fun _ => ⟨h1, h2⟩⟩
  ·exact ⟨0, fun h => absurd h hx⟩
 obtain ⟨m, hm0⟩ := Classical.axiomOfChoice hex
 have hm : ∀ x, x < N → ∀ y, y < N → cl y = cl x → m x ≤ y := fun x hx y hy e => (hm0 x hx).2 y ⟨hy, e⟩
 have hmc : ∀ x y, x < N → y < N → cl x = cl y → m x = m y := fun x y hx hy e => by
  have h1 := hm0 x hx
  have h2 := hm0 y hy
  have := h1.2 (m y) ⟨h2.1.1, h2.1.2.trans e.symm⟩
  have := h2.2 (m x) ⟨h1.1.1, h1.1.2.trans e⟩
  omega
 have hround : ∀ w, LabOk N cl w → ∀ k, k ≤ K → LabOk N cl (roundG e1 e2 w k) ∧ (∀ z, z < N → ga w z = (m z : Int) → ga (roundG e1 e2 w k) z = (m z : Int)) ∧
   ∀ j, j < k → (ga w (e1 j) = (m (e1 j) : Int) ∨ ga w (e2 j) = (m (e2 j) : Int)) → ga (roundG e1 e2 w k) (e1 j) = (m (e1 j) : Int) ∧ ga (roundG e1 e2 w k) (e2 j) = (m (e2 j) : Int) := fun w hw k => by
  induction k with
  | zero => exact fun _ => ⟨hw, fun z _ h => h, fun j hj => by omega⟩
  | succ k ih =>
   intro hk
   obtain ⟨a1, a2, a3⟩ := ih (by omega)
   obtain ⟨p1, p2⟩ := he k (by omega)
   have hc := hin k (by omega)
   obtain ⟨g1, g2⟩ := stepW_good hm hmc a1 p1 p2 hc
   refine ⟨stepW_ok a1 p1 p2 hc, fun z hz h => g1 z hz (a2 z hz h), fun j hj hg => ?_⟩
   obtain ⟨q1, q2⟩ := he j (by omega)
   by_cases e : j = k
   ·subst e
    exact g2 (hg.elim (fun h => .inl (a2 _ q1 h)) (fun h => .inr (a2 _ q2 h)))
   ·obtain ⟨r1, r2⟩ := a3 j (by omega) hg
    exact ⟨g1 _ q1 r1, g1 _ q2 r2⟩
 have hok : ∀ j, LabOk N cl (ws j) := fun j => by
  induction j with
  | zero => exact ⟨hlen, fun x hx => ⟨x, hx, h0 x hx, rfl⟩⟩
  | succ j ih => rw [hs]; exact (hround _ ih K (Nat.le_refl _)).1
 have hpers : ∀ j z, z < N → ga (ws j) z = (m z : Int) → ga (ws (j + 1)) z = (m z : Int) := fun j z hz h => by rw [hs]; exact (hround _ (hok j) K (Nat.le_refl _)).2.1 z hz h
 have hroot : ∀ j x, x < N → ga (ws j) (m x) = (m (m x) : Int) := fun j x hx => by
  have h1 := (hm0 x hx).1
  have e : m (m x) = m x := hmc _ _ h1.1 hx h1.2
  induction j with
  | zero => rw [h0 _ h1.1, e]
  | succ j ih => exact hpers j _ h1.1 ih
 have hgrow : ∀ j, (∀ x, x < N → ga (ws j) x = (m x : Int)) ∨ j ≤ cn (fun x => decide (ga (ws j) x = (m x : Int))) N := fun j => by
  induction j with
  | zero => exact .inr (Nat.zero_le _)
  | succ j ih =>
   rcases ih with ih | ih
   ·exact .inl fun x hx => hpers j x hx (ih x hx)
   ·by_cases hnew : ∃ x, x < N ∧ ga (ws (j + 1)) x = (m x : Int) ∧ ga (ws j) x ≠ (m x : Int)
    ·obtain ⟨x, hx, h1, h2⟩ := hnew
     right
     have := cn_lt (P := fun x => decide (ga (ws j) x = (m x : Int))) (Q := fun x => decide (ga (ws (j + 1)) x = (m x : Int))) N (fun z hz h => decide_eq_true (hpers j z hz (of_decide_eq_true h))) hx (decide_eq_true h1) (decide_eq_false h2)
     omega
    ·left
     have hsame : ∀ x, x < N → ga (ws (j + 1)) x = (m x : Int) → ga (ws j) x = (m x : Int) := fun x hx h => Classical.byContradiction fun h' => hnew ⟨x, hx, h, h'⟩
     have hcl := hcon (fun x => ga (ws j) x = (m x : Int)) (fun k hk => by
      obtain ⟨q1, q2⟩ := he k hk
      have h3 := (hround _ (hok j) K (Nat.le_refl _)).2.2 k hk
      rw [← hs] at h3
      exact ⟨fun h => hsame _ q2 (h3 (.inl h)).2, fun h => hsame _ q1 (h3 (.inr h)).1⟩)
     intro x hx
     have h1 := (hm0 x hx).1
     exact hpers j x hx (hcl (m x) x h1.1 hx h1.2 (hroot j x hx))
 intro x hx
 have hall : ga (ws N) x = (m x : Int) := by
  rcases hgrow N with h | h
  ·exact h x hx
  ·exact of_decide_eq_true (cn_all N h x hx)
 have h1 := hm0 x hx
 exact ⟨m x, h1.1.1, hall, h1.1.2, fun y hy e => h1.2 y ⟨hy, e⟩⟩
end Go.Proofs.Ytefkjfcncpmneaa
namespace Go.Proofs.Ytefkjfcncpmneaa
open Go.ChangeShapes Go.WideShapes Go.ChangeAt Go.RowKit
theorem edge_nb {d : Dg} (h : arcsB d = true) {x s : Nat} (hx : x < d.crs.length) (hs : s < 4) : ∃ k, k < 2 * d.crs.length ∧ ((endC d k false = x ∧ endC d k true = nbC d x s) ∨ (endC d k true = x ∧ endC d k false = nbC d x s)) := by
 have ha := arcAt_bd h hx hs
 have e : (((arcAt d x s).toNat - 1 + 1 : Nat) : Int) = arcAt d x s := by omega
 refine ⟨(arcAt d x s).toNat - 1, by omega, ?_⟩
 unfold endC nbC
 rw [e]
 cases hb : entryB d x s
 ·right
  exact ⟨by rw [endOf_back h hx hs (b := true) hb], rfl⟩
 ·left
  exact ⟨by rw [endOf_back h hx hs (b := false) hb], rfl⟩
theorem nb_edge {d : Dg} (h : arcsB d = true) {k : Nat} (hk : k < 2 * d.crs.length) : ∃ s, s < 4 ∧ nbC d (endC d k false) s = endC d k true := by
 have ha : 1 ≤ ((k + 1 : Nat) : Int) ∧ ((k + 1 : Nat) : Int) ≤ 2 * (d.crs.length : Int) := by omega
 obtain ⟨_, h2, _⟩ := endD h ha false
 obtain ⟨h3, h4⟩ := endOf_there h ha false
 refine ⟨(endOf d ((k + 1 : Nat) : Int) false).2, h2, ?_⟩
 unfold nbC endC
 rw [h3, h4]
 rfl
theorem pcI_nb {d : Dg} (h : arcsB d = true) {x s : Nat} (hx : x < d.crs.length) (hs : s < 4) : pcI d (nbC d x s) = pcI d x := by
 obtain ⟨h1, h2, _⟩ := pcI_lt h hx
 exact (pcI_at h h1 ((pcs h).clo _ h1 _ h2 s hs)).2
theorem iniW_ga (n k : Nat) (hk : k ≤ n) (x : Nat) (hx : x < k) : ga (iniW n k) x = (x : Int) := by
 induction k with
 | zero => omega
 | succ k ih =>
  rw [iniW, ga_set _ _ _ _ (by rw [iniW_len]; omega)]
  split
  ·rename_i e; subst e; rfl
  ·exact ih (by omega) (by omega)
theorem roundG_W (d : Dg) (ws : List Int) (k : Nat) : roundW d ws k = roundG (fun j => endC d j false) (fun j => endC d j true) ws k := by
 induction k with
 | zero => rfl
 | succ k ih => rw [roundW, roundG, ih]
theorem rc_lt {d : Dg} (h : arcsB d = true) {x y : Nat} (hr : Rc d x y) (hx : x < d.crs.length) : y < d.crs.length := by
 induction hr with
 | refl => exact hx
 | step _ hk ih => exact nbC_lt h ih hk
theorem pieces_join {d : Dg} (h : arcsB d = true) (Z : Nat → Prop) (hZ : ∀ x s, x < d.crs.length → s < 4 → (Z x ↔ Z (nbC d x s))) {x y : Nat} (hx : x < d.crs.length) (hy : y < d.crs.length) (e : pcI d x = pcI d y) : Z x → Z y := by
 have hrc : ∀ c z, c < d.crs.length → Rc d c z → (Z c ↔ Z z) := fun c z hc hr => by
  induction hr with
  | refl => exact Iff.rfl
  | step hr' hk ih => exact ih.trans (hZ _ _ (rc_lt h hr' hc) hk)
 obtain ⟨h1, h2, _⟩ := pcI_lt h hx
 obtain ⟨_, h2', _⟩ := pcI_lt h hy
 rw [← e] at h2'
 obtain ⟨_, c0, hc0, _, hel⟩ := (pcs h).el _ h1
 obtain ⟨u, eu, _, ru⟩ := hel _ h2
 obtain ⟨v, ev, _, rv⟩ := hel _ h2'
 obtain rfl : x = u := by omega
 obtain rfl : y = v := by omega
 exact fun hz => (hrc _ _ hc0 rv).1 ((hrc _ _ hc0 ru).2 hz)
/-- Each crossing's label is the least crossing of its piece. -/
theorem whoL_law {d : Dg} (h : arcsB d = true) : ∀ x, x < d.crs.length → ∃ z : Nat, z < d.crs.length ∧ ga (whoL d) x = (z : Int) ∧ pcI d z = pcI d x ∧ ∀ y, y < d.crs.length → pcI d y = pcI d x → z ≤ y :=
 labels (N := d.crs.length) (K := 2 * d.crs.length) (fun j => endC d j false) (fun j => endC d j true) (fun k hk => ⟨endC_lt h hk false, endC_lt h hk true⟩) (pcI d)
  (fun k hk => by
   obtain ⟨s, hs, e⟩ := nb_edge h hk
   rw [← e, pcI_nb h (endC_lt h hk false) hs])
  (fun Z hZ x y hx hy e => pieces_join h Z (fun u s hu hs => by
   obtain ⟨k, hk, hh⟩ := edge_nb h hu hs
   have := hZ k hk
   rcases hh with ⟨h1, h2⟩ | ⟨h1, h2⟩
   ·rw [h1, h2] at this; exact this
   ·rw [h1, h2] at this; exact this.symm) hx hy e)
  (rndsW d) (rndsW_len d 0) (fun x hx => iniW_ga _ _ (Nat.le_refl _) x hx) (fun j => by rw [rndsW, roundG_W])
theorem who_root {d : Dg} (h : arcsB d = true) {x z : Nat} (hx : x < d.crs.length) (hz : ga (whoL d) x = (z : Int)) : z < d.crs.length ∧ pcI d z = pcI d x ∧ ga (whoL d) z = (z : Int) := by
 obtain ⟨u, h1, h2, h3, h4⟩ := whoL_law h x hx
 obtain rfl : z = u := by omega
 obtain ⟨v, g1, g2, g3, g4⟩ := whoL_law h z h1
 have a1 := g4 z h1 rfl
 have a2 := h4 v g1 (g3.trans h3)
 obtain rfl : v = z := by omega
 exact ⟨h1, h3, g2⟩
theorem who_iff {d : Dg} (h : arcsB d = true) {p : Nat} (hp : p < d.crs.length) (hr : ga (whoL d) p = (p : Int)) {x : Nat} (hx : x < d.crs.length) : ga (whoL d) x = (p : Int) ↔ pcI d x = pcI d p := by
 constructor
 ·intro e
  exact (who_root h hx e).2.1.symm
 ·intro e
  obtain ⟨u, h1, h2, h3, h4⟩ := whoL_law h x hx
  obtain ⟨v, g1, g2, g3, g4⟩ := whoL_law h p hp
  obtain rfl : v = p := by omega
  have a1 := h4 v hp e.symm
  have a2 := g4 u h1 (h3.trans e)
  rw [h2]
  omega
end Go.Proofs.Ytefkjfcncpmneaa
namespace Go.Proofs.Ytefkjfcncpmneaa
open Go.ChangeShapes Go.WideShapes Go.ChangeAt Go.RowKit
theorem SH.pubBx {w : World} {M : Hp} {X : Fr} {H H' : List Rs} {i g : Nat} {T : TypeId} {l : List Value} (S : SH w M X H) (hi : nth H i = some (Rs.box g T l)) (hH : H.set i Rs.emp = H') : ∃ M', M.le M' ∧ SH w M' X H' ∧ BxM M' g T l := by
 obtain ⟨h1, h2, h3⟩ := S.pub hi hH
 have h4 : hp w g = some (.cells l.toArray T (0, 0)) := S.get hi
 exact ⟨_, h1, h2, (h3 g (by simp [Rs.box])).trans h4⟩
theorem mayO {d : Dg} (h : mayB d = true) : d.crs.length ≤ 16 ∧ arcsB d = true ∧ 0 ≤ d.loops ∧ d.loops ≤ 16 := by
 rw [mayB_arcs, Bool.and_eq_true, decide_eq_true_iff] at h
 exact ⟨h.1.1, h.2, h.1.2.1, h.1.2.2.1⟩
def ShM (N : Hp) (d : Dg) (g : Nat) (cA iA oA : Option Addr) (cc ic oc : Nat) : Prop := BxM N g 93 [.slice cA d.crs.length cc, .int .i64 d.loops, .slice iA (tabL d false (4 * d.crs.length)).length ic, .slice oA (tabL d true (4 * d.crs.length)).length oc] ∧ RdA cdCr N cA cc d.crs ∧ RdA cdPl N iA ic (tabL d false (4 * d.crs.length)) ∧ RdA cdPl N oA oc (tabL d true (4 * d.crs.length))
def NewT (d : Dg) (v : Value) (N : Hp) : Prop :=
 (mayB d = false ∧ v = .tuple [.pointer none, .bool false].toArray) ∨
 (mayB d = true ∧ ∃ g cA iA oA cc ic oc, v = .tuple [.pointer (some ⟨g, 0, none⟩), .bool true].toArray ∧ ShM N d g cA iA oA cc ic oc)
theorem New_t {w : World} {M : Hp} {X : Fr} (d : Dg) {A : Option Addr} {c : Nat} (h : RdA cdCr (M.un X.h) A c d.crs) (S : SH w M X []) : Ct Try.prog 27 [.agg [.slice A d.crs.length c, .int .i64 d.loops].toArray] w M X (NewT d) := by
 refine (New_o d h S).mono ?_
 rintro e w' ⟨v, rfl, N, S1, ⟨hm, rfl, rfl⟩ | ⟨hm, g, vc, vi, vo, rfl, rfl, hv⟩⟩
 ·exact ⟨_, rfl, M, Hp.le_refl _, S1, .inl ⟨hm, rfl⟩⟩
 ·obtain ⟨hn, _⟩ := mayO hm
  have t1 := tabL_len d false (4 * d.crs.length)
  have t2 := tabL_len d true (4 * d.crs.length)
  clear hv
  obtain ⟨M1, l1, S2, ⟨cA, cc, rfl, r1⟩⟩ := S1.pubrow (i := 1) rfl rfl (by show _ * 40 ≤ _; omega)
  obtain ⟨M2, l2, S3, ⟨iA, ic, rfl, r2⟩⟩ := S2.pubrow (C := cdPl) (xs := tabL d false (4 * d.crs.length)) (i := 2) rfl rfl (by show _ * 16 ≤ _; omega)
  obtain ⟨M3, l3, S4, ⟨oA, oc, rfl, r3⟩⟩ := S3.pubrow (C := cdPl) (xs := tabL d true (4 * d.crs.length)) (i := 3) rfl rfl (by show _ * 16 ≤ _; omega)
  obtain ⟨M4, l4, S5, b⟩ := S4.pubBx (i := 0) rfl rfl
  exact ⟨_, rfl, M4, (l1.trans l2).trans (l3.trans l4), S5.pick [] [] (by decide) trivial, .inr ⟨hm, g, cA, iA, oA, cc, ic, oc, rfl, b, ((r1.mono l2).mono l3).mono l4, (r2.mono l3).mono l4, r3.mono l4⟩⟩
def DgR (d : Dg) (u : Value) (M : Hp) : Prop := ∃ A c, u = .agg [.slice A d.crs.length c, .int .i64 d.loops].toArray ∧ RdA cdCr M A c d.crs
noncomputable def DiagramOf_n0 : Code := Try.f9.body.getD .skip
noncomputable def DiagramOf_n1 : Code := cL DiagramOf_n0
noncomputable def DiagramOf_n2 : Code := cR DiagramOf_n0
noncomputable def DiagramOf_n3 : Code := cL DiagramOf_n2
noncomputable def DiagramOf_n4 : Code := cR DiagramOf_n2
noncomputable def DiagramOf_n5 : Code := cL DiagramOf_n4
noncomputable def DiagramOf_n6 : Code := cR DiagramOf_n4
set_option maxRecDepth 10000 in
theorem DiagramOf_t {w : World} {M : Hp} {X : Fr} (d : Dg) {dcrsA : Option Addr} {dcrsc : Nat} (hdcrs : RdA cdCr (M.un X.h) dcrsA dcrsc d.crs) (S : SH w M X []) : Ct Try.prog 9 [.agg [.slice dcrsA d.crs.length dcrsc, .int .i64 d.loops].toArray] w M X (DgR d) := by
 unfold Ct
 have rmhdcrs : d.crs.length * 40 ≤ 140737488355328 := hdcrs.room
 have hroom : d.crs.length * 40 ≤ 140737488355328 := hdcrs.room
 refine calls_in (b := DiagramOf_n0) Try.func9 rfl Try.ntmps9 rfl (fun C hC => ?_)
 refine ws_sub [(0, _)] ⟨rfl, trivial⟩ ?_
 refine ws_seqN DiagramOf_n1 DiagramOf_n2 rfl rfl rfl ?_
 refine ws_region rfl ?_
 refine wlo 0 1 rfl rfl rfl (wo_box (l := [_, _]) rfl rfl rfl rfl rfl S ?_)
 intro gb1 w1 S1; clear S
 refine wlo 1 2 rfl rfl rfl (wo_alloc (l := [_, _]) rfl rfl rfl zr24 rfl S1 ?_)
 intro gb2 w2 S2; clear S1
 refine wl_end rfl ?_
 refine nm_sub [(1, _), (2, _)] ⟨rfl, rfl, trivial⟩ ?_
 refine nm_thn ?_
 refine ws_seqN DiagramOf_n3 DiagramOf_n4 rfl rfl rfl ?_
 refine ws_region rfl ?_
 refine wlo 0 1 rfl rfl rfl (wo_run rfl rfl (run_fieldAddr rfl rfl Try.underlying24 rfl (ce22) (nf22)) ?_)
 refine wlo 1 2 rfl rfl rfl (wo_run rfl rfl (run_load1 rfl rfl Try.underlying22 rfl (S2.boxc (i := 1) rfl rfl)) ?_)
 have S3 := S2.nilrow cdCr; clear S2
 refine wlo 2 3 rfl rfl rfl (wo_appendM (C := cdCr) (i := 0) rfl rfl rfl rfl rfl rfl rfl rfl sl22 S3 rfl hdcrs S3.um (by have h : _ * 40 ≤ _ := hdcrs.room; show (0 + _) * 40 ≤ _; first | omega | (simp only [lens]; omega)) ?_)
 intro vr2 w3 S4; clear S3
 change SH _ _ _ [Rs.row cdCr vr2 d.crs, _, _] at S4
 refine wlo 3 4 rfl rfl rfl (wo_run rfl rfl (run_fieldAddr rfl rfl Try.underlying24 rfl (ce22) (nf22)) ?_)
 refine wlo 4 5 rfl rfl rfl (wo_storeB (i := 2) (us := [_]) (l' := [_, _]) (H' := [_, _, _]) rfl rfl S4 rfl rfl rfl (S4.cells1 (i := 0) rfl) sz22 rfl (ones_cons (S4.one (i := 0) rfl) rfl) rfl rfl ?_)
 intro w4 S5; clear S4
 refine wl_end rfl ?_
 refine nm_sub [(1, _), (2, _)] ⟨rfl, rfl, trivial⟩ ?_
 refine nm_thn ?_
 refine ws_seqN DiagramOf_n5 DiagramOf_n6 rfl rfl rfl ?_
 refine ws_region rfl ?_
 refine wlo 0 1 rfl rfl rfl (wo_run rfl rfl (run_loadN (us := [_, _]) rfl rfl Try.underlying24 rfl sz24 (S5.boxcs (i := 2) rfl ⟨rfl, rfl, trivial⟩)) ?_)
 refine wlo 1 2 rfl rfl rfl (wo_storeB (i := 1) (us := [_, _]) (l' := [_, _]) (H' := [_, _, _]) rfl rfl S5 rfl rfl rfl rfl sz24 rfl (ones_cons (S5.one (i := 0) rfl) (ones_cons rfl rfl)) rfl rfl ?_)
 intro w5 S6; clear S5
 refine wl_end rfl ?_
 refine nm_sub [(2, _)] ⟨rfl, trivial⟩ ?_
 refine nm_thn ?_
 obtain ⟨M1, hle1, S7, ⟨A1, c1, e1, hr1⟩⟩ := S6.pubrow (i := 0) (H' := [_, _, _]) rfl rfl (by show _ * 40 ≤ _; first | omega | (simp only [lens]; omega))
 clear S6; subst e1
 replace hdcrs := hdcrs.mono (Hp.un_mono hle1 S7.mx)
 refine ws_ret hC [_] rfl rfl ⟨⟨_, rfl, loadVarN (us := [_, _]) Try.underlying24 rfl sz24 (S7.boxcs (i := 1) rfl ⟨rfl, rfl, trivial⟩)⟩, trivial⟩ ?_
 refine ⟨_, rfl, _, hle1, (S7.pick [] [] (by decide) trivial), ?_⟩
 exact ⟨_, _, rfl, hr1⟩
end Go.Proofs.Ytefkjfcncpmneaa
namespace Go.Proofs.Ytefkjfcncpmneaa
open Go.ChangeShapes Go.WideShapes Go.ChangeAt Go.RowKit
structure Cf where
 nu : List Int
 od : List Int
 co : List Int
def nbS (d : Dg) (x k : Nat) : Nat := (endOf d (arcAt d x k) (entryB d x k)).2
def cfS (d : Dg) (c : Nat) (s : Cf) (k : Nat) : Cf :=
 if ga s.nu (nbC d c k) < 0 then ⟨s.nu.set (nbC d c k) (s.od.length : Int), s.od ++ [(nbC d c k : Int)], s.co ++ [(s.od.length : Int), (nbS d c k : Int)]⟩
 else ⟨s.nu, s.od, s.co ++ [ga s.nu (nbC d c k), (nbS d c k : Int)]⟩
def cfK (d : Dg) (c : Nat) (s : Cf) : Nat → Cf
 | 0 => s
 | k + 1 => cfS d c (cfK d c s k) k
def plI (x : Cr) : Int := if x.plus = true then 1 else 0
def cfG (d : Dg) (s : Cf) (i : Nat) : Cf := cfK d (ga s.od i).toNat ⟨s.nu, s.od, s.co ++ [plI (ga d.crs (ga s.od i).toNat)]⟩ 4
def cf0 (d : Dg) (st : Nat) : Cf := ⟨(List.replicate d.crs.length (-1)).set st 0, [(st : Int)], []⟩
def cfN (d : Dg) (st : Nat) : Nat → Cf
 | 0 => cf0 d st
 | i + 1 => if i < (cfN d st i).od.length then cfG d (cfN d st i) i else cfN d st i
def cfE (d : Dg) (st : Nat) : Cf := cfN d st d.crs.length
structure CfI (d : Dg) (st : Nat) (s : Cf) : Prop where
 nl : s.nu.length = d.crs.length
 od : ∀ j, j < s.od.length → 0 ≤ ga s.od j ∧ (ga s.od j).toNat < d.crs.length ∧ ga s.nu (ga s.od j).toNat = (j : Int)
 nu : ∀ x, x < d.crs.length → -1 ≤ ga s.nu x ∧ ga s.nu x < (s.od.length : Int) ∧ (0 ≤ ga s.nu x → ga s.od (ga s.nu x).toNat = (x : Int))
 pc : ∀ x, x < d.crs.length → 0 ≤ ga s.nu x → pcI d x = pcI d st
 sn : 0 ≤ ga s.nu st
 ps : 0 < s.od.length
theorem cf0_ok {d : Dg} {st : Nat} (hs : st < d.crs.length) : CfI d st (cf0 d st) := by
 have hg : ∀ x, x < d.crs.length → ga ((List.replicate d.crs.length (-1 : Int)).set st 0) x = if st = x then 0 else -1 := fun x hx => by
  rw [ga_set _ _ _ _ (by simpa using hs), ga_rep _ _ _ hx]
 refine ⟨by simp [cf0], fun j hj => ?_, fun x hx => ?_, fun x hx h => ?_, ?_, by simp [cf0]⟩
 ·have hj' : j < 1 := hj
  obtain rfl : j = 0 := by omega
  show 0 ≤ (st : Int) ∧ ((st : Int)).toNat < _ ∧ ga ((List.replicate d.crs.length (-1 : Int)).set st 0) ((st : Int)).toNat = _
  rw [Int.toNat_natCast, hg _ hs, if_pos rfl]
  exact ⟨by omega, hs, rfl⟩
 ·show -1 ≤ ga ((List.replicate d.crs.length (-1 : Int)).set st 0) x ∧ ga ((List.replicate d.crs.length (-1 : Int)).set st 0) x < 1 ∧ (0 ≤ ga ((List.replicate d.crs.length (-1 : Int)).set st 0) x → ga [(st : Int)] (ga ((List.replicate d.crs.length (-1 : Int)).set st 0) x).toNat = _)
  rw [hg x hx]
  split
  ·rename_i e; subst e; exact ⟨by omega, by omega, fun _ => rfl⟩
  ·exact ⟨by omega, by omega, fun h => by omega⟩
 ·replace h : 0 ≤ ga ((List.replicate d.crs.length (-1 : Int)).set st 0) x := h
  rw [hg x hx] at h
  split at h
  ·rename_i e; subst e; rfl
  ·omega
 ·show 0 ≤ ga ((List.replicate d.crs.length (-1 : Int)).set st 0) st
  rw [hg st hs, if_pos rfl]; exact Int.le_refl _
/-- What grows: what is seen stays seen, the order is prolonged. -/
structure CfM (s t : Cf) : Prop where
 nu : ∀ x, 0 ≤ ga s.nu x → ga t.nu x = ga s.nu x
 od : ∃ l, t.od = s.od ++ l
theorem CfM.refl (s : Cf) : CfM s s := ⟨fun _ _ => rfl, [], by simp⟩
theorem CfM.trans {s t u : Cf} (h : CfM s t) (k : CfM t u) : CfM s u := ⟨fun x hx => by rw [k.nu x (by rw [h.nu x hx]; exact hx), h.nu x hx], by
 obtain ⟨l, e⟩ := h.od
 obtain ⟨m, e2⟩ := k.od
 exact ⟨l ++ m, by rw [e2, e, List.append_assoc]⟩⟩
theorem CfM.at_ {s t : Cf} (h : CfM s t) {j : Nat} (hj : j < s.od.length) : ga t.od j = ga s.od j := by
 obtain ⟨l, e⟩ := h.od
 rw [e, ga_append_left _ _ _ hj]
theorem CfM.len {s t : Cf} (h : CfM s t) : s.od.length ≤ t.od.length := by
 obtain ⟨l, e⟩ := h.od
 rw [e, List.length_append]; omega
theorem cfS_ok {d : Dg} (hab : arcsB d = true) {st c k : Nat} {s : Cf} (h : CfI d st s) (hc : c < d.crs.length) (hp : pcI d c = pcI d st) (hk : k < 4) :
  CfI d st (cfS d c s k) ∧ CfM s (cfS d c s k) ∧ 0 ≤ ga (cfS d c s k).nu (nbC d c k) ∧ (cfS d c s k).co.length = s.co.length + 2 := by
 have hn := nbC_lt hab hc hk
 have hnl := h.nl
 unfold cfS
 split
 ·rename_i hneg
  have hg : ∀ x, ga (s.nu.set (nbC d c k) (s.od.length : Int)) x = if nbC d c k = x then (s.od.length : Int) else ga s.nu x := fun x => ga_set _ _ _ _ (by omega)
  refine ⟨⟨by simpa using h.nl, fun j hj => ?_, fun x hx => ?_, fun x hx h9 => ?_, ?_, by show 0 < (s.od ++ _).length; simp⟩, ⟨fun x hx => ?_, _, rfl⟩, ?_, by simp⟩
  ·have hj' : j < (s.od ++ [((nbC d c k : Nat) : Int)]).length := hj
   show 0 ≤ ga (s.od ++ [((nbC d c k : Nat) : Int)]) j ∧ (ga (s.od ++ [((nbC d c k : Nat) : Int)]) j).toNat < _ ∧ ga (s.nu.set (nbC d c k) (s.od.length : Int)) (ga (s.od ++ [((nbC d c k : Nat) : Int)]) j).toNat = _
   rw [List.length_append, List.length_singleton] at hj'
   by_cases e : j < s.od.length
   ·obtain ⟨o1, o2, o3⟩ := h.od j e
    rw [ga_append_left _ _ _ e, hg]
    refine ⟨o1, o2, ?_⟩
    rw [if_neg (fun e2 => by rw [e2, o3] at hneg; omega)]
    exact o3
   ·obtain rfl : j = s.od.length := by omega
    rw [ga_append_right _ _ _ (Nat.le_refl _), Nat.sub_self]
    show 0 ≤ ((nbC d c k : Nat) : Int) ∧ (((nbC d c k : Nat) : Int)).toNat < _ ∧ ga (s.nu.set (nbC d c k) (s.od.length : Int)) (((nbC d c k : Nat) : Int)).toNat = _
    rw [Int.toNat_natCast, hg, if_pos rfl]
    exact ⟨by omega, hn, rfl⟩
  ·show -1 ≤ ga (s.nu.set (nbC d c k) (s.od.length : Int)) x ∧ ga (s.nu.set (nbC d c k) (s.od.length : Int)) x < ((s.od ++ [((nbC d c k : Nat) : Int)]).length : Int) ∧ (0 ≤ ga (s.nu.set (nbC d c k) (s.od.length : Int)) x → ga (s.od ++ [((nbC d c k : Nat) : Int)]) (ga (s.nu.set (nbC d c k) (s.od.length : Int)) x).toNat = _)
   rw [hg, List.length_append, List.length_singleton]
   split
   ·rename_i e; subst e
    refine ⟨by omega, by omega, fun _ => ?_⟩
    rw [Int.toNat_natCast, ga_append_right _ _ _ (Nat.le_refl _), Nat.sub_self]; rfl
   ·obtain ⟨o1, o2, o3⟩ := h.nu x hx
    refine ⟨o1, by omega, fun h0 => ?_⟩
    rw [ga_append_left _ _ _ (by omega)]
    exact o3 h0
  ·replace h9 : 0 ≤ ga (s.nu.set (nbC d c k) (s.od.length : Int)) x := h9
   rw [hg] at h9
   split at h9
   ·rename_i e; subst e; rw [pcI_nb hab hc hk]; exact hp
   ·exact h.pc x hx h9
  ·show 0 ≤ ga (s.nu.set (nbC d c k) (s.od.length : Int)) st
   rw [hg]
   split
   ·omega
   ·exact h.sn
  ·show ga (s.nu.set (nbC d c k) (s.od.length : Int)) x = _
   rw [hg, if_neg (fun e => by subst e; omega)]
  ·show 0 ≤ ga (s.nu.set (nbC d c k) (s.od.length : Int)) (nbC d c k)
   rw [hg, if_pos rfl]; omega
 ·rename_i hneg
  exact ⟨⟨h.nl, h.od, h.nu, h.pc, h.sn, h.ps⟩, ⟨fun _ _ => rfl, [], by simp⟩, by show 0 ≤ ga s.nu _; omega, by simp⟩
theorem cfK_ok {d : Dg} (hab : arcsB d = true) {st c : Nat} {s : Cf} (h : CfI d st s) (hc : c < d.crs.length) (hp : pcI d c = pcI d st) (k : Nat) (hk : k ≤ 4) :
  CfI d st (cfK d c s k) ∧ CfM s (cfK d c s k) ∧ (∀ j, j < k → 0 ≤ ga (cfK d c s k).nu (nbC d c j)) ∧ (cfK d c s k).co.length = s.co.length + 2 * k := by
 induction k with
 | zero => exact ⟨h, CfM.refl s, fun j hj => by omega, rfl⟩
 | succ k ih =>
  obtain ⟨i1, i2, i3, i4⟩ := ih (by omega)
  obtain ⟨j1, j2, j3, j4⟩ := cfS_ok hab (k := k) i1 hc hp (by omega)
  refine ⟨j1, i2.trans j2, fun j hj => ?_, ?_⟩
  ·by_cases e : j = k
   ·subst e; exact j3
   ·have := i3 j (by omega)
    show 0 ≤ ga (cfS d c (cfK d c s k) k).nu (nbC d c j)
    rw [j2.nu _ this]; exact this
  ·show (cfS d c (cfK d c s k) k).co.length = _
   rw [j4, i4]; omega
theorem cfN_ok {d : Dg} (hab : arcsB d = true) {st : Nat} (hs : st < d.crs.length) (i : Nat) : CfI d st (cfN d st i) ∧
  (∀ j, j < i → j < (cfN d st i).od.length → ∀ k, k < 4 → 0 ≤ ga (cfN d st i).nu (nbC d (ga (cfN d st i).od j).toNat k)) ∧ (cfN d st i).co.length = 9 * min i (cfN d st i).od.length := by
 induction i with
 | zero => exact ⟨cf0_ok hs, fun j hj => by omega, by simp [cfN, cf0]⟩
 | succ i ih =>
  obtain ⟨i1, i2, i3⟩ := ih
  rw [cfN]
  split
  ·rename_i hlt
   obtain ⟨o1, o2, o3⟩ := i1.od i hlt
   have hp : pcI d (ga (cfN d st i).od i).toNat = pcI d st := i1.pc _ o2 (by rw [o3]; omega)
   obtain ⟨k1, k2, k3, k4⟩ := cfK_ok hab (s := ⟨(cfN d st i).nu, (cfN d st i).od, (cfN d st i).co ++ [plI (ga d.crs (ga (cfN d st i).od i).toNat)]⟩) ⟨i1.nl, i1.od, i1.nu, i1.pc, i1.sn, i1.ps⟩ o2 hp 4 (Nat.le_refl _)
   have hl := k2.len
   replace hl : (cfN d st i).od.length ≤ (cfG d (cfN d st i) i).od.length := hl
   refine ⟨k1, fun j hj hj2 k hk => ?_, ?_⟩
   ·by_cases e : j = i
    ·subst e
     have e2 : ga (cfG d (cfN d st j) j).od j = ga (cfN d st j).od j := k2.at_ hlt
     rw [e2]
     exact k3 k hk
    ·have e2 : ga (cfG d (cfN d st i) i).od j = ga (cfN d st i).od j := k2.at_ (by show j < (cfN d st i).od.length; omega)
     have := i2 j (by omega) (by omega) k hk
     rw [e2]
     have e3 := k2.nu _ this
     show 0 ≤ ga (cfG d (cfN d st i) i).nu _
     rw [show ga (cfG d (cfN d st i) i).nu (nbC d (ga (cfN d st i).od j).toNat k) = _ from e3]; exact this
   ·show (cfG d (cfN d st i) i).co.length = _
    have k4' : (cfG d (cfN d st i) i).co.length = ((cfN d st i).co ++ [plI (ga d.crs (ga (cfN d st i).od i).toNat)]).length + 2 * 4 := k4
    rw [k4', List.length_append, i3, List.length_singleton, Nat.min_eq_left (by omega), Nat.min_eq_left (by omega)]
    omega
  ·rename_i hlt
   refine ⟨i1, fun j hj hj2 k hk => i2 j (by omega) hj2 k hk, ?_⟩
   rw [i3, Nat.min_eq_right (by omega), Nat.min_eq_right (by omega)]
theorem CfI.nod {d : Dg} {st : Nat} {s : Cf} (h : CfI d st s) : s.od.Nodup := by
 rw [List.nodup_iff_pairwise_ne, List.pairwise_iff_getElem]
 intro i j hi hj hij e
 obtain ⟨_, _, o1⟩ := h.od i hi
 obtain ⟨_, _, o2⟩ := h.od j hj
 rw [ga_eq hi] at o1
 rw [ga_eq hj, ← e, o1] at o2
 omega
theorem CfI.le {d : Dg} {st : Nat} {s : Cf} (h : CfI d st s) : s.od.length ≤ d.crs.length := by
 have := nodup_le (ys := (List.range d.crs.length).map fun x : Nat => (x : Int)) h.nod (fun y hy => by
  obtain ⟨j, hj, rfl⟩ := List.mem_iff_getElem.1 hy
  obtain ⟨o1, o2, _⟩ := h.od j hj
  rw [ga_eq hj] at o1 o2
  exact List.mem_map.2 ⟨(s.od[j]).toNat, List.mem_range.2 o2, by omega⟩)
 simpa using this
theorem cfN_end {d : Dg} {st i : Nat} (h : (cfN d st i).od.length ≤ i) (j : Nat) (hj : i ≤ j) : cfN d st j = cfN d st i := by
 induction j with
 | zero => obtain rfl : i = 0 := (by omega); rfl
 | succ j ih =>
  by_cases e : i = j + 1
  ·rw [e]
  ·have := ih (by omega)
   rw [cfN, this, if_neg (by omega)]
theorem cfE_len {d : Dg} (hab : arcsB d = true) {st : Nat} (hs : st < d.crs.length) : (cfE d st).od.length = (ga (pcsL d) (pcI d st)).length ∧ (cfE d st).co.length = 9 * (cfE d st).od.length ∧ (cfE d st).od.length ≤ d.crs.length := by
 unfold cfE
 obtain ⟨h, hcl, hco⟩ := cfN_ok hab hs d.crs.length
 have hle := h.le
 obtain ⟨p1, p2, _⟩ := pcI_lt hab hs
 obtain ⟨p3, c0, _, _, p4⟩ := (pcs hab).el _ p1
 have hcl2 : ∀ x k, x < d.crs.length → k < 4 → 0 ≤ ga (cfN d st d.crs.length).nu x → 0 ≤ ga (cfN d st d.crs.length).nu (nbC d x k) := fun x k hx hk h0 => by
  obtain ⟨n1, n2, n3⟩ := h.nu x hx
  have e := n3 h0
  have := hcl (ga (cfN d st d.crs.length).nu x).toNat (by have h0' : 0 ≤ ga (cfN d st d.crs.length).nu x := h0; omega) (by have h0' : 0 ≤ ga (cfN d st d.crs.length).nu x := h0; omega) k hk
  rw [e, Int.toNat_natCast] at this
  exact this
 have hZ : ∀ y, y < d.crs.length → pcI d st = pcI d y → 0 ≤ ga (cfN d st d.crs.length).nu y := fun y hy e =>
  pieces_join hab (fun x => 0 ≤ ga (cfN d st d.crs.length).nu x) (fun x k hx hk => ⟨hcl2 x k hx hk, fun h9 => by
   obtain ⟨k', hk', e2⟩ := nb_sym hab x k hx hk
   have := hcl2 (nbC d x k) k' (nbC_lt hab hx hk) hk' h9
   rwa [e2] at this⟩) hs hy e h.sn
 refine ⟨?_, ?_, hle⟩
 ·apply Nat.le_antisymm
  ·exact nodup_le h.nod fun y hy => by
    obtain ⟨j, hj, rfl⟩ := List.mem_iff_getElem.1 hy
    obtain ⟨o1, o2, o3⟩ := h.od j hj
    rw [ga_eq hj] at o1 o2 o3
    obtain ⟨_, q2, _⟩ := pcI_lt hab o2
    have e := h.pc _ o2 (by rw [o3]; omega)
    rw [e, Int.toNat_of_nonneg o1] at q2
    exact q2
  ·exact nodup_le p3 fun y hy => by
    obtain ⟨z, rfl, hz, _⟩ := p4 y hy
    have e := (pcI_at hab p1 hy).2
    have h0 := hZ z hz e.symm
    obtain ⟨n1, n2, n3⟩ := h.nu z hz
    have e2 := n3 h0
    have h0' : 0 ≤ ga (cfN d st d.crs.length).nu z := h0
    rw [← e2]
    exact ga_mem (by omega)
 ·show (cfN d st d.crs.length).co.length = 9 * (cfN d st d.crs.length).od.length
  rw [hco, Nat.min_eq_right hle]
end Go.Proofs.Ytefkjfcncpmneaa
namespace Go.Proofs.Ytefkjfcncpmneaa
open Go.ChangeShapes Go.WideShapes Go.ChangeAt Go.RowKit
def cmpL : List Int → List Int → Int
 | [], [] => 0
 | [], _ :: _ => -1
 | _ :: _, [] => 1
 | x :: xs, y :: ys => if x < y then -1 else if y < x then 1 else cmpL xs ys
theorem cmpL_vals : ∀ a b : List Int, cmpL a b = -1 ∨ cmpL a b = 0 ∨ cmpL a b = 1
 | [], [] => .inr (.inl rfl)
 | [], _ :: _ => .inl rfl
 | _ :: _, [] => .inr (.inr rfl)
 | x :: xs, y :: ys => by
  rw [cmpL]
  split
  ·exact .inl rfl
  ·split
   ·exact .inr (.inr rfl)
   ·exact cmpL_vals xs ys
theorem cmpL_anti : ∀ a b : List Int, cmpL b a = - cmpL a b
 | [], [] => rfl
 | [], _ :: _ => rfl
 | _ :: _, [] => rfl
 | x :: xs, y :: ys => by
  rw [cmpL, cmpL]
  by_cases h : x < y
  ·rw [if_pos h, if_neg (by omega), if_pos h]; rfl
  ·by_cases h2 : y < x
   ·rw [if_pos h2, if_neg h, if_pos h2]
   ·rw [if_neg h2, if_neg h, if_neg h, if_neg h2, cmpL_anti xs ys]
theorem cmpL_trans : ∀ a b c : List Int, cmpL a b ≤ 0 → cmpL b c ≤ 0 → cmpL a c ≤ 0 ∧ (cmpL a b < 0 ∨ cmpL b c < 0 → cmpL a c < 0)
 | [], [], [] => fun _ _ => ⟨Int.le_refl _, fun h => h.elim id id⟩
 | [], [], _ :: _ => fun _ _ => by simp [cmpL]
 | [], _ :: _, [] => fun _ h => by simp [cmpL] at h
 | [], _ :: _, _ :: _ => fun _ _ => by simp [cmpL]
 | _ :: _, [], _ => fun h _ => by simp [cmpL] at h
 | _ :: _, _ :: _, [] => fun _ h => by simp [cmpL] at h
 | x :: xs, y :: ys, z :: zs => fun h1 h2 => by
  have ih := cmpL_trans xs ys zs
  rw [cmpL] at h1 h2 ⊢
  rw [cmpL, cmpL]
  by_cases a1 : x < y
  ·by_cases a2 : y < z
   ·rw [if_pos a1, if_pos a2, if_pos (show x < z by omega)]; exact ⟨by omega, fun _ => by omega⟩
   ·rw [if_neg a2] at h2
    by_cases a3 : z < y
    ·rw [if_pos a3] at h2; omega
    ·rw [if_pos (show x < z by omega)]; exact ⟨by omega, fun _ => by omega⟩
  ·rw [if_neg a1] at h1
   by_cases b1 : y < x
   ·rw [if_pos b1] at h1; omega
   ·rw [if_neg b1] at h1
    by_cases a2 : y < z
    ·rw [if_pos (show x < z by omega)]; exact ⟨by omega, fun _ => by omega⟩
    ·rw [if_neg a2] at h2
     by_cases a3 : z < y
     ·rw [if_pos a3] at h2; omega
     ·rw [if_neg a3] at h2
      rw [if_neg (show ¬ x < z by omega), if_neg (show ¬ z < x by omega), if_neg a1, if_neg b1, if_neg a2, if_neg a3]
      exact ih h1 h2
theorem cmpL_drop {a b : List Int} {i : Nat} (ha : i < a.length) (hb : i < b.length) : cmpL (a.drop i) (b.drop i) = if ga a i < ga b i then -1 else if ga b i < ga a i then 1 else cmpL (a.drop (i + 1)) (b.drop (i + 1)) := by
 rw [List.drop_eq_getElem_cons ha, List.drop_eq_getElem_cons hb, cmpL, ga_eq ha, ga_eq hb]
theorem cmpL_drop_l {a b : List Int} {i : Nat} (ha : i < a.length) (hb : b.length ≤ i) : cmpL (a.drop i) (b.drop i) = 1 := by
 rw [List.drop_eq_getElem_cons ha, List.drop_eq_nil_of_le hb]; rfl
theorem cmpL_drop_e {a b : List Int} {i : Nat} (ha : a.length ≤ i) : cmpL (a.drop i) (b.drop i) = if i < b.length then -1 else 0 := by
 rw [List.drop_eq_nil_of_le ha]
 split
 ·rename_i h; rw [List.drop_eq_getElem_cons h]; rfl
 ·rename_i h; rw [List.drop_eq_nil_of_le (by omega)]; rfl
def lessL (a b : List Int) : Bool := if a.length = b.length then decide (cmpL a b < 0) else decide (a.length < b.length)
theorem lessL_irr (a : List Int) : lessL a a = false := by
 have := cmpL_anti a a
 unfold lessL; rw [if_pos rfl, decide_eq_false_iff_not]; omega
theorem lessL_eq {a b : List Int} (h : a.length = b.length) : lessL a b = decide (cmpL a b < 0) := by unfold lessL; rw [if_pos h]
theorem lessL_asym {a b : List Int} (h : lessL a b = true) : lessL b a = false := by
 unfold lessL at *
 have := cmpL_anti a b
 by_cases e : a.length = b.length
 ·rw [if_pos e, decide_eq_true_iff] at h
  rw [if_pos e.symm, decide_eq_false_iff_not]; omega
 ·rw [if_neg e, decide_eq_true_iff] at h
  rw [if_neg (fun e2 => e e2.symm), decide_eq_false_iff_not]; omega
/-- Not less the other way: at most. -/
theorem lessL_trans {a b c : List Int} (h1 : lessL b a = false) (h2 : lessL c b = false) : lessL c a = false ∧ (lessL a b = true ∨ lessL b c = true → lessL a c = true) := by
 unfold lessL at *
 have t := cmpL_trans a b c
 have q1 := cmpL_anti a b
 have q2 := cmpL_anti b c
 have q3 := cmpL_anti a c
 by_cases e1 : b.length = a.length
 ·rw [if_pos e1, decide_eq_false_iff_not] at h1
  by_cases e2 : c.length = b.length
  ·rw [if_pos e2, decide_eq_false_iff_not] at h2
   obtain ⟨t1, t2⟩ := t (by omega) (by omega)
   rw [if_pos (show c.length = a.length by omega), if_pos (show a.length = c.length by omega), if_pos e1.symm, if_pos e2.symm, decide_eq_false_iff_not, decide_eq_true_iff, decide_eq_true_iff, decide_eq_true_iff]
   exact ⟨by omega, t2⟩
  ·rw [if_neg e2, decide_eq_false_iff_not] at h2
   rw [if_neg (show ¬ c.length = a.length by omega), if_neg (show ¬ a.length = c.length by omega), decide_eq_false_iff_not, decide_eq_true_iff (p := a.length < c.length)]
   exact ⟨by omega, fun _ => by omega⟩
 ·rw [if_neg e1, decide_eq_false_iff_not] at h1
  by_cases e2 : c.length = b.length
  ·rw [if_neg (show ¬ c.length = a.length by omega), if_neg (show ¬ a.length = c.length by omega), decide_eq_false_iff_not, decide_eq_true_iff (p := a.length < c.length)]
   exact ⟨by omega, fun _ => by omega⟩
  ·rw [if_neg e2, decide_eq_false_iff_not] at h2
   rw [if_neg (show ¬ c.length = a.length by omega), if_neg (show ¬ a.length = c.length by omega), decide_eq_false_iff_not, decide_eq_true_iff (p := a.length < c.length)]
   exact ⟨by omega, fun _ => by omega⟩
/-- Before: less, or as far along as it stood. -/
def bef (K : Nat → List Int) (i j : Nat) : Prop := lessL (K i) (K j) = true ∨ (lessL (K j) (K i) = false ∧ i < j)
theorem bef_asym {K : Nat → List Int} {i j : Nat} (h : bef K i j) : ¬ bef K j i := by
 rintro (h2 | ⟨h2, h3⟩)
 ·rcases h with h | ⟨h, _⟩
  ·rw [lessL_asym h] at h2; cases h2
  ·rw [h] at h2; cases h2
 ·rcases h with h | ⟨_, h4⟩
  ·rw [h] at h2; cases h2
  ·omega
theorem bef_le {K : Nat → List Int} {i j : Nat} (h : bef K i j) : lessL (K j) (K i) = false := by
 rcases h with h | ⟨h, _⟩
 ·exact lessL_asym h
 ·exact h
theorem bef_trans {K : Nat → List Int} {i j k : Nat} (h1 : bef K i j) (h2 : bef K j k) : bef K i k := by
 obtain ⟨t1, t2⟩ := lessL_trans (bef_le h1) (bef_le h2)
 rcases h1 with h1 | ⟨h1, h3⟩
 ·exact .inl (t2 (.inl h1))
 ·rcases h2 with h2 | ⟨h2, h4⟩
  ·exact .inl (t2 (.inr h2))
  ·exact .inr ⟨t1, by omega⟩
def SortK (K : Nat → List Int) (m : Nat) (σ : List Nat) : Prop := σ.Perm (List.range m) ∧ σ.Pairwise (bef K)
theorem sort_uniq {K : Nat → List Int} : ∀ {σ τ : List Nat}, σ.Perm τ → σ.Pairwise (bef K) → τ.Pairwise (bef K) → σ = τ
 | [], τ, h, _, _ => (List.nil_perm.1 h).symm
 | x :: xs, [], h, _, _ => by have := h.length_eq; cases this
 | x :: xs, y :: ys, h, h1, h2 => by
  have hx : x = y := by
   by_cases e : x = y
   ·exact e
   ·exfalso
    have m1 : x ∈ y :: ys := h.subset (List.mem_cons_self ..)
    have m2 : y ∈ x :: xs := h.symm.subset (List.mem_cons_self ..)
    rcases List.mem_cons.1 m1 with r | r
    ·exact e r
    ·rcases List.mem_cons.1 m2 with r2 | r2
     ·exact e r2.symm
     ·exact bef_asym ((List.pairwise_cons.1 h1).1 y r2) ((List.pairwise_cons.1 h2).1 x r)
  subst hx
  rw [sort_uniq (List.perm_cons x |>.1 h) (List.pairwise_cons.1 h1).2 (List.pairwise_cons.1 h2).2]
noncomputable def sK (K : Nat → List Int) (m : Nat) : List Nat := Classical.epsilon (SortK K m)
theorem sK_eq {K : Nat → List Int} {m : Nat} {σ : List Nat} (h : SortK K m σ) : sK K m = σ := by
 have h2 : SortK K m (sK K m) := Classical.epsilon_spec ⟨σ, h⟩
 exact sort_uniq (h2.1.trans h.1.symm) h2.2 h.2
def bstS (K : Nat → List Int) (s : Option Nat) (x : Nat) : Option Nat := match s with
 | none => some x
 | some b => if lessL (K x) (K b) = true then some x else some b
def bst (K : Nat → List Int) (l : List Nat) : Option Nat := l.foldl (bstS K) none
theorem bst_snoc (K : Nat → List Int) (l : List Nat) (x : Nat) : bst K (l ++ [x]) = bstS K (bst K l) x := by unfold bst; rw [List.foldl_append]; rfl
theorem bst_mem {K : Nat → List Int} (n : Nat) : ∀ {l : List Nat}, l.length = n + 1 → ∃ b, bst K l = some b ∧ b ∈ l := by
 induction n with
 | zero => intro l h; match l, h with
  | [x], _ => exact ⟨x, rfl, List.mem_singleton.2 rfl⟩
 | succ n ih =>
  intro l h
  have hl : l ≠ [] := fun e => by rw [e] at h; cases h
  obtain ⟨b, h1, h2⟩ := ih (l := l.dropLast) (by rw [List.length_dropLast]; omega)
  have e := List.dropLast_concat_getLast hl
  rw [← e, bst_snoc, h1]
  unfold bstS
  dsimp only
  split
  ·exact ⟨_, rfl, by simp⟩
  ·exact ⟨b, rfl, List.mem_append_left _ h2⟩
end Go.Proofs.Ytefkjfcncpmneaa
