/- Part 5 of the proof of the law SignShades: the walks through its functions and the plain laws that they need. -/
import Derived.Test.YthppkofceancjaaShZ4
set_option linter.unusedSimpArgs false
set_option linter.unusedVariables false
namespace Go.Proofs.Ythppkofceancjaa
open Go.ChangeShapes Go.WideShapes Go.ChangeAt Go.RowKit
/-- The crossing that lies across the arc at a crossing's side; the search for a piece; the pieces. -/
def nbC (d : Dg) (x k : Nat) : Nat := (endOf d (arcAt d x k) (entryB d x k)).1
def addS (s : List Bool × List Int) (y : Nat) : List Bool × List Int := if ga s.1 y = true then s else (s.1.set y true, s.2 ++ [(y : Int)])
def bfsS (d : Dg) (x : Nat) (s : List Bool × List Int) : Nat → List Bool × List Int
 | 0 => s
 | k + 1 => addS (bfsS d x s k) (nbC d x k)
def bfsN (d : Dg) : Nat → Nat → List Bool × List Int → List Bool × List Int
 | 0, _, s => s
 | f + 1, i, s => if i < s.2.length then bfsN d f (i + 1) (bfsS d (ga s.2 i).toNat s 4) else s
def pcsN (d : Dg) : Nat → List Bool × List (List Int)
 | 0 => (List.replicate d.crs.length false, [])
 | c + 1 => if ga (pcsN d c).1 c = true then pcsN d c else ((bfsN d d.crs.length 0 ((pcsN d c).1.set c true, [(c : Int)])).1, (pcsN d c).2 ++ [srt (bfsN d d.crs.length 0 ((pcsN d c).1.set c true, [(c : Int)])).2])
def pcsL (d : Dg) : List (List Int) := (pcsN d d.crs.length).2
theorem bfsN_stop {d : Dg} {f i : Nat} {s : List Bool × List Int} (h : s.2.length ≤ i) : bfsN d f i s = s := by
 cases f with
 | zero => rfl
 | succ f => rw [bfsN, if_neg (by omega)]
theorem bfsN_go {d : Dg} {f i x : Nat} {s s' : List Bool × List Int} (h : i < s.2.length) (hx : ga s.2 i = (x : Int)) (hs : bfsS d x s 4 = s') : bfsN d (f + 1) i s = bfsN d f (i + 1) s' := by
 rw [bfsN, if_pos h, hx, Int.toNat_natCast, hs]
theorem pcsN_skip {d : Dg} {c : Nat} {s : List Bool × List (List Int)} (h : pcsN d c = s) (hg : ga s.1 c = true) : pcsN d (c + 1) = s := by
 rw [pcsN, h, if_pos hg]
theorem pcsN_add {d : Dg} {c : Nat} {s : List Bool × List (List Int)} {r : List Bool × List Int} (h : pcsN d c = s) (hg : ga s.1 c = false) (hr : bfsN d d.crs.length 0 (s.1.set c true, [(c : Int)]) = r) : pcsN d (c + 1) = (r.1, s.2 ++ [srt r.2]) := by
 rw [pcsN, h, if_neg (by rw [hg]; exact Bool.false_ne_true), hr]
theorem bfsN_len (d : Dg) (f i : Nat) (s : List Bool × List Int) : (bfsN d f i s).1.length = s.1.length := by
 have h1 : ∀ x s k, (bfsS d x s k).1.length = s.1.length := fun x s k => by
  induction k with
  | zero => rfl
  | succ k ih => rw [bfsS, addS]; split <;> simp [ih]
 induction f generalizing i s with
 | zero => rfl
 | succ f ih => rw [bfsN]; split <;> simp [ih, h1]
theorem pcsN_len (d : Dg) (c : Nat) : (pcsN d c).1.length = d.crs.length := by
 induction c with
 | zero => simp [pcsN]
 | succ c ih => rw [pcsN]; split <;> simp [ih, bfsN_len]
theorem pcsN_many (d : Dg) (c : Nat) : (pcsN d c).2.length ≤ c := by
 induction c with
 | zero => simp [pcsN]
 | succ c ih => rw [pcsN]; split; exact Nat.le_succ_of_le ih; rw [List.length_append]; show _ + 1 ≤ _; omega
theorem nbC_lt {d : Dg} (h : arcsB d = true) {x k : Nat} (hx : x < d.crs.length) (hk : k < 4) : nbC d x k < d.crs.length := (endD h (arcAt_bd h hx hk) _).1
noncomputable def Pieces_n0 : Code := Try.f19.body.getD .skip
noncomputable def Pieces_n1 : Code := cL Pieces_n0
noncomputable def Pieces_n2 : Code := cR Pieces_n0
noncomputable def Pieces_n3 : Code := cL Pieces_n2
noncomputable def Pieces_n4 : Code := cR Pieces_n2
noncomputable def Pieces_n5 : Code := cL Pieces_n4
noncomputable def Pieces_n6 : Code := cR Pieces_n4
noncomputable def Pieces_n7 : Code := cL Pieces_n6
noncomputable def Pieces_n8 : Code := cR Pieces_n6
noncomputable def Pieces_n9 : Code := cL Pieces_n7
noncomputable def Pieces_n10 : Code := cR Pieces_n7
noncomputable def Pieces_n11 : Code := cL Pieces_n10
noncomputable def Pieces_n12 : Code := cL Pieces_n11
noncomputable def Pieces_n13 : Code := cL Pieces_n12
noncomputable def Pieces_n14 : Code := cR Pieces_n12
noncomputable def Pieces_n15 : Code := cL Pieces_n14
noncomputable def Pieces_n16 : Code := cR Pieces_n14
noncomputable def Pieces_n17 : Code := cL Pieces_n15
noncomputable def Pieces_n18 : Code := cR Pieces_n15
noncomputable def Pieces_n19 : Code := cL Pieces_n16
noncomputable def Pieces_n20 : Code := cR Pieces_n16
noncomputable def Pieces_n21 : Code := cL Pieces_n19
noncomputable def Pieces_n22 : Code := cL Pieces_n21
noncomputable def Pieces_n23 : Code := cR Pieces_n21
noncomputable def Pieces_n24 : Code := cL Pieces_n23
noncomputable def Pieces_n25 : Code := cR Pieces_n23
noncomputable def Pieces_n26 : Code := cL Pieces_n24
noncomputable def Pieces_n27 : Code := cR Pieces_n24
noncomputable def Pieces_n28 : Code := cL Pieces_n27
noncomputable def Pieces_n29 : Code := cR Pieces_n27
noncomputable def Pieces_n30 : Code := cL Pieces_n25
noncomputable def Pieces_n31 : Code := cR Pieces_n25
noncomputable def Pieces_n32 : Code := cL Pieces_n31
noncomputable def Pieces_n33 : Code := cR Pieces_n31
noncomputable def Pieces_n34 : Code := cL Pieces_n33
noncomputable def Pieces_n35 : Code := cR Pieces_n33
noncomputable def Pieces_n36 : Code := cL Pieces_n34
noncomputable def Pieces_n37 : Code := cR Pieces_n34
noncomputable def Pieces_n38 : Code := cL Pieces_n37
noncomputable def Pieces_n39 : Code := cL Pieces_n38
noncomputable def Pieces_n40 : Code := cL Pieces_n39
noncomputable def Pieces_n41 : Code := cR Pieces_n39
noncomputable def Pieces_n42 : Code := cL Pieces_n40
noncomputable def Pieces_n43 : Code := cR Pieces_n40
noncomputable def Pieces_n44 : Code := cL Pieces_n43
noncomputable def Pieces_n45 : Code := cR Pieces_n43
noncomputable def Pieces_n46 : Code := cL Pieces_n41
noncomputable def Pieces_n47 : Code := cR Pieces_n41
noncomputable def Pieces_n48 : Code := cL Pieces_n46
noncomputable def Pieces_n49 : Code := cL Pieces_n48
noncomputable def Pieces_n50 : Code := cR Pieces_n48
noncomputable def Pieces_n51 : Code := cL Pieces_n50
noncomputable def Pieces_n52 : Code := cL Pieces_n51
noncomputable def Pieces_n53 : Code := cL Pieces_n52
noncomputable def Pieces_n54 : Code := cR Pieces_n52
noncomputable def Pieces_n55 : Code := cL Pieces_n54
noncomputable def Pieces_n56 : Code := cR Pieces_n54
noncomputable def Pieces_n57 : Code := cL Pieces_n55
noncomputable def Pieces_n58 : Code := cR Pieces_n55
noncomputable def Pieces_n59 : Code := cL Pieces_n56
noncomputable def Pieces_n60 : Code := cR Pieces_n56
noncomputable def Pieces_n61 : Code := cL Pieces_n59
noncomputable def Pieces_n62 : Code := cL Pieces_n61
noncomputable def Pieces_n63 : Code := cR Pieces_n61
noncomputable def Pieces_n64 : Code := cL Pieces_n63
noncomputable def Pieces_n65 : Code := cR Pieces_n63
noncomputable def Pieces_n66 : Code := cL Pieces_n65
noncomputable def Pieces_n67 : Code := cR Pieces_n65
noncomputable def Pieces_n68 : Code := cL Pieces_n67
noncomputable def Pieces_n69 : Code := cR Pieces_n67
noncomputable def Pieces_n70 : Code := cL Pieces_n68
noncomputable def Pieces_n71 : Code := cR Pieces_n68
noncomputable def Pieces_n72 : Code := cL Pieces_n35
noncomputable def Pieces_n73 : Code := cR Pieces_n35
noncomputable def Pieces_n74 : Code := cL Pieces_n8
noncomputable def Pieces_n75 : Code := cR Pieces_n8
set_option maxHeartbeats 1000000 in
set_option maxRecDepth 10000 in
theorem Pieces_t {w : World} {M : Hp} {X : Fr} (d : Dg) {gsh : Nat} {cA iA oA : Option Addr} {cc ic oc : Nat} (hsb : BxM (M.un X.h) gsh 61 [.slice cA d.crs.length cc, .int .i64 d.loops, .slice iA (tabL d false (4 * d.crs.length)).length ic, .slice oA (tabL d true (4 * d.crs.length)).length oc]) (hsc : RdA cdCr (M.un X.h) cA cc d.crs) (hsi : RdA cdPl (M.un X.h) iA ic (tabL d false (4 * d.crs.length))) (hso : RdA cdPl (M.un X.h) oA oc (tabL d true (4 * d.crs.length))) (hn : d.crs.length ≤ 16) (hab : arcsB d = true) (S : SH w M X []) : Ct Try.prog 19 [.pointer (some ⟨gsh, 0, none⟩)] w M X (fun u M => ∃ A c vs, u = .slice A vs.length c ∧ RdA (cdV 25) M A c vs ∧ Rd2 cdInt M vs (pcsL d)) := by
 unfold Ct
 refine calls_in (b := Pieces_n0) Try.func19 rfl Try.ntmps19 rfl (fun C hC => (ws_sub [(0, _)] ⟨rfl, trivial⟩ (ws_seqN Pieces_n1 Pieces_n2 rfl rfl rfl (ws_region rfl (wla 0 1 rfl rfl rfl rfl rfl rfl rfl ?_)))))
 refine wl_end rfl (nmk [0] rfl (nm_thn (ws_seqN Pieces_n3 Pieces_n4 rfl rfl rfl (ws_region rfl ?_))))
 refine wlm 0 1 rfl rfl rfl rfl rfl rfl rfl (wlo 1 2 rfl rfl rfl (wo_run rfl rfl (run_nilCheck rfl rfl) (wlo 2 3 rfl rfl rfl (wo_run rfl rfl (run_fieldAddr rfl rfl Try.underlying61 rfl (ce24) (nf24)) (wlo 3 4 rfl rfl rfl (wo_run rfl rfl (run_fieldAddr rfl rfl Try.underlying24 rfl (ce22) (nf22)) (wlo 4 5 rfl rfl rfl (wo_run rfl rfl (run_load1 rfl rfl Try.underlying22 rfl (hsb.cell S.um rfl)) ?_))))))))
 refine wlo 5 6 rfl rfl rfl (wo_run rfl rfl (run_len rfl rfl rfl rfl rfl rfl Try.underlying22) (wlo 6 7 rfl rfl rfl (wo_make (C := cdBool) d.crs.length rfl rfl rfl rfl rfl sl70 (by first | rfl | omega) (by show _ * 1 ≤ _; first | omega | (simp only [lens]; omega)) S ?_)))
 intro vr1 w1 S1; clear S
 refine wla 7 8 rfl rfl rfl rfl rfl rfl rfl (wl_end rfl (nmk [0, 3] rfl (nm_thn (ws_seqN Pieces_n5 Pieces_n6 rfl rfl rfl ?_))))
 refine ws_region rfl (wla 0 1 rfl rfl rfl rfl rfl rfl rfl (wl_end rfl (nm_thn (ws_seqN Pieces_n7 Pieces_n8 rfl rfl rfl ?_))))
 refine ws_seqN Pieces_n9 Pieces_n10 rfl rfl rfl (ws_region rfl (wlm 0 1 rfl rfl rfl rfl rfl rfl rfl (wlo 1 2 rfl rfl rfl (wo_run rfl rfl (run_nilCheck rfl rfl) (wlo 2 3 rfl rfl rfl (wo_run rfl rfl (run_fieldAddr rfl rfl Try.underlying61 rfl (ce24) (nf24)) ?_))))))
 refine wlo 3 4 rfl rfl rfl (wo_run rfl rfl (run_fieldAddr rfl rfl Try.underlying24 rfl (ce22) (nf22)) (wlo 4 5 rfl rfl rfl (wo_run rfl rfl (run_load1 rfl rfl Try.underlying22 rfl (hsb.cell S1.um rfl)) (wlo 5 6 rfl rfl rfl (wo_run rfl rfl (run_len rfl rfl rfl rfl rfl rfl Try.underlying22) (wlm 6 7 rfl rfl rfl rfl rfl rfl rfl (wl_end rfl ?_)))))))
 refine nmk [0, 3, 4, 22, 23] rfl (nm_thn (ws_blockN Pieces_n11 0 rfl rfl rfl ?_))
 have S2 := S1.nilrow (cdV 25); clear S1
 refine ws_loopE (fun mx_ ax_ wx_ => ∃ (c : Nat) (seen : List Bool) (vs : List SlV) (pss : List (List Int)) (vrs : Value) (vro : Value) (M1 : Hp), M.le M1 ∧ mx_ = d.crs.length - c ∧ Env 74 [(0, .pointer (some ⟨gsh, 0, none⟩)), (3, vrs), (4, vro), (22, .int .i64 (d.crs.length : Int)), (23, .int .i64 (c : Int))] ax_ ∧ SH wx_ M1 X [Rs.row (cdV 25) vro vs, Rs.row cdBool vrs seen] ∧ c ≤ d.crs.length ∧ pcsN d c = (seen, pss) ∧ Rd2 cdInt M1 vs pss) rfl ?_ ?_
 ·intro ax_ hax_
  refine ⟨_, ⟨0, _, _, [], _, _, _, Hp.le_refl _, rfl, hax_.sub ⟨rfl, rfl, rfl, rfl, rfl, trivial⟩, S2.pick [0, 1] [_, _] (by decide) ⟨rfl, rfl, trivial⟩, ?hq1f0, ?hq1f1, ?hq1f2⟩⟩
  case hq1f0 => omega
  case hq1f1 => rfl
  case hq1f2 => first | exact Rd2.nil_ | (rw [e9]; exact Rd2.nil_)
 ·rintro m1 a1 w2 ⟨c, seen, vs, pss, vrs, vro, M1, hle1, rfl, he1, S3, hc, hpn, hdo⟩
  clear S2
  refine ws_in he1 (c := Pieces_n12) rfl ?_
  clear he1 a1
  replace hsb := hsb.mono (Hp.un_mono hle1 S3.mx)
  replace hsc := hsc.mono (Hp.un_mono hle1 S3.mx)
  replace hsi := hsi.mono (Hp.un_mono hle1 S3.mx)
  replace hso := hso.mono (Hp.un_mono hle1 S3.mx)
  have hvs := hdo.1
  have hmany := pcsN_many d c
  rw [hpn] at hmany
  replace hmany : pss.length ≤ c := hmany
  have hsl : seen.length = d.crs.length := by have h9 := pcsN_len d c; rw [hpn] at h9; exact h9
  refine ws_seqN Pieces_n13 Pieces_n14 rfl rfl rfl (ws_region rfl (wlo 0 1 rfl rfl rfl (wo_run rfl rfl (run_lss rfl rfl rfl) (wl_end rfl (nm_thn ?_)))))
  refine ws_seqN Pieces_n15 Pieces_n16 rfl rfl rfl ?_
  refine ws_condN Pieces_n17 Pieces_n18 rfl rfl rfl rfl (fun hb24 => ?_) (fun hb24 => ?_)
  ·replace hb24 := of_decide_eq_true hb24
   refine ws_skip rfl (nmk [0, 3, 4, 22, 23] rfl (nm_thn (ws_seqN Pieces_n19 Pieces_n20 rfl rfl rfl (ws_blockN Pieces_n21 1 rfl rfl rfl ?_))))
   refine ws_seqN Pieces_n22 Pieces_n23 rfl rfl rfl (ws_region rfl (wlm 0 1 rfl rfl rfl rfl rfl rfl rfl (wla 1 2 rfl rfl rfl rfl rfl rfl rfl (wl_end rfl ?_))))
   refine nmk [0, 3, 4, 22, 23, 5] rfl (nm_thn (ws_seqN Pieces_n24 Pieces_n25 rfl rfl rfl (ws_seqN Pieces_n26 Pieces_n27 rfl rfl rfl (ws_region rfl ?_))))
   refine wlm 0 1 rfl rfl rfl rfl rfl rfl rfl (wlm 1 2 rfl rfl rfl rfl rfl rfl rfl (wlo 2 3 rfl rfl rfl (wo_run rfl rfl (run_indexR (C := cdBool) (i := 1) c rfl rfl rfl sl70 S3 rfl (by first | rfl | omega) (by first | omega | (simp only [lens]; omega))) ?_)))
   refine wlo 3 4 rfl rfl rfl (wo_run rfl rfl (run_load1 rfl rfl Try.underlying4 rfl (S3.rowc (i := 1) (e := c) (j := 0) rfl (by first | omega | (simp only [lens]; omega)) rfl rfl)) ?_)
   refine wl_end rfl (nmk [0, 3, 4, 22, 23, 5, 29] rfl (nm_thn ?_))
   refine ws_condN Pieces_n28 Pieces_n29 rfl rfl rfl rfl (fun hb29 => ?_) (fun hb29 => ?_)
   ·refine ws_exit rfl rfl (nmk [0, 3, 4, 22, 23] rfl (nm_thn (ws_region rfl (wlo 0 1 rfl rfl rfl (wo_run rfl rfl (run_add rfl rfl rfl (by first | omega | (simp only [lens]; omega))) ?_)))))
    refine wlm 1 2 rfl rfl rfl rfl rfl rfl rfl (wl_end rfl (nm_lp ?_))
    intro ax_ hax_
    refine ⟨_, ?hq2m, ⟨c + 1, _, _, pss, _, _, _, (hle1), rfl, hax_.sub ⟨rfl, rfl, rfl, rfl, rfl, trivial⟩, S3.pick [0, 1] [_, _] (by decide) ⟨rfl, rfl, trivial⟩, ?hq2f0, ?hq2f1, ?hq2f2⟩⟩
    case hq2f0 => omega
    case hq2f1 => first | exact pcsN_skip hpn hb29 | exact pcsN_add hpn (by simpa using hb29) (hbf.trans (bfsN_stop (by show l.length ≤ i; omega)))
    case hq2f2 => first | exact hdo | (rw [e9]; exact hdo)
    case hq2m => omega
   ·refine ws_skip rfl (nmk [0, 3, 4, 22, 23, 5] rfl (nm_thn (ws_seqN Pieces_n30 Pieces_n31 rfl rfl rfl (ws_region rfl ?_))))
    refine wlm 0 1 rfl rfl rfl rfl rfl rfl rfl (wlm 1 2 rfl rfl rfl rfl rfl rfl rfl (wlo 2 3 rfl rfl rfl (wo_run rfl rfl (run_indexR (C := cdBool) (i := 1) c rfl rfl rfl sl70 S3 rfl (by first | rfl | omega) (by first | omega | (simp only [lens]; omega))) ?_)))
    refine wlo 3 4 rfl rfl rfl (wo_storeR (C := cdBool) (i := 1) (e := c) (j := 0) (us := [_]) (H' := [_, _]) true rfl rfl S3 rfl (by first | omega | (simp only [lens]; omega)) rfl rfl rfl sz4 rfl rfl rfl rfl ?_)
    intro w3 S4; clear S3
    refine wl_end rfl (nmk [0, 3, 4, 22, 23, 5] rfl (nm_thn (ws_seqN Pieces_n32 Pieces_n33 rfl rfl rfl (ws_region rfl ?_))))
    refine wlm 0 1 rfl rfl rfl rfl rfl rfl rfl (wlo 1 2 rfl rfl rfl (wo_buildSlice1 (C := cdInt) (l := [_]) rfl rfl rfl rfl sl25 rfl rfl rfl rfl S4 ?_))
    intro gb1 w4 S5; clear S4
    refine wla 2 3 rfl rfl rfl rfl rfl rfl rfl (wl_end rfl (nmk [0, 3, 4, 22, 23, 6] rfl (nm_thn (ws_seqN Pieces_n34 Pieces_n35 rfl rfl rfl ?_))))
    refine ws_seqN Pieces_n36 Pieces_n37 rfl rfl rfl (ws_region rfl (wla 0 1 rfl rfl rfl rfl rfl rfl rfl (wl_end rfl (nm_thn ?_))))
    refine ws_blockN Pieces_n38 2 rfl rfl rfl ?_
    have S6 := S5.boxrow (C := cdInt) [(c : Int)] (i := 0) (H' := [_, _, _]) rfl rfl (by simp) rfl; clear S5
    obtain ⟨vr3, er3⟩ : ∃ v, v = Value.slice (some ⟨gb1, 0, none⟩) ([(c : Int)]).length ([(c : Int)]).length := ⟨_, rfl⟩
    rw [← er3] at S6
    refine ws_eq 6 (vr3) rfl er3.symm ?_
    refine ws_loopE (fun mx_ ax_ wx_ => ∃ (i : Nat) (seen2 : List Bool) (l : List Int) (vrs2 : Value) (vrl : Value), mx_ = d.crs.length - i ∧ Env 74 [(0, .pointer (some ⟨gsh, 0, none⟩)), (3, vrs2), (4, vro), (22, .int .i64 (d.crs.length : Int)), (23, .int .i64 (c : Int)), (6, vrl), (7, .int .i64 (i : Int))] ax_ ∧ SH wx_ M1 X [Rs.row cdInt vrl l, Rs.row (cdV 25) vro vs, Rs.row cdBool vrs2 seen2] ∧ bfsN d d.crs.length 0 (seen.set c true, [(c : Int)]) = bfsN d (d.crs.length - i) i (seen2, l) ∧ i ≤ l.length ∧ l.length + free seen2 ≤ d.crs.length ∧ (∀ y, y ∈ l → 0 ≤ y ∧ y < (d.crs.length : Int)) ∧ seen2.length = d.crs.length) rfl ?_ ?_
    ·intro ax_ hax_
     refine ⟨_, ⟨0, _, _, _, _, rfl, hax_.sub ⟨rfl, rfl, rfl, rfl, rfl, rfl, rfl, trivial⟩, S6.pick [0, 1, 2] [_, _, _] (by decide) ⟨rfl, rfl, rfl, trivial⟩, ?hq3f0, ?hq3f1, ?hq3f2, ?hq3f3, ?hq3f4⟩⟩
     case hq3f0 => rfl
     case hq3f1 => (exact Nat.zero_le _)
     case hq3f2 => (have h8 := free_set (seen := seen) (x := c) (by omega) (by simpa using hb29); have h9 : free seen ≤ seen.length := List.countP_le_length; show 1 + _ ≤ _; omega)
     case hq3f3 => (intro y hy; rw [List.mem_singleton] at hy; subst hy; omega)
     case hq3f4 => (rw [List.length_set]; exact hsl)
    ·rintro m2 a2 w5 ⟨i, seen2, l, vrs2, vrl, rfl, he2, S7, hbf, hi, hfr, hin, hs2⟩
     clear S6
     refine ws_in he2 (c := Pieces_n39) rfl ?_
     clear he2 a2
     refine ws_seqN Pieces_n40 Pieces_n41 rfl rfl rfl (ws_seqN Pieces_n42 Pieces_n43 rfl rfl rfl (ws_region rfl (wlm 0 1 rfl rfl rfl rfl rfl rfl rfl (wlm 1 2 rfl rfl rfl rfl rfl rfl rfl ?_))))
     refine wlo 2 3 rfl rfl rfl (wo_run rfl rfl (run_lenR (C := cdInt) (i := 0) rfl rfl rfl rfl rfl rfl sl25 S7 rfl) (wlo 3 4 rfl rfl rfl (wo_run rfl rfl (run_lss rfl rfl rfl) (wl_end rfl (nmk [0, 3, 4, 22, 23, 6, 7, 38] rfl (nm_thn ?_))))))
     refine ws_condN Pieces_n44 Pieces_n45 rfl rfl rfl rfl (fun hb38 => ?_) (fun hb38 => ?_)
     ·replace hb38 := of_decide_eq_true hb38
      have hil : i < l.length := by omega
      have hxm := hin (ga l i) (by rw [ga_eq hil]; exact List.getElem_mem hil)
      obtain ⟨x, hx⟩ : ∃ x : Nat, ga l i = (x : Int) := ⟨(ga l i).toNat, by omega⟩
      have hxn : x < d.crs.length := by omega
      refine ws_skip rfl (nmk [0, 3, 4, 22, 23, 6, 7] rfl (nm_thn (ws_seqN Pieces_n46 Pieces_n47 rfl rfl rfl (ws_blockN Pieces_n48 3 rfl rfl rfl ?_))))
      refine ws_seqN Pieces_n49 Pieces_n50 rfl rfl rfl (ws_region rfl (wlm 0 1 rfl rfl rfl rfl rfl rfl rfl (wl_end rfl (nm_thn ?_))))
      refine ws_blockN Pieces_n51 4 rfl rfl rfl ?_
      refine ws_loopE (fun mx_ ax_ wx_ => ∃ (k : Nat) (seen3 : List Bool) (l3 : List Int) (vrs3 : Value) (vrl3 : Value), mx_ = 4 - k ∧ Env 74 [(0, .pointer (some ⟨gsh, 0, none⟩)), (3, vrs3), (4, vro), (22, .int .i64 (d.crs.length : Int)), (23, .int .i64 (c : Int)), (6, vrl3), (7, .int .i64 (i : Int)), (41, .int .i64 (k : Int))] ax_ ∧ SH wx_ M1 X [Rs.row cdInt vrl3 l3, Rs.row (cdV 25) vro vs, Rs.row cdBool vrs3 seen3] ∧ k ≤ 4 ∧ bfsS d x (seen2, l) k = (seen3, l3) ∧ l3.length + free seen3 ≤ d.crs.length ∧ (∀ y, y ∈ l3 → 0 ≤ y ∧ y < (d.crs.length : Int)) ∧ seen3.length = d.crs.length ∧ i < l3.length ∧ ga l3 i = (x : Int)) rfl ?_ ?_
      ·intro ax_ hax_
       refine ⟨_, ⟨0, _, _, _, _, rfl, hax_.sub ⟨rfl, rfl, rfl, rfl, rfl, rfl, rfl, rfl, trivial⟩, S7.pick [0, 1, 2] [_, _, _] (by decide) ⟨rfl, rfl, rfl, trivial⟩, ?hq4f0, ?hq4f1, ?hq4f2, ?hq4f3, ?hq4f4, ?hq4f5, ?hq4f6⟩⟩
       case hq4f0 => omega
       case hq4f1 => rfl
       case hq4f2 => exact hfr
       case hq4f3 => exact hin
       case hq4f4 => exact hs2
       case hq4f5 => omega
       case hq4f6 => exact hx
      ·rintro m3 a3 w6 ⟨k, seen3, l3, vrs3, vrl3, rfl, he3, S8, hk, hbs, hfr3, hin3, hs3, hi3, hx3⟩
       clear S7
       refine ws_in he3 (c := Pieces_n52) rfl ?_
       clear he3 a3
       refine ws_seqN Pieces_n53 Pieces_n54 rfl rfl rfl (ws_region rfl (wlo 0 1 rfl rfl rfl (wo_run rfl rfl (run_lss rfl rfl rfl) (wl_end rfl (nm_thn ?_)))))
       refine ws_seqN Pieces_n55 Pieces_n56 rfl rfl rfl ?_
       refine ws_condN Pieces_n57 Pieces_n58 rfl rfl rfl rfl (fun hb42 => ?_) (fun hb42 => ?_)
       ·replace hb42 := of_decide_eq_true hb42
        refine ws_skip rfl (nmk [0, 3, 4, 22, 23, 6, 7, 41] rfl (nm_thn (ws_seqN Pieces_n59 Pieces_n60 rfl rfl rfl (ws_blockN Pieces_n61 5 rfl rfl rfl ?_))))
        refine ws_seqN Pieces_n62 Pieces_n63 rfl rfl rfl (ws_region rfl (wlm 0 1 rfl rfl rfl rfl rfl rfl rfl (wla 1 2 rfl rfl rfl rfl rfl rfl rfl (wl_end rfl ?_))))
        refine nmk [0, 3, 4, 22, 23, 6, 7, 41, 8] rfl (nm_thn (ws_seqN Pieces_n64 Pieces_n65 rfl rfl rfl (ws_region rfl (wlm 0 1 rfl rfl rfl rfl rfl rfl rfl ?_))))
        refine wlm 1 2 rfl rfl rfl rfl rfl rfl rfl (wlm 2 3 rfl rfl rfl rfl rfl rfl rfl (wlo 3 4 rfl rfl rfl (wo_run rfl rfl (run_indexR (C := cdInt) (i := 0) i rfl rfl rfl sl25 S8 rfl (by first | rfl | omega) (by first | omega | (simp only [lens]; omega))) ?_)))
        refine wlo 4 5 rfl rfl rfl (wo_run rfl rfl (run_load1 rfl rfl Try.underlying3 rfl (S8.rowc (i := 0) (e := i) (j := 0) rfl (by first | omega | (simp only [lens]; omega)) rfl rfl)) ?_)
        refine wl_eq 48 (.int .i64 (x : Int)) rfl (int_eq hx3) ?_
        have hnb := nbC_lt hab (k := k) hxn (by omega)
        refine wlm 5 6 rfl rfl rfl rfl rfl rfl rfl (wlo 6 7 rfl rfl rfl (wo_run rfl rfl (run_build (l := [_, _]) rfl rfl st79 rfl rfl) (wlo 7 8 rfl rfl rfl (wo_cq rfl rfl rfl rfl rfl rfl rfl cf32 S8 (Other_q d x k (hsb.mono S8.un_XH) (hsc.mono S8.un_XH) (hsi.mono S8.un_XH) (hso.mono S8.un_XH) (by first | assumption | omega) hab (by omega) (by omega) S8.lend) ?_))))
        rintro _ w7 S9 rfl; clear S8
        refine wlo 8 9 rfl rfl rfl (wo_run rfl rfl (run_field0 rfl rfl Try.underlying79 rfl Try.underlying3 rfl rfl) (wla 9 10 rfl rfl rfl rfl rfl rfl rfl (wl_end rfl (nmk [0, 3, 4, 22, 23, 6, 7, 41, 9] rfl (nm_thn ?_)))))
        refine ws_seqN Pieces_n66 Pieces_n67 rfl rfl rfl (ws_eq 9 (.int .i64 ((nbC d x k : Nat) : Int)) rfl (int_eq rfl) (ws_region rfl (wlm 0 1 rfl rfl rfl rfl rfl rfl rfl (wlm 1 2 rfl rfl rfl rfl rfl rfl rfl ?_))))
        refine wlo 2 3 rfl rfl rfl (wo_run rfl rfl (run_indexR (C := cdBool) (i := 2) (nbC d x k) rfl rfl rfl sl70 S9 rfl (by first | rfl | omega) (by first | omega | (simp only [lens]; omega))) ?_)
        refine wlo 3 4 rfl rfl rfl (wo_run rfl rfl (run_load1 rfl rfl Try.underlying4 rfl (S9.rowc (i := 2) (e := nbC d x k) (j := 0) rfl (by first | omega | (simp only [lens]; omega)) rfl rfl)) ?_)
        refine wlo 4 5 rfl rfl rfl (wo_run rfl rfl (run_not rfl rfl) (wl_end rfl (nmk [0, 3, 4, 22, 23, 6, 7, 41, 9, 57] rfl (nm_thn ?_))))
        refine ws_condN Pieces_n68 Pieces_n69 rfl rfl rfl rfl (fun hb57 => ?_) (fun hb57 => ?_)
        ·simp only [Bool.and_eq_true, Bool.or_eq_true, Bool.and_eq_false_iff, Bool.or_eq_false_iff, decide_eq_true_eq, decide_eq_false_iff_not, Bool.not_eq_true', Bool.not_eq_false'] at hb57
         have hga : ga seen3 (nbC d x k) = false := by simpa using hb57
         have hfs := free_set (seen := seen3) (x := nbC d x k) (by omega) hga
         refine ws_seqN Pieces_n70 Pieces_n71 rfl rfl rfl (ws_region rfl (wlm 0 1 rfl rfl rfl rfl rfl rfl rfl (wlm 1 2 rfl rfl rfl rfl rfl rfl rfl (wlo 2 3 rfl rfl rfl (wo_run rfl rfl (run_indexR (C := cdBool) (i := 2) (nbC d x k) rfl rfl rfl sl70 S9 rfl (by first | rfl | omega) (by first | omega | (simp only [lens]; omega))) ?_)))))
         refine wlo 3 4 rfl rfl rfl (wo_storeR (C := cdBool) (i := 2) (e := nbC d x k) (j := 0) (us := [_]) (H' := [_, _, _]) true rfl rfl S9 rfl (by first | omega | (simp only [lens]; omega)) rfl rfl rfl sz4 rfl rfl rfl rfl ?_)
         intro w8 S10; clear S9
         refine wl_end rfl (nmk [0, 3, 4, 22, 23, 6, 7, 41, 9] rfl (nm_thn (ws_region rfl (wlm 0 1 rfl rfl rfl rfl rfl rfl rfl ?_))))
         refine wlm 1 2 rfl rfl rfl rfl rfl rfl rfl (wlo 2 3 rfl rfl rfl (wo_buildSlice1 (C := cdInt) (l := [_]) rfl rfl rfl rfl sl25 rfl rfl rfl rfl S10 ?_))
         intro gb2 w9 S11; clear S10
         refine wlo 3 4 rfl rfl rfl (wo_append1 (C := cdInt) (i := 1) (q := 0) ((nbC d x k : Nat) : Int) rfl rfl rfl rfl rfl rfl rfl rfl sl25 S11 rfl rfl rfl (by show (_ + 1) * 8 ≤ _; first | omega | (simp only [lens]; omega)) ?_)
         intro vrl1 w10 S12; clear S11
         have S13 := S12.pick [1, 2, 3] [_, _, _] (by decide) ⟨rfl, rfl, rfl, trivial⟩; clear S12
         refine wla 4 5 rfl rfl rfl rfl rfl rfl rfl (wl_end rfl (nm_blk (nmk [0, 3, 4, 22, 23, 6, 7, 41] rfl (nm_thn ?_))))
         refine ws_region rfl (wlo 0 1 rfl rfl rfl (wo_run rfl rfl (run_add rfl rfl rfl (by first | omega | (simp only [lens]; omega))) ?_))
         refine wlm 1 2 rfl rfl rfl rfl rfl rfl rfl (wl_end rfl (nm_lp ?_))
         intro ax_ hax_
         refine ⟨_, ?hq5m, ⟨k + 1, _, _, _, _, rfl, hax_.sub ⟨rfl, rfl, rfl, rfl, rfl, rfl, rfl, rfl, trivial⟩, S13.pick [0, 1, 2] [_, _, _] (by decide) ⟨rfl, rfl, rfl, trivial⟩, ?hq5f0, ?hq5f1, ?hq5f2, ?hq5f3, ?hq5f4, ?hq5f5, ?hq5f6⟩⟩
         case hq5f0 => omega
         case hq5f1 => (show addS _ _ = _; rw [hbs, addS]; first | rw [if_pos (by assumption)] | rw [if_neg (by rw [hga]; exact Bool.false_ne_true)])
         case hq5f2 => first | exact hfr3 | (rw [List.length_append]; show _ + 1 + _ ≤ _; omega)
         case hq5f3 => first | exact hin3 | (intro y hy; rcases List.mem_append.1 hy with hy | hy; exact hin3 y hy; rw [List.mem_singleton] at hy; subst hy; omega)
         case hq5f4 => first | exact hs3 | (rw [List.length_set]; exact hs3)
         case hq5f5 => first | exact hi3 | (rw [List.length_append]; omega)
         case hq5f6 => first | exact hx3 | (rw [ga_append_left _ _ _ (by omega)]; exact hx3)
         case hq5m => omega
        ·simp only [Bool.and_eq_true, Bool.or_eq_true, Bool.and_eq_false_iff, Bool.or_eq_false_iff, decide_eq_true_eq, decide_eq_false_iff_not, Bool.not_eq_true', Bool.not_eq_false'] at hb57
         refine ws_skip rfl (nm_blk (nmk [0, 3, 4, 22, 23, 6, 7, 41] rfl (nm_thn (ws_region rfl ?_))))
         refine wlo 0 1 rfl rfl rfl (wo_run rfl rfl (run_add rfl rfl rfl (by first | omega | (simp only [lens]; omega))) ?_)
         refine wlm 1 2 rfl rfl rfl rfl rfl rfl rfl (wl_end rfl (nm_lp ?_))
         intro ax_ hax_
         refine ⟨_, ?hq6m, ⟨k + 1, _, _, _, _, rfl, hax_.sub ⟨rfl, rfl, rfl, rfl, rfl, rfl, rfl, rfl, trivial⟩, S9.pick [0, 1, 2] [_, _, _] (by decide) ⟨rfl, rfl, rfl, trivial⟩, ?hq6f0, ?hq6f1, ?hq6f2, ?hq6f3, ?hq6f4, ?hq6f5, ?hq6f6⟩⟩
         case hq6f0 => omega
         case hq6f1 => (show addS _ _ = _; rw [hbs, addS]; first | rw [if_pos (by assumption)] | rw [if_neg (by rw [hga]; exact Bool.false_ne_true)])
         case hq6f2 => first | exact hfr3 | (rw [List.length_append]; show _ + 1 + _ ≤ _; omega)
         case hq6f3 => first | exact hin3 | (intro y hy; rcases List.mem_append.1 hy with hy | hy; exact hin3 y hy; rw [List.mem_singleton] at hy; subst hy; omega)
         case hq6f4 => first | exact hs3 | (rw [List.length_set]; exact hs3)
         case hq6f5 => first | exact hi3 | (rw [List.length_append]; omega)
         case hq6f6 => first | exact hx3 | (rw [ga_append_left _ _ _ (by omega)]; exact hx3)
         case hq6m => omega
       ·replace hb42 := of_decide_eq_false hb42
        refine ws_exit rfl rfl (nm_blk (nmk [0, 3, 4, 22, 23, 6, 7] rfl (nm_thn (ws_region rfl ?_))))
        refine wlm 0 1 rfl rfl rfl rfl rfl rfl rfl (wlo 1 2 rfl rfl rfl (wo_run rfl rfl (run_add rfl rfl rfl (by first | omega | (simp only [lens]; omega))) ?_))
        refine wla 2 3 rfl rfl rfl rfl rfl rfl rfl (wl_end rfl (nm_lp ?_))
        intro ax_ hax_
        refine ⟨_, ?hq7m, ⟨i + 1, _, _, _, _, rfl, hax_.sub ⟨rfl, rfl, rfl, rfl, rfl, rfl, rfl, trivial⟩, S8.pick [0, 1, 2] [_, _, _] (by decide) ⟨rfl, rfl, rfl, trivial⟩, ?hq7f0, ?hq7f1, ?hq7f2, ?hq7f3, ?hq7f4⟩⟩
        case hq7f0 => (rw [hbf, show d.crs.length - i = (d.crs.length - (i + 1)) + 1 by omega]; exact bfsN_go (by show i < l.length; omega) hx (hbs ▸ (by rw [show k = 4 by omega])))
        case hq7f1 => omega
        case hq7f2 => omega
        case hq7f3 => exact hin3
        case hq7f4 => exact hs3
        case hq7m => omega
     ·replace hb38 := of_decide_eq_false hb38
      have hsr := srt_len l
      refine ws_exit rfl rfl (nmk [0, 3, 4, 22, 23, 6] rfl (nm_thn (ws_seqN Pieces_n72 Pieces_n73 rfl rfl rfl (ws_region rfl ?_))))
      refine wlm 0 1 rfl rfl rfl rfl rfl rfl rfl (wlo 1 2 rfl rfl rfl (wo_c1 rfl rfl rfl rfl rfl rfl rfl cf33 S7 (i := 0) rfl (sort_w (by omega) (S7.lend1 (i := 0) rfl)) ?_))
      rintro vw11 w11 _ _ - S14 ⟨rfl, rfl, rfl⟩; clear S7
      change SH _ _ _ [_, _, _] at S14
      refine wl_end rfl (nmk [0, 3, 4, 22, 23, 6] rfl (nm_thn (ws_region rfl (wlm 0 1 rfl rfl rfl rfl rfl rfl rfl ?_))))
      refine wlm 1 2 rfl rfl rfl rfl rfl rfl rfl ?_
      obtain ⟨M2, hle4, S15, ⟨A1, c1, e1, hr1⟩⟩ := S14.pubrow (i := 0) (H' := [_, _, _]) rfl rfl (by show _ * 8 ≤ _; first | omega | (simp only [lens]; omega))
      clear S14; subst e1
      replace hsb := hsb.mono (Hp.un_mono hle4 S15.mx)
      replace hsc := hsc.mono (Hp.un_mono hle4 S15.mx)
      replace hsi := hsi.mono (Hp.un_mono hle4 S15.mx)
      replace hso := hso.mono (Hp.un_mono hle4 S15.mx)
      replace hdo := hdo.mono hle4
      refine wlo 2 3 rfl rfl rfl (wo_buildSlice1 (C := (cdV 25)) (l := [_]) rfl rfl rfl rfl sl30 rfl rfl rfl rfl S15 ?_)
      intro gb3 w12 S16; clear S15
      refine wlo 3 4 rfl rfl rfl (wo_append1 (C := (cdV 25)) (i := 2) (q := 0) (⟨A1, (srt l).length, c1⟩ : SlV) rfl rfl rfl rfl rfl rfl rfl rfl sl30 S16 rfl rfl rfl (by show (_ + 1) * 24 ≤ _; first | omega | (simp only [lens]; omega)) ?_)
      intro vro1 w13 S17; clear S16
      have S18 := S17.pick [1, 2, 3] [_, _, _] (by decide) ⟨rfl, rfl, rfl, trivial⟩; clear S17
      have hd1 := hdo.snoc (c := c1) hr1
      refine wla 4 5 rfl rfl rfl rfl rfl rfl rfl (wl_end rfl (nm_blk (nmk [0, 3, 4, 22, 23] rfl (nm_thn ?_))))
      refine ws_region rfl (wlo 0 1 rfl rfl rfl (wo_run rfl rfl (run_add rfl rfl rfl (by first | omega | (simp only [lens]; omega))) ?_))
      refine wlm 1 2 rfl rfl rfl rfl rfl rfl rfl (wl_end rfl (nm_lp ?_))
      intro ax_ hax_
      refine ⟨_, ?hq8m, ⟨c + 1, _, _, (pss ++ [srt l]), _, _, _, (hle1.trans hle4), rfl, hax_.sub ⟨rfl, rfl, rfl, rfl, rfl, trivial⟩, S18.pick [1, 2] [_, _] (by decide) ⟨rfl, rfl, trivial⟩, ?hq8f0, ?hq8f1, ?hq8f2⟩⟩
      case hq8f0 => omega
      case hq8f1 => first | exact pcsN_skip hpn hb29 | exact pcsN_add hpn (by simpa using hb29) (hbf.trans (bfsN_stop (by show l.length ≤ i; omega)))
      case hq8f2 => first | exact hd1 | (rw [e9]; exact hd1)
      case hq8m => omega
  ·replace hb24 := of_decide_eq_false hb24
   refine ws_exit rfl rfl (nmk [4] rfl (nm_thn (ws_seqN Pieces_n74 Pieces_n75 rfl rfl rfl (ws_region rfl ?_))))
   refine wlm 0 1 rfl rfl rfl rfl rfl rfl rfl (wla 1 2 rfl rfl rfl rfl rfl rfl rfl (wl_end rfl (nmk [2] rfl (nm_thn ?_))))
   obtain ⟨M3, hle5, S19, ⟨A2, c2, e2, hr2⟩⟩ := S3.pubrow (i := 0) (H' := [_, _]) rfl rfl (by show _ * 24 ≤ _; first | omega | (simp only [lens]; omega))
   clear S3; subst e2
   replace hsb := hsb.mono (Hp.un_mono hle5 S19.mx)
   replace hsc := hsc.mono (Hp.un_mono hle5 S19.mx)
   replace hsi := hsi.mono (Hp.un_mono hle5 S19.mx)
   replace hso := hso.mono (Hp.un_mono hle5 S19.mx)
   replace hdo := hdo.mono hle5
   refine ws_ret hC [_] rfl rfl ⟨rfl, trivial⟩ ?_
   refine ⟨_, rfl, _, hle1.trans hle5, (S19.pick [] [] (by decide) trivial), ?_⟩
   obtain rfl : c = d.crs.length := by omega
   have e2 : pcsL d = pss := by unfold pcsL; rw [hpn]
   rw [e2]
   exact ⟨_, _, _, rfl, hr2, hdo⟩
end Go.Proofs.Ythppkofceancjaa
namespace Go.Proofs.Ythppkofceancjaa
open Go.ChangeShapes Go.WideShapes Go.ChangeAt Go.RowKit
theorem gs_same {xs : List Bool} {i : Nat} {y : Bool} (h : i < xs.length) : ga (xs.set i y) i = y := by rw [ga_set _ _ _ _ h, if_pos rfl]
theorem gs_ne {xs : List Bool} {i j : Nat} {y : Bool} (h : i ≠ j) : ga (xs.set i y) j = ga xs j := by unfold ga; simp [List.getElem?_set, h]
/-- What the search for the pieces finds, in plain Lean. -/
inductive Rc (d : Dg) : Nat → Nat → Prop
 | refl (x : Nat) : Rc d x x
 | step {x y k : Nat} : Rc d x y → k < 4 → Rc d x (nbC d y k)
structure BI (d : Dg) (n : Nat) (s0 : List Bool) (c : Nat) (s : List Bool × List Int) : Prop where
 len : s.1.length = n
 see : ∀ x, x < n → (ga s.1 x = true ↔ (ga s0 x = true ∨ (x : Int) ∈ s.2))
 nod : s.2.Nodup
 el : ∀ y ∈ s.2, ∃ z : Nat, y = (z : Int) ∧ z < n ∧ ga s0 z = false ∧ Rc d c z
 room : s.2.length + free s.1 ≤ n
theorem addS_bi {d : Dg} {n : Nat} {s0 : List Bool} {c : Nat} {s : List Bool × List Int} (h : BI d n s0 c s) {y : Nat} (hy : y < n) (hr : Rc d c y) :
  BI d n s0 c (addS s y) ∧ (∃ t, (addS s y).2 = s.2 ++ t) ∧ ga (addS s y).1 y = true ∧ ∀ x, ga s.1 x = true → ga (addS s y).1 x = true := by
 unfold addS
 by_cases hg : ga s.1 y = true
 ·rw [if_pos hg]
  exact ⟨h, ⟨[], by simp⟩, hg, fun x hx => hx⟩
 ·rw [if_neg hg]
  have hlen := h.len
  have hf : ga s.1 y = false := by simpa using hg
  have hnot : ¬ (ga s0 y = true ∨ (y : Int) ∈ s.2) := fun hh => hg ((h.see y hy).2 hh)
  have hfr := free_set (seen := s.1) (x := y) (by omega) hf
  have hro := h.room
  refine ⟨⟨by simp [hlen], fun x hx => ?_, ?_, fun z hz => ?_, ?_⟩, ⟨[(y : Int)], rfl⟩, ?_, fun x hx => ?_⟩
  ·by_cases e : x = y
   ·subst e
    exact ⟨fun _ => .inr (by simp), fun _ => gs_same (by omega)⟩
   ·show ga (s.1.set y true) x = true ↔ _
    rw [gs_ne (show y ≠ x from fun e' => e e'.symm)]
    rw [h.see x hx, List.mem_append, List.mem_singleton]
    constructor
    ·rintro (h1 | h1)
     ·exact .inl h1
     ·exact .inr (.inl h1)
    ·rintro (h1 | h1 | h1)
     ·exact .inl h1
     ·exact .inr h1
     ·exact absurd (Int.ofNat.inj h1) e
  ·rw [List.nodup_append]
   refine ⟨h.nod, by simp, fun a ha b hb e => ?_⟩
   rw [List.mem_singleton] at hb
   subst hb; subst e
   exact hnot (.inr ha)
  ·rcases List.mem_append.1 hz with hz | hz
   ·exact h.el z hz
   ·rw [List.mem_singleton] at hz
    exact ⟨y, hz, hy, by have := fun e => hnot (.inl e); simpa using this, hr⟩
  ·show (s.2 ++ [(y : Int)]).length + free (s.1.set y true) ≤ n
   rw [List.length_append]
   show s.2.length + 1 + _ ≤ n
   omega
  ·exact gs_same (by omega)
  ·by_cases e : x = y
   ·subst e; exact gs_same (by omega)
   ·show ga (s.1.set y true) x = true
    rw [gs_ne (show y ≠ x from fun e' => e e'.symm)]; exact hx
theorem bfsS_bi {d : Dg} {s0 : List Bool} {c x : Nat} {s : List Bool × List Int} (hab : arcsB d = true) (h : BI d d.crs.length s0 c s) (hx : x < d.crs.length) (hr : Rc d c x) (k : Nat) (hk : k ≤ 4) :
  BI d d.crs.length s0 c (bfsS d x s k) ∧ (∃ t, (bfsS d x s k).2 = s.2 ++ t) ∧ (∀ j, j < k → ga (bfsS d x s k).1 (nbC d x j) = true) ∧ ∀ z, ga s.1 z = true → ga (bfsS d x s k).1 z = true := by
 induction k with
 | zero => exact ⟨h, ⟨[], by simp [bfsS]⟩, fun j hj => by omega, fun z hz => hz⟩
 | succ k ih =>
  obtain ⟨h1, ⟨t1, h2⟩, h3, h4⟩ := ih (by omega)
  obtain ⟨g1, ⟨t2, g2⟩, g3, g4⟩ := addS_bi h1 (nbC_lt hab hx (show k < 4 by omega)) (hr.step (show k < 4 by omega))
  refine ⟨g1, ⟨t1 ++ t2, ?_⟩, fun j hj => ?_, fun z hz => g4 z (h4 z hz)⟩
  ·show (addS _ _).2 = _
   rw [g2, h2, List.append_assoc]
  ·by_cases e : j = k
   ·subst e; exact g3
   ·exact g4 _ (h3 j (by omega))
theorem bfsN_bi {d : Dg} {s0 : List Bool} {c : Nat} (hab : arcsB d = true) : ∀ (f i : Nat) (s : List Bool × List Int), BI d d.crs.length s0 c s → d.crs.length ≤ i + f → i ≤ s.2.length → (∀ j, j < i → ∀ k, k < 4 → ga s.1 (nbC d (ga s.2 j).toNat k) = true) →
  BI d d.crs.length s0 c (bfsN d f i s) ∧ (∃ t, (bfsN d f i s).2 = s.2 ++ t) ∧ ∀ j, j < (bfsN d f i s).2.length → ∀ k, k < 4 → ga (bfsN d f i s).1 (nbC d (ga (bfsN d f i s).2 j).toNat k) = true := by
 intro f
 induction f with
 | zero =>
  intro i s h hf hi hp
  have := h.room
  exact ⟨h, ⟨[], by simp [bfsN]⟩, fun j hj => hp j (by have hj' : j < s.2.length := hj; omega)⟩
 | succ f ih =>
  intro i s h hf hi hp
  by_cases hlt : i < s.2.length
  ·rw [bfsN, if_pos hlt]
   obtain ⟨z, hz, hzn, _, hrz⟩ := h.el _ (ga_mem hlt)
   rw [hz, Int.toNat_natCast]
   obtain ⟨h1, ⟨t, h2⟩, h3, h4⟩ := bfsS_bi hab h hzn hrz 4 (Nat.le_refl _)
   obtain ⟨g1, ⟨t', g2⟩, g3⟩ := ih (i + 1) (bfsS d z s 4) h1 (by omega) (by rw [h2, List.length_append]; omega) (fun j hj k hk => by
    rw [h2, ga_append_left _ _ _ (by omega)]
    by_cases e : j = i
    ·subst e; rw [hz, Int.toNat_natCast]; exact h3 k hk
    ·exact h4 _ (hp j (by omega) k hk))
   exact ⟨g1, ⟨t ++ t', by rw [g2, h2, List.append_assoc]⟩, g3⟩
  ·rw [bfsN_stop (by omega)]
   exact ⟨h, ⟨[], by simp⟩, fun j hj => hp j (by omega)⟩
structure PcI (d : Dg) (c : Nat) (s : List Bool × List (List Int)) : Prop where
 see : ∀ x, x < d.crs.length → (ga s.1 x = true ↔ ∃ i, i < s.2.length ∧ (x : Int) ∈ ga s.2 i)
 cov : ∀ x, x < c → ga s.1 x = true
 el : ∀ i, i < s.2.length → (ga s.2 i).Nodup ∧ ∃ c0 : Nat, c0 < d.crs.length ∧ (c0 : Int) ∈ ga s.2 i ∧ ∀ y ∈ ga s.2 i, ∃ z : Nat, y = (z : Int) ∧ z < d.crs.length ∧ Rc d c0 z
 clo : ∀ i, i < s.2.length → ∀ z : Nat, (z : Int) ∈ ga s.2 i → ∀ k, k < 4 → ((nbC d z k : Nat) : Int) ∈ ga s.2 i
 dis : ∀ i j, i < s.2.length → j < s.2.length → ∀ y, y ∈ ga s.2 i → y ∈ ga s.2 j → i = j
theorem pcsN_pi {d : Dg} (hab : arcsB d = true) (hsym : ∀ x k, x < d.crs.length → k < 4 → ∃ k', k' < 4 ∧ nbC d (nbC d x k) k' = x) (c : Nat) (hc : c ≤ d.crs.length) : PcI d c (pcsN d c) := by
 induction c with
 | zero =>
  refine ⟨fun x hx => ?_, fun x hx => by omega, fun i hi => ?_, fun i hi => ?_, fun i j hi => ?_⟩
  ·simp only [pcsN]
   rw [ga_rep _ _ _ hx]
   constructor
   ·intro h; cases h
   ·rintro ⟨i, hi, _⟩; exact absurd hi (Nat.not_lt_zero _)
  all_goals exact absurd hi (Nat.not_lt_zero _)
 | succ c ih =>
  have I := ih (by omega)
  have hlen := pcsN_len d c
  generalize hs : pcsN d c = s at I hlen
  obtain ⟨seen, pss⟩ := s
  by_cases hg : ga seen c = true
  ·rw [pcsN_skip hs hg]
   exact ⟨I.see, fun x hx => by by_cases e : x = c; (subst e; exact hg); exact I.cov x (by omega), I.el, I.clo, I.dis⟩
  ·have hgf : ga seen c = false := by simpa using hg
   rw [pcsN_add hs hgf rfl]
   have hlen' : seen.length = d.crs.length := hlen
   have B0 : BI d d.crs.length seen c (seen.set c true, [(c : Int)]) := by
    have hfr := free_set (seen := seen) (x := c) (by omega) hgf
    have hfl : free seen ≤ seen.length := List.countP_le_length
    refine ⟨by simp [hlen'], fun x hx => ?_, by simp, fun y hy => ?_, by show 1 + free (seen.set c true) ≤ _; omega⟩
    ·by_cases e : x = c
     ·subst e; exact ⟨fun _ => .inr (by simp), fun _ => gs_same (by omega)⟩
     ·show ga (seen.set c true) x = true ↔ _
      rw [gs_ne (show c ≠ x from fun e' => e e'.symm)]
      constructor
      ·exact .inl
      ·rintro (h1 | h1)
       ·exact h1
       ·rw [List.mem_singleton] at h1; exact absurd (Int.ofNat.inj h1) e
    ·rw [List.mem_singleton] at hy; exact ⟨c, hy, by omega, hgf, .refl c⟩
   obtain ⟨B1, ⟨t, B2⟩, B3⟩ := bfsN_bi hab d.crs.length 0 _ B0 (by omega) (Nat.zero_le _) (fun j hj => by omega)
   generalize hr : bfsN d d.crs.length 0 (seen.set c true, [(c : Int)]) = r at B1 B2 B3 ⊢
   have hcm : (c : Int) ∈ r.2 := by rw [B2]; simp
   have hnew : ga (pss ++ [srt r.2]) pss.length = srt r.2 := by rw [ga_append_right _ _ _ (Nat.le_refl _), Nat.sub_self]; rfl
   have hold : ∀ i, i < pss.length → ga (pss ++ [srt r.2]) i = ga pss i := fun i hi => ga_append_left _ _ _ hi
   have hL : (pss ++ [srt r.2]).length = pss.length + 1 := by simp
   have hcl : ∀ z : Nat, (z : Int) ∈ r.2 → ∀ k, k < 4 → ((nbC d z k : Nat) : Int) ∈ r.2 := fun z hz k hk => by
    obtain ⟨j, hj, ej⟩ := List.mem_iff_getElem.1 hz
    have h1 := B3 j hj k hk
    rw [ga_eq hj, ej, Int.toNat_natCast] at h1
    obtain ⟨z', e', hzn, hz0, _⟩ := B1.el _ hz
    obtain rfl : z = z' := by omega
    have hnl := nbC_lt hab hzn hk
    rcases (B1.see _ hnl).1 h1 with h2 | h2
    ·exfalso
     obtain ⟨i, hi, hm⟩ := (I.see _ hnl).1 h2
     obtain ⟨k', hk', e2⟩ := hsym z k hzn hk
     have h3 := I.clo i hi _ hm k' hk'
     rw [e2] at h3
     have h4 := (I.see z hzn).2 ⟨i, hi, h3⟩
     have h5 : ga seen z = true := h4
     rw [hz0] at h5; cases h5
    ·exact h2
   refine ⟨fun x hx => ?_, fun x hx => ?_, fun i hi => ?_, fun i hi => ?_, fun i j hi hj y hy hy' => ?_⟩
   ·show ga r.1 x = true ↔ ∃ i, i < (pss ++ [srt r.2]).length ∧ (x : Int) ∈ ga (pss ++ [srt r.2]) i
    rw [B1.see x hx]
    have hI : ga seen x = true ↔ ∃ i, i < pss.length ∧ (x : Int) ∈ ga pss i := I.see x hx
    rw [hI]
    constructor
    ·rintro (⟨i, hi, hm⟩ | hm)
     ·exact ⟨i, by omega, by rw [hold i hi]; exact hm⟩
     ·exact ⟨pss.length, by omega, by rw [hnew]; exact srt_mem.2 hm⟩
    ·rintro ⟨i, hi, hm⟩
     by_cases e : i < pss.length
     ·rw [hold i e] at hm; exact .inl ⟨i, e, hm⟩
     ·obtain rfl : i = pss.length := by omega
      rw [hnew] at hm; exact .inr (srt_mem.1 hm)
   ·show ga r.1 x = true
    rw [B1.see x (by omega)]
    by_cases e : x = c
    ·subst e; exact .inr hcm
    ·exact .inl (I.cov x (by omega))
   ·show (ga (pss ++ [srt r.2]) i).Nodup ∧ ∃ c0 : Nat, c0 < d.crs.length ∧ (c0 : Int) ∈ ga (pss ++ [srt r.2]) i ∧ ∀ y ∈ ga (pss ++ [srt r.2]) i, _
    have hi' : i < (pss ++ [srt r.2]).length := hi
    by_cases e : i < pss.length
    ·rw [hold i e]; exact I.el i e
    ·obtain rfl : i = pss.length := by omega
     rw [hnew]
     refine ⟨(srt_perm r.2).nodup_iff.2 B1.nod, c, by omega, srt_mem.2 hcm, fun y hy => ?_⟩
     obtain ⟨z, h1, h2, _, h3⟩ := B1.el y (srt_mem.1 hy)
     exact ⟨z, h1, h2, h3⟩
   ·show ∀ z : Nat, (z : Int) ∈ ga (pss ++ [srt r.2]) i → ∀ k, k < 4 → ((nbC d z k : Nat) : Int) ∈ ga (pss ++ [srt r.2]) i
    have hi' : i < (pss ++ [srt r.2]).length := hi
    by_cases e : i < pss.length
    ·rw [hold i e]; exact I.clo i e
    ·obtain rfl : i = pss.length := by omega
     rw [hnew]
     intro z hz k hk
     exact srt_mem.2 (hcl z (srt_mem.1 hz) k hk)
   ·have hi' : i < (pss ++ [srt r.2]).length := hi
    have hj' : j < (pss ++ [srt r.2]).length := hj
    have hy1 : y ∈ ga (pss ++ [srt r.2]) i := hy
    have hy2 : y ∈ ga (pss ++ [srt r.2]) j := hy'
    have key : ∀ i, i < pss.length → y ∈ ga pss i → y ∈ r.2 → False := fun i hi h1 h2 => by
     obtain ⟨z, rfl, hzn, hz0, _⟩ := B1.el y h2
     have h5 : ga seen z = true := (I.see z hzn).2 ⟨i, hi, h1⟩
     rw [hz0] at h5; cases h5
    by_cases e : i < pss.length
    ·rw [hold i e] at hy1
     by_cases e' : j < pss.length
     ·rw [hold j e'] at hy2; exact I.dis i j e e' y hy1 hy2
     ·obtain rfl : j = pss.length := by omega
      rw [hnew] at hy2
      exact (key i e hy1 (srt_mem.1 hy2)).elim
    ·obtain rfl : i = pss.length := by omega
     rw [hnew] at hy1
     by_cases e' : j < pss.length
     ·rw [hold j e'] at hy2
      exact (key j e' hy2 (srt_mem.1 hy1)).elim
     ·omega
end Go.Proofs.Ythppkofceancjaa
namespace Go.Proofs.Ythppkofceancjaa
open Go.ChangeShapes Go.WideShapes Go.ChangeAt Go.RowKit
theorem endOf_back {d : Dg} (h : arcsB d = true) {c k : Nat} {b : Bool} (hc : c < d.crs.length) (hk : k < 4) (hin : entryB d c k = !b) : endOf d (arcAt d c k) b = (c, k) := by
 have hr := arcAt_bd h hc hk
 have hcn : cntP d ((arcAt d c k).toNat : Nat) b (4 * d.crs.length) = 1 := by
  have := arcsB_out h (arcAt d c k).toNat (by omega) (by omega)
  cases b
  ·exact this.1
  ·exact this.2
 rw [show (((arcAt d c k).toNat : Nat) : Int) = arcAt d c k by omega] at hcn
 obtain ⟨j, j1, j2, j3, j4⟩ := cntP_one hcn
 have hme : endP d (arcAt d c k) b (4 * c + k) = true := by rw [endP_at hk]; cases b <;> simp [hin]
 obtain rfl := j3 (4 * c + k) (by omega) hme
 have e := lastP_end hcn
 rw [j4] at e
 rw [← e]
 exact Prod.ext (by dsimp only; omega) (by dsimp only; omega)
theorem endOf_there {d : Dg} (h : arcsB d = true) {a : Int} (ha : 1 ≤ a ∧ a ≤ 2 * (d.crs.length : Int)) (b : Bool) : arcAt d (endOf d a b).1 (endOf d a b).2 = a ∧ entryB d (endOf d a b).1 (endOf d a b).2 = !b := by
 obtain ⟨_, _, _, h4, h5⟩ := endOf_lt h (a := a.toNat) (by omega) (by omega) b
 rw [show ((a.toNat : Nat) : Int) = a by omega] at h4 h5
 exact ⟨h4, h5⟩
theorem nb_sym {d : Dg} (h : arcsB d = true) (x k : Nat) (hx : x < d.crs.length) (hk : k < 4) : ∃ k', k' < 4 ∧ nbC d (nbC d x k) k' = x := by
 have ha := arcAt_bd h hx hk
 obtain ⟨h1, h2, _⟩ := endD h ha (entryB d x k)
 obtain ⟨h3, h4⟩ := endOf_there h ha (entryB d x k)
 refine ⟨(endOf d (arcAt d x k) (entryB d x k)).2, h2, ?_⟩
 show (endOf d (arcAt d (endOf d (arcAt d x k) (entryB d x k)).1 (endOf d (arcAt d x k) (entryB d x k)).2) (entryB d (endOf d (arcAt d x k) (entryB d x k)).1 (endOf d (arcAt d x k) (entryB d x k)).2)).1 = x
 rw [h3, h4, endOf_back h hx hk (by cases entryB d x k <;> rfl)]
theorem pcs {d : Dg} (h : arcsB d = true) : PcI d d.crs.length (pcsN d d.crs.length) := pcsN_pi h (nb_sym h) _ (Nat.le_refl _)
/-- The map from crossings to pieces. -/
def putP (i : Nat) (p : List Int) (es : List (Int × Int)) : Nat → List (Int × Int)
 | 0 => es
 | k + 1 => mp (ga p k) (i : Int) (putP i p es k)
def pmapN (pss : List (List Int)) : Nat → List (Int × Int)
 | 0 => []
 | i + 1 => putP i (ga pss i) (pmapN pss i) (ga pss i).length
theorem putP_mg (i : Nat) (p : List Int) (es : List (Int × Int)) (k : Nat) (hk : k ≤ p.length) (y : Int) : (y ∈ p.take k → mg y (putP i p es k) = some (i : Int)) ∧ (y ∉ p.take k → mg y (putP i p es k) = mg y es) := by
 induction k with
 | zero => exact ⟨fun h => by simp at h, fun _ => rfl⟩
 | succ k ih =>
  have ih := ih (by omega)
  rw [take_ga _ _ (by omega), putP, mg_mp]
  constructor
  ·intro h
   by_cases e : y = ga p k
   ·rw [if_pos e]
   ·rw [if_neg e]
    rcases List.mem_append.1 h with h | h
    ·exact ih.1 h
    ·exact absurd (List.mem_singleton.1 h) e
  ·intro h
   rw [List.mem_append, List.mem_singleton] at h
   rw [if_neg (fun e => h (.inr e))]
   exact ih.2 (fun e => h (.inl e))
theorem pmapN_mg {pss : List (List Int)} (hd : ∀ i j, i < pss.length → j < pss.length → ∀ y, y ∈ ga pss i → y ∈ ga pss j → i = j) (m : Nat) (hm : m ≤ pss.length) {i : Nat} (hi : i < m) {y : Int} (hy : y ∈ ga pss i) : mg y (pmapN pss m) = some (i : Int) := by
 induction m with
 | zero => omega
 | succ m ih =>
  have h := putP_mg m (ga pss m) (pmapN pss m) (ga pss m).length (Nat.le_refl _) y
  rw [List.take_length] at h
  rw [pmapN]
  by_cases e : y ∈ ga pss m
  ·rw [h.1 e, hd i m (by omega) (by omega) y hy e]
  ·rw [h.2 e]
   exact ih (by omega) (by
    rcases Nat.lt_or_ge i m with h1 | h1
    ·exact h1
    ·obtain rfl : i = m := by omega
     exact absurd hy e)
def pmap (d : Dg) : List (Int × Int) := pmapN (pcsL d) (pcsL d).length
/-- The number of a crossing's piece. -/
def pcI (d : Dg) (x : Nat) : Nat := ((mg (x : Int) (pmap d)).getD 0).toNat
theorem pcI_at {d : Dg} (h : arcsB d = true) {i x : Nat} (hi : i < (pcsL d).length) (hx : (x : Int) ∈ ga (pcsL d) i) : mg (x : Int) (pmap d) = some (i : Int) ∧ pcI d x = i := by
 have e := pmapN_mg (pcs h).dis _ (Nat.le_refl _) hi hx
 refine ⟨e, ?_⟩
 unfold pcI
 unfold pmap
 rw [show mg (x : Int) (pmapN (pcsL d) (pcsL d).length) = some (i : Int) from e]
 rfl
theorem pcI_lt {d : Dg} (h : arcsB d = true) {x : Nat} (hx : x < d.crs.length) : pcI d x < (pcsL d).length ∧ (x : Int) ∈ ga (pcsL d) (pcI d x) ∧ (mg (x : Int) (pmap d)).getD 0 = (pcI d x : Int) := by
 obtain ⟨i, hi, hm⟩ := ((pcs h).see x hx).1 ((pcs h).cov x hx)
 have hi' : i < (pcsL d).length := hi
 have hm' : (x : Int) ∈ ga (pcsL d) i := hm
 obtain ⟨h1, h2⟩ := pcI_at h hi' hm'
 rw [h2]
 exact ⟨hi', hm', by rw [h1]; rfl⟩
def fcN (d : Dg) : Nat → List Int
 | 0 => List.replicate (pcsL d).length 0
 | k + 1 => (fcN d k).set (pcI d (fcC d k)) (ga (fcN d k) (pcI d (fcC d k)) + 1)
theorem fcN_len (d : Dg) (k : Nat) : (fcN d k).length = (pcsL d).length := by
 induction k with
 | zero => exact List.length_replicate
 | succ k ih => rw [fcN, List.length_set, ih]
theorem fcN_bd (d : Dg) (k j : Nat) : 0 ≤ ga (fcN d k) j ∧ ga (fcN d k) j ≤ k := by
 induction k generalizing j with
 | zero =>
  by_cases h : j < (pcsL d).length
  ·rw [fcN, ga_rep _ _ _ h]; simp
  ·rw [fcN, show ga (List.replicate (pcsL d).length (0 : Int)) j = 0 from by unfold ga; simp [h]]; exact ⟨Int.le_refl _, Int.le_refl _⟩
 | succ k ih =>
  rw [fcN]
  have h1 := ih j
  have h2 := ih (pcI d (fcC d k))
  by_cases e : pcI d (fcC d k) = j
  ·by_cases hl : j < (fcN d k).length
   ·subst e; rw [ga_set _ _ _ _ hl, if_pos rfl]; omega
   ·rw [List.set_eq_of_length_le (by omega)]; omega
  ·rw [ga_set_ne _ _ _ _ e]; omega
theorem nodup_le {α : Type} [DecidableEq α] {xs ys : List α} (h : xs.Nodup) (hs : ∀ y ∈ xs, y ∈ ys) : xs.length ≤ ys.length := by
 induction xs generalizing ys with
 | nil => exact Nat.zero_le _
 | cons x xs ih =>
  rw [List.nodup_cons] at h
  have hx := hs x (by simp)
  have h1 := ih h.2 (ys := ys.erase x) (fun y hy => (List.mem_erase_of_ne (fun (e : y = x) => h.1 (by rw [← e]; exact hy))).2 (hs y (by simp [hy])))
  rw [List.length_erase_of_mem hx] at h1
  have := List.length_pos_of_mem hx
  rw [List.length_cons]
  omega
def planP (d : Dg) : Bool := (List.range (pcsL d).length).all fun i => decide (ga (fcN d (facesL d).length) i = ((ga (pcsL d) i).length : Int) + 2)
theorem planP_t {d : Dg} (h : ∀ i, i < (pcsL d).length → ga (fcN d (facesL d).length) i = ((ga (pcsL d) i).length : Int) + 2) : planP d = true := by
 unfold planP
 rw [List.all_eq_true]
 intro p hp
 exact decide_eq_true (h p (List.mem_range.1 hp))
theorem planP_f {d : Dg} {i : Nat} (hi : i < (pcsL d).length) (h : ¬ ga (fcN d (facesL d).length) i = ((ga (pcsL d) i).length : Int) + 2) : planP d = false := by
 unfold planP
 rw [List.all_eq_false]
 exact ⟨i, List.mem_range.2 hi, by simpa using h⟩
theorem pcsL_bd {d : Dg} (h : arcsB d = true) {i : Nat} (hi : i < (pcsL d).length) : (ga (pcsL d) i).length ≤ d.crs.length ∧ ∀ y ∈ ga (pcsL d) i, 0 ≤ y ∧ y < (d.crs.length : Int) := by
 obtain ⟨h1, c0, _, _, h2⟩ := (pcs h).el i hi
 have hb : ∀ y ∈ ga (pcsL d) i, 0 ≤ y ∧ y < (d.crs.length : Int) := fun y hy => by obtain ⟨z, rfl, hz, _⟩ := h2 y hy; omega
 refine ⟨?_, hb⟩
 have h3 := nodup_le (ys := (List.range d.crs.length).map fun x : Nat => (x : Int)) h1 (fun y hy => by
  obtain ⟨z, rfl, hz, _⟩ := h2 y hy
  exact List.mem_map.2 ⟨z, List.mem_range.2 hz, rfl⟩)
 rw [List.length_map, List.length_range] at h3
 exact h3
noncomputable def Planar_n0 : Code := Try.f31.body.getD .skip
noncomputable def Planar_n1 : Code := cL Planar_n0
noncomputable def Planar_n2 : Code := cR Planar_n0
noncomputable def Planar_n3 : Code := cL Planar_n2
noncomputable def Planar_n4 : Code := cR Planar_n2
noncomputable def Planar_n5 : Code := cL Planar_n4
noncomputable def Planar_n6 : Code := cR Planar_n4
noncomputable def Planar_n7 : Code := cL Planar_n6
noncomputable def Planar_n8 : Code := cR Planar_n6
noncomputable def Planar_n9 : Code := cL Planar_n7
noncomputable def Planar_n10 : Code := cR Planar_n7
noncomputable def Planar_n11 : Code := cL Planar_n10
noncomputable def Planar_n12 : Code := cL Planar_n11
noncomputable def Planar_n13 : Code := cL Planar_n12
noncomputable def Planar_n14 : Code := cR Planar_n12
noncomputable def Planar_n15 : Code := cL Planar_n14
noncomputable def Planar_n16 : Code := cR Planar_n14
noncomputable def Planar_n17 : Code := cL Planar_n15
noncomputable def Planar_n18 : Code := cR Planar_n15
noncomputable def Planar_n19 : Code := cL Planar_n16
noncomputable def Planar_n20 : Code := cR Planar_n16
noncomputable def Planar_n21 : Code := cL Planar_n19
noncomputable def Planar_n22 : Code := cL Planar_n21
noncomputable def Planar_n23 : Code := cR Planar_n21
noncomputable def Planar_n24 : Code := cL Planar_n23
noncomputable def Planar_n25 : Code := cR Planar_n23
noncomputable def Planar_n26 : Code := cL Planar_n25
noncomputable def Planar_n27 : Code := cL Planar_n26
noncomputable def Planar_n28 : Code := cL Planar_n27
noncomputable def Planar_n29 : Code := cR Planar_n27
noncomputable def Planar_n30 : Code := cL Planar_n29
noncomputable def Planar_n31 : Code := cR Planar_n29
noncomputable def Planar_n32 : Code := cL Planar_n30
noncomputable def Planar_n33 : Code := cR Planar_n30
noncomputable def Planar_n34 : Code := cL Planar_n31
noncomputable def Planar_n35 : Code := cR Planar_n31
noncomputable def Planar_n36 : Code := cL Planar_n34
noncomputable def Planar_n37 : Code := cL Planar_n36
noncomputable def Planar_n38 : Code := cR Planar_n36
noncomputable def Planar_n39 : Code := cL Planar_n8
noncomputable def Planar_n40 : Code := cR Planar_n8
noncomputable def Planar_n41 : Code := cL Planar_n40
noncomputable def Planar_n42 : Code := cR Planar_n40
noncomputable def Planar_n43 : Code := cL Planar_n41
noncomputable def Planar_n44 : Code := cR Planar_n41
noncomputable def Planar_n45 : Code := cL Planar_n44
noncomputable def Planar_n46 : Code := cL Planar_n45
noncomputable def Planar_n47 : Code := cL Planar_n46
noncomputable def Planar_n48 : Code := cR Planar_n46
noncomputable def Planar_n49 : Code := cL Planar_n48
noncomputable def Planar_n50 : Code := cR Planar_n48
noncomputable def Planar_n51 : Code := cL Planar_n49
noncomputable def Planar_n52 : Code := cR Planar_n49
noncomputable def Planar_n53 : Code := cL Planar_n50
noncomputable def Planar_n54 : Code := cR Planar_n50
noncomputable def Planar_n55 : Code := cL Planar_n53
noncomputable def Planar_n56 : Code := cL Planar_n55
noncomputable def Planar_n57 : Code := cR Planar_n55
noncomputable def Planar_n58 : Code := cL Planar_n42
noncomputable def Planar_n59 : Code := cR Planar_n42
noncomputable def Planar_n60 : Code := cL Planar_n58
noncomputable def Planar_n61 : Code := cR Planar_n58
noncomputable def Planar_n62 : Code := cL Planar_n61
noncomputable def Planar_n63 : Code := cL Planar_n62
noncomputable def Planar_n64 : Code := cL Planar_n63
noncomputable def Planar_n65 : Code := cR Planar_n63
noncomputable def Planar_n66 : Code := cL Planar_n65
noncomputable def Planar_n67 : Code := cR Planar_n65
noncomputable def Planar_n68 : Code := cL Planar_n66
noncomputable def Planar_n69 : Code := cR Planar_n66
noncomputable def Planar_n70 : Code := cL Planar_n67
noncomputable def Planar_n71 : Code := cR Planar_n67
noncomputable def Planar_n72 : Code := cL Planar_n70
noncomputable def Planar_n73 : Code := cL Planar_n72
noncomputable def Planar_n74 : Code := cR Planar_n72
noncomputable def Planar_n75 : Code := cL Planar_n74
noncomputable def Planar_n76 : Code := cR Planar_n74
noncomputable def Planar_n77 : Code := cL Planar_n76
noncomputable def Planar_n78 : Code := cR Planar_n76
noncomputable def Planar_n79 : Code := cL Planar_n77
noncomputable def Planar_n80 : Code := cR Planar_n77
noncomputable def Planar_n81 : Code := cL Planar_n59
noncomputable def Planar_n82 : Code := cR Planar_n59
set_option maxHeartbeats 1000000 in
set_option maxRecDepth 10000 in
theorem Planar_t {w : World} {M : Hp} {X : Fr} (d : Dg) {gsh : Nat} {cA iA oA : Option Addr} {cc ic oc : Nat} (hsb : BxM M gsh 61 [.slice cA d.crs.length cc, .int .i64 d.loops, .slice iA (tabL d false (4 * d.crs.length)).length ic, .slice oA (tabL d true (4 * d.crs.length)).length oc]) (hsc : RdA cdCr M cA cc d.crs) (hsi : RdA cdPl M iA ic (tabL d false (4 * d.crs.length))) (hso : RdA cdPl M oA oc (tabL d true (4 * d.crs.length))) (hn : d.crs.length ≤ 16) (hab : arcsB d = true) (S : SH w M X []) : Ct Try.prog 31 [.pointer (some ⟨gsh, 0, none⟩)] w M X (fun u _ => u = .bool (planP d)) := by
 unfold Ct
 refine calls_in (b := Planar_n0) Try.func31 rfl Try.ntmps31 rfl (fun C hC => (ws_sub [(0, _)] ⟨rfl, trivial⟩ (ws_seqN Planar_n1 Planar_n2 rfl rfl rfl (ws_region rfl (wla 0 1 rfl rfl rfl rfl rfl rfl rfl ?_)))))
 refine wl_end rfl (nmk [0] rfl (nm_thn (ws_seqN Planar_n3 Planar_n4 rfl rfl rfl (ws_region rfl ?_))))
 refine wlo 0 1 rfl rfl rfl (wo_makeMap Int Int (Value.int .i64) (Value.int .i64) rfl rfl rfl S ?_)
 intro gm1 w1 S1; clear S
 refine wla 1 2 rfl rfl rfl rfl rfl rfl rfl (wl_end rfl (nmk [0, 3] rfl (nm_thn (ws_seqN Planar_n5 Planar_n6 rfl rfl rfl ?_))))
 refine ws_region rfl (wlm 0 1 rfl rfl rfl rfl rfl rfl rfl (wlo 1 2 rfl rfl rfl (wo_ct rfl rfl rfl rfl rfl rfl rfl cf19 S1 (Pieces_t d (hsb.mono (Hp.le_un _ _)) (hsc.mono (Hp.le_un _ _)) (hsi.mono (Hp.le_un _ _)) (hso.mono (Hp.le_un _ _)) hn hab S1.lend) ?_)))
 intro vw2 w2 M1 hle1 S2 hRw2; clear S1
 replace hsb := hsb.mono hle1
 replace hsc := hsc.mono hle1
 replace hsi := hsi.mono hle1
 replace hso := hso.mono hle1
 obtain ⟨A1, c1, vs1, rfl, hr1, hd1⟩ := hRw2
 have hlenpcsL := hd1.1
 refine wla 2 3 rfl rfl rfl rfl rfl rfl rfl (wl_end rfl (nmk [0, 3, 4] rfl (nm_thn (ws_seqN Planar_n7 Planar_n8 rfl rfl rfl ?_))))
 refine ws_seqN Planar_n9 Planar_n10 rfl rfl rfl (ws_region rfl (wlm 0 1 rfl rfl rfl rfl rfl rfl rfl (wlo 1 2 rfl rfl rfl (wo_run rfl rfl (run_len rfl rfl rfl rfl rfl rfl Try.underlying30) (wlm 2 3 rfl rfl rfl rfl rfl rfl rfl ?_)))))
 refine wl_end rfl (nm_thn (ws_blockN Planar_n11 0 rfl rfl rfl ?_))
 refine ws_loopE (fun mx_ ax_ wx_ => ∃ (i : Nat) (es : List (Int × Int)), mx_ = (pcsL d).length - i ∧ Env 75 [(0, .pointer (some ⟨gsh, 0, none⟩)), (3, .map (some gm1)), (4, .slice A1 vs1.length c1), (17, .slice A1 vs1.length c1), (18, .int .i64 (vs1.length : Int)), (19, .int .i64 (i : Int))] ax_ ∧ SH wx_ M1 X [Rs.mp (Value.int .i64) (Value.int .i64) gm1 es] ∧ i ≤ (pcsL d).length ∧ es = pmapN (pcsL d) i) rfl ?_ ?_
 ·intro ax_ hax_
  refine ⟨_, ⟨0, [], rfl, hax_.sub ⟨rfl, rfl, rfl, rfl, rfl, rfl, trivial⟩, S2.pick [0] [_] (by decide) ⟨rfl, trivial⟩, ?hq1f0, ?hq1f1⟩⟩
  case hq1f0 => omega
  case hq1f1 => rfl
 ·rintro m2 a1 w3 ⟨i, es, rfl, he1, S3, hi, hes⟩
  clear S2
  refine ws_in he1 (c := Planar_n12) rfl ?_
  clear he1 a1
  have hpl := pcsN_many d d.crs.length
  replace hpl : (pcsL d).length ≤ d.crs.length := hpl
  refine ws_seqN Planar_n13 Planar_n14 rfl rfl rfl (ws_region rfl (wlo 0 1 rfl rfl rfl (wo_run rfl rfl (run_lss rfl rfl rfl) (wl_end rfl (nm_thn ?_)))))
  refine ws_seqN Planar_n15 Planar_n16 rfl rfl rfl ?_
  refine ws_condN Planar_n17 Planar_n18 rfl rfl rfl rfl (fun hb20 => ?_) (fun hb20 => ?_)
  ·replace hb20 := of_decide_eq_true hb20
   refine ws_skip rfl (nmk [0, 3, 4, 17, 18, 19] rfl (nm_thn (ws_seqN Planar_n19 Planar_n20 rfl rfl rfl (ws_blockN Planar_n21 1 rfl rfl rfl ?_))))
   refine ws_seqN Planar_n22 Planar_n23 rfl rfl rfl (ws_region rfl (wlm 0 1 rfl rfl rfl rfl rfl rfl rfl (wlo 1 2 rfl rfl rfl (wo_run rfl rfl (run_indexM (C := (cdV 25)) i rfl rfl rfl sl30 (by first | rfl | omega) hr1 (by first | omega | (simp only [lens]; omega))) ?_))))
   obtain ⟨hn1, hr2⟩ := hd1.2 i (by first | omega | (simp only [lens]; omega))
   have rmhr2 : (ga (pcsL d) i).length * 8 ≤ 140737488355328 := hr2.room
   refine wlo 2 3 rfl rfl rfl (wo_run rfl rfl (run_load1 rfl rfl Try.underlying25 rfl (hr1.cell S3.m (i := i) (by first | omega | (simp only [lens]; omega)) 0 rfl (congrArg (fun n => some (Value.slice _ n _)) hn1))) ?_)
   refine wla 3 4 rfl rfl rfl rfl rfl rfl rfl (wla 4 5 rfl rfl rfl rfl rfl rfl rfl (wl_end rfl (nmk [0, 3, 4, 17, 18, 19, 5, 6] rfl (nm_thn ?_))))
   refine ws_seqN Planar_n24 Planar_n25 rfl rfl rfl (ws_region rfl (wlm 0 1 rfl rfl rfl rfl rfl rfl rfl (wlo 1 2 rfl rfl rfl (wo_run rfl rfl (run_len rfl rfl rfl rfl rfl rfl Try.underlying25) (wlm 2 3 rfl rfl rfl rfl rfl rfl rfl ?_)))))
   refine wl_end rfl (nmk [0, 3, 4, 17, 18, 19, 5, 24, 25, 26] rfl (nm_thn (ws_blockN Planar_n26 2 rfl rfl rfl ?_)))
   refine ws_loopE (fun mx_ ax_ wx_ => ∃ (k : Nat) (es2 : List (Int × Int)), mx_ = (ga (pcsL d) i).length - k ∧ Env 75 [(0, .pointer (some ⟨gsh, 0, none⟩)), (3, .map (some gm1)), (4, .slice A1 vs1.length c1), (17, .slice A1 vs1.length c1), (18, .int .i64 (vs1.length : Int)), (19, .int .i64 (i : Int)), (5, .int .i64 (i : Int)), (24, .slice ((ga vs1 i).A) (ga (pcsL d) i).length ((ga vs1 i).c)), (25, .int .i64 ((ga (pcsL d) i).length : Int)), (26, .int .i64 (k : Int))] ax_ ∧ SH wx_ M1 X [Rs.mp (Value.int .i64) (Value.int .i64) gm1 es2] ∧ k ≤ (ga (pcsL d) i).length ∧ es2 = putP i (ga (pcsL d) i) es k) rfl ?_ ?_
   ·intro ax_ hax_
    refine ⟨_, ⟨0, es, rfl, hax_.sub ⟨rfl, rfl, rfl, rfl, rfl, rfl, rfl, rfl, rfl, rfl, trivial⟩, S3.pick [0] [_] (by decide) ⟨rfl, trivial⟩, ?hq2f0, ?hq2f1⟩⟩
    case hq2f0 => omega
    case hq2f1 => rfl
   ·rintro m3 a2 w4 ⟨k, es2, rfl, he2, S4, hk, hes2⟩
    clear S3
    refine ws_in he2 (c := Planar_n27) rfl ?_
    clear he2 a2
    have hpb := pcsL_bd hab (i := i) (by omega)
    refine ws_seqN Planar_n28 Planar_n29 rfl rfl rfl (ws_region rfl (wlo 0 1 rfl rfl rfl (wo_run rfl rfl (run_lss rfl rfl rfl) (wl_end rfl (nm_thn ?_)))))
    refine ws_seqN Planar_n30 Planar_n31 rfl rfl rfl ?_
    refine ws_condN Planar_n32 Planar_n33 rfl rfl rfl rfl (fun hb27 => ?_) (fun hb27 => ?_)
    ·replace hb27 := of_decide_eq_true hb27
     refine ws_skip rfl (nmk [0, 3, 4, 17, 18, 19, 5, 24, 25, 26] rfl (nm_thn (ws_seqN Planar_n34 Planar_n35 rfl rfl rfl (ws_blockN Planar_n36 3 rfl rfl rfl ?_))))
     refine ws_seqN Planar_n37 Planar_n38 rfl rfl rfl (ws_region rfl (wlo 0 1 rfl rfl rfl (wo_run rfl rfl (run_indexM (C := cdInt) k rfl rfl rfl sl25 (by first | rfl | omega) hr2 (by first | omega | (simp only [lens]; omega))) ?_)))
     refine wlo 1 2 rfl rfl rfl (wo_run rfl rfl (run_load1 rfl rfl Try.underlying3 rfl (hr2.cell S4.m (i := k) (by first | omega | (simp only [lens]; omega)) 0 rfl rfl)) ?_)
     refine wla 2 3 rfl rfl rfl rfl rfl rfl rfl (wl_end rfl (nmk [0, 3, 4, 17, 18, 19, 5, 24, 25, 26, 8] rfl (nm_thn (ws_region rfl ?_))))
     refine wlm 0 1 rfl rfl rfl rfl rfl rfl rfl (wlm 1 2 rfl rfl rfl rfl rfl rfl rfl (wlm 2 3 rfl rfl rfl rfl rfl rfl rfl (wlo 3 4 rfl rfl rfl (wo_mapUpdate (kc := Value.int .i64) (vc := Value.int .i64) (es := es2) (k := (ga (ga (pcsL d) i) k)) (e := (i : Int)) (i := 0) (H' := [_]) (.inl rfl) rfl S4 rfl rfl rfl rfl Try.underlying90 mk3 rfl ?_))))
     intro w5 S5; clear S4
     refine wl_end rfl (nm_blk (nmk [0, 3, 4, 17, 18, 19, 5, 24, 25, 26] rfl (nm_thn (ws_region rfl ?_))))
     refine wlo 0 1 rfl rfl rfl (wo_run rfl rfl (run_add rfl rfl rfl (by first | omega | (simp only [lens]; omega))) ?_)
     refine wlm 1 2 rfl rfl rfl rfl rfl rfl rfl (wl_end rfl (nm_lp ?_))
     intro ax_ hax_
     refine ⟨_, ?hq3m, ⟨k + 1, _, rfl, hax_.sub ⟨rfl, rfl, rfl, rfl, rfl, rfl, rfl, rfl, rfl, rfl, trivial⟩, S5.pick [0] [_] (by decide) ⟨rfl, trivial⟩, ?hq3f0, ?hq3f1⟩⟩
     case hq3f0 => omega
     case hq3f1 => (rw [hes2]; rfl)
     case hq3m => omega
    ·replace hb27 := of_decide_eq_false hb27
     refine ws_exit rfl rfl (nm_blk (nmk [0, 3, 4, 17, 18, 19] rfl (nm_thn (ws_region rfl ?_))))
     refine wlo 0 1 rfl rfl rfl (wo_run rfl rfl (run_add rfl rfl rfl (by first | omega | (simp only [lens]; omega))) ?_)
     refine wlm 1 2 rfl rfl rfl rfl rfl rfl rfl (wl_end rfl (nm_lp ?_))
     intro ax_ hax_
     refine ⟨_, ?hq4m, ⟨i + 1, _, rfl, hax_.sub ⟨rfl, rfl, rfl, rfl, rfl, rfl, trivial⟩, S4.pick [0] [_] (by decide) ⟨rfl, trivial⟩, ?hq4f0, ?hq4f1⟩⟩
     case hq4f0 => omega
     case hq4f1 => (obtain rfl : k = (ga (pcsL d) i).length := (by omega); rw [hes2, hes]; rfl)
     case hq4m => omega
  ·replace hb20 := of_decide_eq_false hb20
   have hesd : es = pmap d := by rw [hes, show i = (pcsL d).length by omega]; rfl
   have hpl0 := pcsN_many d d.crs.length
   replace hpl0 : (pcsL d).length ≤ d.crs.length := hpl0
   refine ws_exit rfl rfl (nmk [0, 3, 4] rfl (nm_thn (ws_seqN Planar_n39 Planar_n40 rfl rfl rfl (ws_region rfl ?_))))
   refine wlm 0 1 rfl rfl rfl rfl rfl rfl rfl (wlo 1 2 rfl rfl rfl (wo_run rfl rfl (run_len rfl rfl rfl rfl rfl rfl Try.underlying30) (wlo 2 3 rfl rfl rfl (wo_make (C := cdInt) vs1.length rfl rfl rfl rfl rfl sl25 (by first | rfl | omega) (by show _ * 8 ≤ _; first | omega | (simp only [lens]; omega)) S3 ?_))))
   intro vr1 w6 S6; clear S3
   refine wla 3 4 rfl rfl rfl rfl rfl rfl rfl (wl_end rfl (nmk [0, 3, 4, 9] rfl (nm_thn (ws_seqN Planar_n41 Planar_n42 rfl rfl rfl ?_))))
   refine ws_seqN Planar_n43 Planar_n44 rfl rfl rfl (ws_region rfl (wlm 0 1 rfl rfl rfl rfl rfl rfl rfl (wlo 1 2 rfl rfl rfl (wo_ct rfl rfl rfl rfl rfl rfl rfl cf20 S6 (InF.Faces_t d hsb hsc hsi hso hn hab S6.lend) ?_))))
   intro vw7 w7 M2 hle4 S7 hRw7; clear S6
   replace hsb := hsb.mono hle4
   replace hsc := hsc.mono hle4
   replace hsi := hsi.mono hle4
   replace hso := hso.mono hle4
   replace hr1 := hr1.mono hle4
   replace hd1 := hd1.mono hle4
   obtain ⟨A2, c2, vs2, rfl, hr3, hd2⟩ := hRw7
   have hlenfacesL := hd2.1
   refine wlo 2 3 rfl rfl rfl (wo_run rfl rfl (run_len rfl rfl rfl rfl rfl rfl Try.underlying49) (wlm 3 4 rfl rfl rfl rfl rfl rfl rfl (wl_end rfl (nmk [0, 3, 4, 9, 39, 40, 41] rfl (nm_thn ?_)))))
   refine ws_blockN Planar_n45 4 rfl rfl rfl ?_
   refine ws_loopE (fun mx_ ax_ wx_ => ∃ (k : Nat) (fs : List Int) (vrf : Value), mx_ = (facesL d).length - k ∧ Env 75 [(0, .pointer (some ⟨gsh, 0, none⟩)), (3, .map (some gm1)), (4, .slice A1 vs1.length c1), (9, vrf), (39, .slice A2 vs2.length c2), (40, .int .i64 (vs2.length : Int)), (41, .int .i64 (k : Int))] ax_ ∧ SH wx_ M2 X [Rs.row cdInt vrf fs, Rs.mp (Value.int .i64) (Value.int .i64) gm1 es] ∧ k ≤ (facesL d).length ∧ fs = fcN d k) rfl ?_ ?_
   ·intro ax_ hax_
    refine ⟨_, ⟨0, _, _, rfl, hax_.sub ⟨rfl, rfl, rfl, rfl, rfl, rfl, rfl, trivial⟩, S7.pick [0, 1] [_, _] (by decide) ⟨rfl, rfl, trivial⟩, ?hq5f0, ?hq5f1⟩⟩
    case hq5f0 => omega
    case hq5f1 => (rw [hlenpcsL]; rfl)
   ·rintro m4 a3 w8 ⟨k, fs, vrf, rfl, he3, S8, hk, hfs⟩
    clear S7
    refine ws_in he3 (c := Planar_n46) rfl ?_
    clear he3 a3
    have hfm := facesL_many d
    have hfl2 : fs.length = (pcsL d).length := by rw [hfs, fcN_len]
    refine ws_seqN Planar_n47 Planar_n48 rfl rfl rfl (ws_region rfl (wlo 0 1 rfl rfl rfl (wo_run rfl rfl (run_lss rfl rfl rfl) (wl_end rfl (nm_thn ?_)))))
    refine ws_seqN Planar_n49 Planar_n50 rfl rfl rfl ?_
    refine ws_condN Planar_n51 Planar_n52 rfl rfl rfl rfl (fun hb42 => ?_) (fun hb42 => ?_)
    ·replace hb42 := of_decide_eq_true hb42
     obtain ⟨hh0, hok⟩ := hd0_ok (d := d) (k := k) (by omega)
     have hfc := fcC_lt hab (k := k) (by omega)
     have hpi := pcI_lt hab hfc
     obtain ⟨hpi1, hpi2, hpi3⟩ := hpi
     rw [← hesd] at hpi3
     have hfb := fcN_bd d k (pcI d (fcC d k))
     rw [← hfs] at hfb
     refine ws_skip rfl (nmk [0, 3, 4, 9, 39, 40, 41] rfl (nm_thn (ws_seqN Planar_n53 Planar_n54 rfl rfl rfl (ws_blockN Planar_n55 5 rfl rfl rfl ?_))))
     refine ws_seqN Planar_n56 Planar_n57 rfl rfl rfl (ws_region rfl (wlo 0 1 rfl rfl rfl (wo_run rfl rfl (run_indexM (C := (cdV 63)) k rfl rfl rfl sl49 (by first | rfl | omega) hr3 (by first | omega | (simp only [lens]; omega))) ?_)))
     obtain ⟨hn2, hr4⟩ := hd2.2 k (by first | omega | (simp only [lens]; omega))
     have rmhr4 : (ga (facesL d) k).length * 16 ≤ 140737488355328 := hr4.room
     refine wlo 1 2 rfl rfl rfl (wo_run rfl rfl (run_load1 rfl rfl Try.underlying63 rfl (hr3.cell S8.m (i := k) (by first | omega | (simp only [lens]; omega)) 0 rfl (congrArg (fun n => some (Value.slice _ n _)) hn2))) ?_)
     refine wla 2 3 rfl rfl rfl rfl rfl rfl rfl (wl_end rfl (nmk [0, 3, 4, 9, 39, 40, 41, 11] rfl (nm_thn (ws_region rfl ?_))))
     refine wlm 0 1 rfl rfl rfl rfl rfl rfl rfl (wlm 1 2 rfl rfl rfl rfl rfl rfl rfl (wlm 2 3 rfl rfl rfl rfl rfl rfl rfl (wlm 3 4 rfl rfl rfl rfl rfl rfl rfl (wlo 4 5 rfl rfl rfl (wo_run rfl rfl (run_indexM (C := cdDa) 0 rfl rfl rfl sl63 (by first | rfl | omega) hr4 (by first | omega | (simp only [lens]; omega))) ?_)))))
     refine wlo 5 6 rfl rfl rfl (wo_run rfl rfl (run_loadN (us := [_, _]) rfl rfl Try.underlying65 rfl sz65 (hr4.cellsAt S8.m (e := 0) (by first | omega | (simp only [lens]; omega)) (j := 0) ⟨rfl, rfl, trivial⟩)) ?_)
     refine wlo 6 7 rfl rfl rfl (wo_cq rfl rfl rfl rfl rfl rfl rfl cf41 S8 (Head_q d (ga (ga (facesL d) k) 0) (hsb.mono (Hp.le_un _ _)) (hsc.mono (Hp.le_un _ _)) (hsi.mono (Hp.le_un _ _)) (hso.mono (Hp.le_un _ _)) (by first | assumption | omega) hab (by first | assumption | omega) S8.lend) ?_)
     rintro _ w9 S9 rfl; clear S8
     refine wlo 7 8 rfl rfl rfl (wo_run rfl rfl (run_field0 rfl rfl Try.underlying79 rfl Try.underlying3 rfl rfl) (wlo 8 9 rfl rfl rfl (wo_run rfl rfl (run_lookup (kc := Value.int .i64) (vc := Value.int .i64) (es := es) (k := ((endOf d (ga (ga (facesL d) k) 0).a (ga (ga (facesL d) k) 0).b).1 : Int)) (zv := 0) (i := 1) rfl rfl rfl Try.underlying90 mk3 zr3 S9 rfl) (wl_eq 53 (.int .i64 (pcI d (fcC d k) : Int)) rfl (int_eq hpi3) (wlo 9 10 rfl rfl rfl (wo_run rfl rfl (run_indexR (C := cdInt) (i := 0) (pcI d (fcC d k)) rfl rfl rfl sl25 S9 rfl (by first | rfl | omega) (by first | omega | (simp only [lens]; omega))) ?_))))))
     refine wlo 10 11 rfl rfl rfl (wo_run rfl rfl (run_load1 rfl rfl Try.underlying3 rfl (S9.rowc (i := 0) (e := pcI d (fcC d k)) (j := 0) rfl (by first | omega | (simp only [lens]; omega)) rfl rfl)) ?_)
     refine wlo 11 12 rfl rfl rfl (wo_run rfl rfl (run_add rfl rfl rfl (by first | omega | (simp only [lens]; omega))) ?_)
     refine wlo 12 13 rfl rfl rfl (wo_run rfl rfl (run_indexR (C := cdInt) (i := 0) (pcI d (fcC d k)) rfl rfl rfl sl25 S9 rfl (by first | rfl | omega) (by first | omega | (simp only [lens]; omega))) ?_)
     refine wlo 13 14 rfl rfl rfl (wo_storeR (C := cdInt) (i := 0) (e := pcI d (fcC d k)) (j := 0) (us := [_]) (H' := [_, _]) ((ga fs (pcI d (fcC d k))) + 1) rfl rfl S9 rfl (by first | omega | (simp only [lens]; omega)) rfl rfl rfl sz3 rfl rfl rfl rfl ?_)
     intro w10 S10; clear S9
     refine wl_end rfl (nm_blk (nmk [0, 3, 4, 9, 39, 40, 41] rfl (nm_thn (ws_region rfl ?_))))
     refine wlo 0 1 rfl rfl rfl (wo_run rfl rfl (run_add rfl rfl rfl (by first | omega | (simp only [lens]; omega))) ?_)
     refine wlm 1 2 rfl rfl rfl rfl rfl rfl rfl (wl_end rfl (nm_lp ?_))
     intro ax_ hax_
     refine ⟨_, ?hq6m, ⟨k + 1, _, _, rfl, hax_.sub ⟨rfl, rfl, rfl, rfl, rfl, rfl, rfl, trivial⟩, S10.pick [0, 1] [_, _] (by decide) ⟨rfl, rfl, trivial⟩, ?hq6f0, ?hq6f1⟩⟩
     case hq6f0 => omega
     case hq6f1 => (rw [hfs]; rfl)
     case hq6m => omega
    ·replace hb42 := of_decide_eq_false hb42
     have hfs3 : fs = fcN d (facesL d).length := by rw [hfs, show k = (facesL d).length by omega]
     refine ws_exit rfl rfl (nmk [4, 9] rfl (nm_thn (ws_seqN Planar_n58 Planar_n59 rfl rfl rfl (ws_seqN Planar_n60 Planar_n61 rfl rfl rfl ?_))))
     refine ws_region rfl (wlm 0 1 rfl rfl rfl rfl rfl rfl rfl (wlo 1 2 rfl rfl rfl (wo_run rfl rfl (run_len rfl rfl rfl rfl rfl rfl Try.underlying30) (wlm 2 3 rfl rfl rfl rfl rfl rfl rfl (wl_end rfl ?_)))))
     refine nmk [9, 59, 60, 61] rfl (nm_thn (ws_blockN Planar_n62 6 rfl rfl rfl ?_))
     refine ws_loopE (fun mx_ ax_ wx_ => ∃ (j : Nat), mx_ = (pcsL d).length - j ∧ Env 75 [(9, vrf), (59, .slice A1 vs1.length c1), (60, .int .i64 (vs1.length : Int)), (61, .int .i64 (j : Int))] ax_ ∧ SH wx_ M2 X [Rs.row cdInt vrf fs] ∧ j ≤ (pcsL d).length ∧ (∀ q, q < j → ga fs q = ((ga (pcsL d) q).length : Int) + 2)) rfl ?_ ?_
     ·intro ax_ hax_
      refine ⟨_, ⟨0, rfl, hax_.sub ⟨rfl, rfl, rfl, rfl, trivial⟩, S8.pick [0] [_] (by decide) ⟨rfl, trivial⟩, ?hq7f0, ?hq7f1⟩⟩
      case hq7f0 => omega
      case hq7f1 => (intro q hq; omega)
     ·rintro m5 a4 w11 ⟨j, rfl, he4, S11, hj, hall⟩
      clear S8
      refine ws_in he4 (c := Planar_n63) rfl ?_
      clear he4 a4
      have hpl := pcsN_many d d.crs.length
      replace hpl : (pcsL d).length ≤ d.crs.length := hpl
      have hfl2 : fs.length = (pcsL d).length := by rw [hfs3, fcN_len]
      refine ws_seqN Planar_n64 Planar_n65 rfl rfl rfl (ws_region rfl (wlo 0 1 rfl rfl rfl (wo_run rfl rfl (run_lss rfl rfl rfl) (wl_end rfl (nm_thn ?_)))))
      refine ws_seqN Planar_n66 Planar_n67 rfl rfl rfl ?_
      refine ws_condN Planar_n68 Planar_n69 rfl rfl rfl rfl (fun hb62 => ?_) (fun hb62 => ?_)
      ·replace hb62 := of_decide_eq_true hb62
       have hpb := pcsL_bd hab (i := j) (by omega)
       refine ws_skip rfl (nmk [9, 59, 60, 61] rfl (nm_thn (ws_seqN Planar_n70 Planar_n71 rfl rfl rfl (ws_blockN Planar_n72 7 rfl rfl rfl ?_))))
       refine ws_seqN Planar_n73 Planar_n74 rfl rfl rfl (ws_region rfl (wlm 0 1 rfl rfl rfl rfl rfl rfl rfl (wlo 1 2 rfl rfl rfl (wo_run rfl rfl (run_indexM (C := (cdV 25)) j rfl rfl rfl sl30 (by first | rfl | omega) hr1 (by first | omega | (simp only [lens]; omega))) ?_))))
       obtain ⟨hn3, hr5⟩ := hd1.2 j (by first | omega | (simp only [lens]; omega))
       have rmhr5 : (ga (pcsL d) j).length * 8 ≤ 140737488355328 := hr5.room
       refine wlo 2 3 rfl rfl rfl (wo_run rfl rfl (run_load1 rfl rfl Try.underlying25 rfl (hr1.cell S11.m (i := j) (by first | omega | (simp only [lens]; omega)) 0 rfl (congrArg (fun n => some (Value.slice _ n _)) hn3))) ?_)
       refine wla 3 4 rfl rfl rfl rfl rfl rfl rfl (wla 4 5 rfl rfl rfl rfl rfl rfl rfl (wl_end rfl (nmk [9, 59, 60, 61, 12, 13] rfl (nm_thn ?_))))
       refine ws_seqN Planar_n75 Planar_n76 rfl rfl rfl (ws_region rfl (wlm 0 1 rfl rfl rfl rfl rfl rfl rfl (wlm 1 2 rfl rfl rfl rfl rfl rfl rfl (wlo 2 3 rfl rfl rfl (wo_run rfl rfl (run_indexR (C := cdInt) (i := 0) j rfl rfl rfl sl25 S11 rfl (by first | rfl | omega) (by first | omega | (simp only [lens]; omega))) ?_)))))
       refine wlo 3 4 rfl rfl rfl (wo_run rfl rfl (run_load1 rfl rfl Try.underlying3 rfl (S11.rowc (i := 0) (e := j) (j := 0) rfl (by first | omega | (simp only [lens]; omega)) rfl rfl)) ?_)
       refine wlm 4 5 rfl rfl rfl rfl rfl rfl rfl (wlo 5 6 rfl rfl rfl (wo_run rfl rfl (run_len rfl rfl rfl rfl rfl rfl Try.underlying25) (wlo 6 7 rfl rfl rfl (wo_run rfl rfl (run_add rfl rfl rfl (by first | omega | (simp only [lens]; omega))) ?_))))
       refine wlo 7 8 rfl rfl rfl (wo_run rfl rfl (run_neq rfl rfl rfl) (wl_end rfl (nmk [9, 59, 60, 61, 73] rfl (nm_thn ?_))))
       refine ws_condN Planar_n77 Planar_n78 rfl rfl rfl rfl (fun hb73 => ?_) (fun hb73 => ?_)
       ·replace hb73 := of_decide_eq_true hb73
        refine ws_seqN Planar_n79 Planar_n80 rfl rfl rfl (ws_region rfl (wla 0 1 rfl rfl rfl rfl rfl rfl rfl (wl_end rfl (nmk [2] rfl ?_))))
        refine nm_thn (ws_ret hC [_] rfl rfl ⟨rfl, trivial⟩ ?_)
        refine ⟨_, rfl, _, hle1.trans hle4, (S11.pick [] [] (by decide) trivial), ?_⟩
        refine congrArg Value.bool (planP_f (i := j) (by omega) ?_).symm
        rw [← hfs3]; omega
       ·replace hb73 := of_decide_eq_false hb73
        refine ws_skip rfl (nm_blk (nmk [9, 59, 60, 61] rfl (nm_thn (ws_region rfl ?_))))
        refine wlo 0 1 rfl rfl rfl (wo_run rfl rfl (run_add rfl rfl rfl (by first | omega | (simp only [lens]; omega))) ?_)
        refine wlm 1 2 rfl rfl rfl rfl rfl rfl rfl (wl_end rfl (nm_lp ?_))
        intro ax_ hax_
        refine ⟨_, ?hq8m, ⟨j + 1, rfl, hax_.sub ⟨rfl, rfl, rfl, rfl, trivial⟩, S11.pick [0] [_] (by decide) ⟨rfl, trivial⟩, ?hq8f0, ?hq8f1⟩⟩
        case hq8f0 => omega
        case hq8f1 => (intro q hq; by_cases h : q = j; (subst h; omega); exact hall q (by omega))
        case hq8m => omega
      ·replace hb62 := of_decide_eq_false hb62
       refine ws_exit rfl rfl (nm_sub [] trivial (nm_thn (ws_seqN Planar_n81 Planar_n82 rfl rfl rfl (ws_region rfl ?_))))
       refine wla 0 1 rfl rfl rfl rfl rfl rfl rfl (wl_end rfl (nm_thn (ws_ret hC [_] rfl rfl ⟨rfl, trivial⟩ ?_)))
       refine ⟨_, rfl, _, hle1.trans hle4, (S11.pick [] [] (by decide) trivial), ?_⟩
       exact congrArg Value.bool (planP_t (d := d) (fun q hq => by rw [← hfs3]; exact hall q (by omega))).symm
end Go.Proofs.Ythppkofceancjaa
namespace Go.Proofs.Ythppkofceancjaa
open Go.ChangeShapes Go.WideShapes Go.ChangeAt Go.RowKit
def roundG (e1 e2 : Nat → Nat) (ws : List Int) : Nat → List Int
 | 0 => ws
 | k + 1 => stepW (roundG e1 e2 ws k) (e1 k) (e2 k)
def cn (P : Nat → Bool) : Nat → Nat
 | 0 => 0
 | k + 1 => cn P k + (if P k = true then 1 else 0)
theorem cn_le (P : Nat → Bool) (k : Nat) : cn P k ≤ k := by
 induction k with
 | zero => exact Nat.le_refl _
 | succ k ih => rw [cn]; split <;> omega
theorem cn_mono {P Q : Nat → Bool} (k : Nat) (h : ∀ x, x < k → P x = true → Q x = true) : cn P k ≤ cn Q k := by
 induction k with
 | zero => exact Nat.le_refl _
 | succ k ih =>
  have := ih (fun x hx => h x (by omega))
  rw [cn, cn]
  by_cases hp : P k = true
  ·rw [if_pos hp, if_pos (h k (by omega) hp)]; omega
  ·rw [if_neg hp]; omega
theorem cn_lt {P Q : Nat → Bool} (k : Nat) (h : ∀ x, x < k → P x = true → Q x = true) {x : Nat} (hx : x < k) (hq : Q x = true) (hp : P x = false) : cn P k < cn Q k := by
 induction k with
 | zero => omega
 | succ k ih =>
  rw [cn, cn]
  by_cases e : x = k
  ·subst e
   have := cn_mono x (P := P) (Q := Q) (fun y hy => h y (by omega))
   rw [if_pos hq, if_neg (by rw [hp]; exact Bool.false_ne_true)]; omega
  ·have := ih (fun y hy => h y (by omega)) (by omega)
   by_cases hp' : P k = true
   ·rw [if_pos hp', if_pos (h k (by omega) hp')]; omega
   ·rw [if_neg hp']; omega
theorem cn_all {P : Nat → Bool} (k : Nat) (h : k ≤ cn P k) : ∀ x, x < k → P x = true := by
 induction k with
 | zero => intro x hx; omega
 | succ k ih =>
  rw [cn] at h
  have hl := cn_le P k
  by_cases hp : P k = true
  ·intro x hx
   by_cases e : x = k
   ·subst e; exact hp
   ·rw [if_pos hp] at h; exact ih (by omega) x (by omega)
  ·rw [if_neg hp] at h; omega
theorem least {P : Nat → Prop} (y : Nat) (h : P y) : ∃ z, P z ∧ ∀ u, P u → z ≤ u := by
 induction y using Nat.strongRecOn with
 | _ y ih =>
  by_cases hs : ∃ u, u < y ∧ P u
  ·obtain ⟨u, hu, hp⟩ := hs
   exact ih u hu hp
  ·exact ⟨y, h, fun u hu => by
    rcases Nat.lt_or_ge u y with h1 | h1
    ·exact absurd ⟨u, h1, hu⟩ hs
    ·exact h1⟩
/-- Labels lie in their class; m is the least of each class. -/
def LabOk (N : Nat) (cl : Nat → Nat) (ws : List Int) : Prop := ws.length = N ∧ ∀ x, x < N → ∃ z : Nat, z < N ∧ ga ws x = (z : Int) ∧ cl z = cl x
theorem stepW_ok {N : Nat} {cl : Nat → Nat} {ws : List Int} (h : LabOk N cl ws) {x y : Nat} (hx : x < N) (hy : y < N) (hc : cl x = cl y) : LabOk N cl (stepW ws x y) := by
 refine ⟨by rw [stepW_len]; exact h.1, fun z hz => ?_⟩
 have hl := h.1
 unfold stepW
 split
 ·rw [ga_set _ _ _ _ (by omega)]
  split
  ·rename_i e; subst e
   obtain ⟨u, h1, h2, h3⟩ := h.2 x hx
   exact ⟨u, h1, h2, h3.trans hc⟩
  ·exact h.2 z hz
 ·rw [ga_set _ _ _ _ (by omega)]
  split
  ·rename_i e; subst e
   obtain ⟨u, h1, h2, h3⟩ := h.2 y hy
   exact ⟨u, h1, h2, h3.trans hc.symm⟩
  ·exact h.2 z hz
/-- What a step does to those that have the least label. -/
theorem stepW_good {N : Nat} {cl : Nat → Nat} {m : Nat → Nat} (hm : ∀ x, x < N → ∀ y, y < N → cl y = cl x → m x ≤ y) (hmc : ∀ x y, x < N → y < N → cl x = cl y → m x = m y) {ws : List Int} (h : LabOk N cl ws) {x y : Nat} (hx : x < N) (hy : y < N) (hc : cl x = cl y) :
  (∀ z, z < N → ga ws z = (m z : Int) → ga (stepW ws x y) z = (m z : Int)) ∧ (ga ws x = (m x : Int) ∨ ga ws y = (m y : Int) → ga (stepW ws x y) x = (m x : Int) ∧ ga (stepW ws x y) y = (m y : Int)) := by
 have hl := h.1
 have hmm := hmc x y hx hy hc
 obtain ⟨u, u1, u2, u3⟩ := h.2 x hx
 obtain ⟨v, v1, v2, v3⟩ := h.2 y hy
 have b1 := hm x hx u u1 u3
 have b2 := hm y hy v v1 v3
 unfold stepW
 by_cases hlt : ga ws x < ga ws y
 ·rw [if_pos hlt]
  simp only [ga_set _ _ _ _ (show y < ws.length by omega)]
  refine ⟨fun z hz hg => ?_, fun hg => ?_⟩
  ·split
   ·rename_i e; subst e; omega
   ·exact hg
  ·simp only [if_true, ite_self]
   have e0 : ga ws x = (m x : Int) := by rcases hg with hg | hg <;> omega
   omega
 ·rw [if_neg hlt]
  simp only [ga_set _ _ _ _ (show x < ws.length by omega)]
  refine ⟨fun z hz hg => ?_, fun hg => ?_⟩
  ·split
   ·rename_i e; subst e; omega
   ·exact hg
  ·simp only [if_true, ite_self]
   have e0 : ga ws y = (m y : Int) := by rcases hg with hg | hg <;> omega
   omega
theorem labels {N K : Nat} (e1 e2 : Nat → Nat) (he : ∀ k, k < K → e1 k < N ∧ e2 k < N) (cl : Nat → Nat) (hin : ∀ k, k < K → cl (e1 k) = cl (e2 k))
  (hcon : ∀ Z : Nat → Prop, (∀ k, k < K → (Z (e1 k) ↔ Z (e2 k))) → ∀ x y, x < N → y < N → cl x = cl y → Z x → Z y)
  (ws : Nat → List Int) (hlen : (ws 0).length = N) (h0 : ∀ x : Nat, x < N → ga (ws 0) x = (x : Int)) (hs : ∀ j, ws (j + 1) = roundG e1 e2 (ws j) K) :
  ∀ x, x < N → ∃ z : Nat, z < N ∧ ga (ws N) x = (z : Int) ∧ cl z = cl x ∧ ∀ y, y < N → cl y = cl x → z ≤ y := by
 have hex : ∀ x : Nat, ∃ z : Nat, x < N → (z < N ∧ cl z = cl x) ∧ ∀ u, u < N ∧ cl u = cl x → z ≤ u := fun x => by
  by_cases hx : x < N
  ·obtain ⟨z, h1, h2⟩ := least (P := fun z => z < N ∧ cl z = cl x) x ⟨hx, rfl⟩
   exact ⟨z, fun _ => ⟨h1, h2⟩⟩
  ·exact ⟨0, fun h => absurd h hx⟩
 obtain ⟨m, hm0⟩ := Classical.axiomOfChoice hex
 have hm : ∀ x, x < N → ∀ y, y < N → cl y = cl x → m x ≤ y := fun x hx y hy e => (hm0 x hx).2 y ⟨hy, e⟩
 have hmc : ∀ x y, x < N → y < N → cl x = cl y → m x = m y := fun x y hx hy e => by
  have h1 := hm0 x hx
  have h2 := hm0 y hy
  have := h1.2 (m y) ⟨h2.1.1, h2.1.2.trans e.symm⟩
  have := h2.2 (m x) ⟨h1.1.1, h1.1.2.trans e⟩
  omega
 have hround : ∀ w, LabOk N cl w → ∀ k, k ≤ K → LabOk N cl (roundG e1 e2 w k) ∧ (∀ z, z < N → ga w z = (m z : Int) → ga (roundG e1 e2 w k) z = (m z : Int)) ∧
   ∀ j, j < k → (ga w (e1 j) = (m (e1 j) : Int) ∨ ga w (e2 j) = (m (e2 j) : Int)) → ga (roundG e1 e2 w k) (e1 j) = (m (e1 j) : Int) ∧ ga (roundG e1 e2 w k) (e2 j) = (m (e2 j) : Int) := fun w hw k => by
  induction k with
  | zero => exact fun _ => ⟨hw, fun z _ h => h, fun j hj => by omega⟩
  | succ k ih =>
   intro hk
   obtain ⟨a1, a2, a3⟩ := ih (by omega)
   obtain ⟨p1, p2⟩ := he k (by omega)
   have hc := hin k (by omega)
   obtain ⟨g1, g2⟩ := stepW_good hm hmc a1 p1 p2 hc
   refine ⟨stepW_ok a1 p1 p2 hc, fun z hz h => g1 z hz (a2 z hz h), fun j hj hg => ?_⟩
   obtain ⟨q1, q2⟩ := he j (by omega)
   by_cases e : j = k
   ·subst e
    exact g2 (hg.elim (fun h => .inl (a2 _ q1 h)) (fun h => .inr (a2 _ q2 h)))
   ·obtain ⟨r1, r2⟩ := a3 j (by omega) hg
    exact ⟨g1 _ q1 r1, g1 _ q2 r2⟩
 have hok : ∀ j, LabOk N cl (ws j) := fun j => by
  induction j with
  | zero => exact ⟨hlen, fun x hx => ⟨x, hx, h0 x hx, rfl⟩⟩
  | succ j ih => rw [hs]; exact (hround _ ih K (Nat.le_refl _)).1
 have hpers : ∀ j z, z < N → ga (ws j) z = (m z : Int) → ga (ws (j + 1)) z = (m z : Int) := fun j z hz h => by rw [hs]; exact (hround _ (hok j) K (Nat.le_refl _)).2.1 z hz h
 have hroot : ∀ j x, x < N → ga (ws j) (m x) = (m (m x) : Int) := fun j x hx => by
  have h1 := (hm0 x hx).1
  have e : m (m x) = m x := hmc _ _ h1.1 hx h1.2
  induction j with
  | zero => rw [h0 _ h1.1, e]
  | succ j ih => exact hpers j _ h1.1 ih
 have hgrow : ∀ j, (∀ x, x < N → ga (ws j) x = (m x : Int)) ∨ j ≤ cn (fun x => decide (ga (ws j) x = (m x : Int))) N := fun j => by
  induction j with
  | zero => exact .inr (Nat.zero_le _)
  | succ j ih =>
   rcases ih with ih | ih
   ·exact .inl fun x hx => hpers j x hx (ih x hx)
   ·by_cases hnew : ∃ x, x < N ∧ ga (ws (j + 1)) x = (m x : Int) ∧ ga (ws j) x ≠ (m x : Int)
    ·obtain ⟨x, hx, h1, h2⟩ := hnew
     right
     have := cn_lt (P := fun x => decide (ga (ws j) x = (m x : Int))) (Q := fun x => decide (ga (ws (j + 1)) x = (m x : Int))) N (fun z hz h => decide_eq_true (hpers j z hz (of_decide_eq_true h))) hx (decide_eq_true h1) (decide_eq_false h2)
     omega
    ·left
     have hsame : ∀ x, x < N → ga (ws (j + 1)) x = (m x : Int) → ga (ws j) x = (m x : Int) := fun x hx h => Classical.byContradiction fun h' => hnew ⟨x, hx, h, h'⟩
     have hcl := hcon (fun x => ga (ws j) x = (m x : Int)) (fun k hk => by
      obtain ⟨q1, q2⟩ := he k hk
      have h3 := (hround _ (hok j) K (Nat.le_refl _)).2.2 k hk
      rw [← hs] at h3
      exact ⟨fun h => hsame _ q2 (h3 (.inl h)).2, fun h => hsame _ q1 (h3 (.inr h)).1⟩)
     intro x hx
     have h1 := (hm0 x hx).1
     exact hpers j x hx (hcl (m x) x h1.1 hx h1.2 (hroot j x hx))
 intro x hx
 have hall : ga (ws N) x = (m x : Int) := by
  rcases hgrow N with h | h
  ·exact h x hx
  ·exact of_decide_eq_true (cn_all N h x hx)
 have h1 := hm0 x hx
 exact ⟨m x, h1.1.1, hall, h1.1.2, fun y hy e => h1.2 y ⟨hy, e⟩⟩
end Go.Proofs.Ythppkofceancjaa
namespace Go.Proofs.Ythppkofceancjaa
open Go.ChangeShapes Go.WideShapes Go.ChangeAt Go.RowKit
theorem edge_nb {d : Dg} (h : arcsB d = true) {x s : Nat} (hx : x < d.crs.length) (hs : s < 4) : ∃ k, k < 2 * d.crs.length ∧ ((endC d k false = x ∧ endC d k true = nbC d x s) ∨ (endC d k true = x ∧ endC d k false = nbC d x s)) := by
 have ha := arcAt_bd h hx hs
 have e : (((arcAt d x s).toNat - 1 + 1 : Nat) : Int) = arcAt d x s := by omega
 refine ⟨(arcAt d x s).toNat - 1, by omega, ?_⟩
 unfold endC nbC
 rw [e]
 cases hb : entryB d x s
 ·right
  exact ⟨by rw [endOf_back h hx hs (b := true) hb], rfl⟩
 ·left
  exact ⟨by rw [endOf_back h hx hs (b := false) hb], rfl⟩
theorem nb_edge {d : Dg} (h : arcsB d = true) {k : Nat} (hk : k < 2 * d.crs.length) : ∃ s, s < 4 ∧ nbC d (endC d k false) s = endC d k true := by
 have ha : 1 ≤ ((k + 1 : Nat) : Int) ∧ ((k + 1 : Nat) : Int) ≤ 2 * (d.crs.length : Int) := by omega
 obtain ⟨_, h2, _⟩ := endD h ha false
 obtain ⟨h3, h4⟩ := endOf_there h ha false
 refine ⟨(endOf d ((k + 1 : Nat) : Int) false).2, h2, ?_⟩
 unfold nbC endC
 rw [h3, h4]
 rfl
theorem pcI_nb {d : Dg} (h : arcsB d = true) {x s : Nat} (hx : x < d.crs.length) (hs : s < 4) : pcI d (nbC d x s) = pcI d x := by
 obtain ⟨h1, h2, _⟩ := pcI_lt h hx
 exact (pcI_at h h1 ((pcs h).clo _ h1 _ h2 s hs)).2
theorem iniW_ga (n k : Nat) (hk : k ≤ n) (x : Nat) (hx : x < k) : ga (iniW n k) x = (x : Int) := by
 induction k with
 | zero => omega
 | succ k ih =>
  rw [iniW, ga_set _ _ _ _ (by rw [iniW_len]; omega)]
  split
  ·rename_i e; subst e; rfl
  ·exact ih (by omega) (by omega)
theorem roundG_W (d : Dg) (ws : List Int) (k : Nat) : roundW d ws k = roundG (fun j => endC d j false) (fun j => endC d j true) ws k := by
 induction k with
 | zero => rfl
 | succ k ih => rw [roundW, roundG, ih]
theorem rc_lt {d : Dg} (h : arcsB d = true) {x y : Nat} (hr : Rc d x y) (hx : x < d.crs.length) : y < d.crs.length := by
 induction hr with
 | refl => exact hx
 | step _ hk ih => exact nbC_lt h ih hk
theorem pieces_join {d : Dg} (h : arcsB d = true) (Z : Nat → Prop) (hZ : ∀ x s, x < d.crs.length → s < 4 → (Z x ↔ Z (nbC d x s))) {x y : Nat} (hx : x < d.crs.length) (hy : y < d.crs.length) (e : pcI d x = pcI d y) : Z x → Z y := by
 have hrc : ∀ c z, c < d.crs.length → Rc d c z → (Z c ↔ Z z) := fun c z hc hr => by
  induction hr with
  | refl => exact Iff.rfl
  | step hr' hk ih => exact ih.trans (hZ _ _ (rc_lt h hr' hc) hk)
 obtain ⟨h1, h2, _⟩ := pcI_lt h hx
 obtain ⟨_, h2', _⟩ := pcI_lt h hy
 rw [← e] at h2'
 obtain ⟨_, c0, hc0, _, hel⟩ := (pcs h).el _ h1
 obtain ⟨u, eu, _, ru⟩ := hel _ h2
 obtain ⟨v, ev, _, rv⟩ := hel _ h2'
 obtain rfl : x = u := by omega
 obtain rfl : y = v := by omega
 exact fun hz => (hrc _ _ hc0 rv).1 ((hrc _ _ hc0 ru).2 hz)
/-- Each crossing's label is the least crossing of its piece. -/
theorem whoL_law {d : Dg} (h : arcsB d = true) : ∀ x, x < d.crs.length → ∃ z : Nat, z < d.crs.length ∧ ga (whoL d) x = (z : Int) ∧ pcI d z = pcI d x ∧ ∀ y, y < d.crs.length → pcI d y = pcI d x → z ≤ y :=
 labels (N := d.crs.length) (K := 2 * d.crs.length) (fun j => endC d j false) (fun j => endC d j true) (fun k hk => ⟨endC_lt h hk false, endC_lt h hk true⟩) (pcI d)
  (fun k hk => by
   obtain ⟨s, hs, e⟩ := nb_edge h hk
   rw [← e, pcI_nb h (endC_lt h hk false) hs])
  (fun Z hZ x y hx hy e => pieces_join h Z (fun u s hu hs => by
   obtain ⟨k, hk, hh⟩ := edge_nb h hu hs
   have := hZ k hk
   rcases hh with ⟨h1, h2⟩ | ⟨h1, h2⟩
   ·rw [h1, h2] at this; exact this
   ·rw [h1, h2] at this; exact this.symm) hx hy e)
  (rndsW d) (rndsW_len d 0) (fun x hx => iniW_ga _ _ (Nat.le_refl _) x hx) (fun j => by rw [rndsW, roundG_W])
theorem who_root {d : Dg} (h : arcsB d = true) {x z : Nat} (hx : x < d.crs.length) (hz : ga (whoL d) x = (z : Int)) : z < d.crs.length ∧ pcI d z = pcI d x ∧ ga (whoL d) z = (z : Int) := by
 obtain ⟨u, h1, h2, h3, h4⟩ := whoL_law h x hx
 obtain rfl : z = u := by omega
 obtain ⟨v, g1, g2, g3, g4⟩ := whoL_law h z h1
 have a1 := g4 z h1 rfl
 have a2 := h4 v g1 (g3.trans h3)
 obtain rfl : v = z := by omega
 exact ⟨h1, h3, g2⟩
theorem who_iff {d : Dg} (h : arcsB d = true) {p : Nat} (hp : p < d.crs.length) (hr : ga (whoL d) p = (p : Int)) {x : Nat} (hx : x < d.crs.length) : ga (whoL d) x = (p : Int) ↔ pcI d x = pcI d p := by
 constructor
 ·intro e
  exact (who_root h hx e).2.1.symm
 ·intro e
  obtain ⟨u, h1, h2, h3, h4⟩ := whoL_law h x hx
  obtain ⟨v, g1, g2, g3, g4⟩ := whoL_law h p hp
  obtain rfl : v = p := by omega
  have a1 := h4 v hp e.symm
  have a2 := g4 u h1 (h3.trans e)
  rw [h2]
  omega
theorem cn_congr {P Q : Nat → Bool} (k : Nat) (h : ∀ x, x < k → P x = Q x) : cn P k = cn Q k := by
 induction k with
 | zero => rfl
 | succ k ih => rw [cn, cn, ih (fun x hx => h x (by omega)), h k (by omega)]
theorem cn_filter (P : Nat → Bool) (k : Nat) : cn P k = ((List.range k).filter P).length := by
 induction k with
 | zero => rfl
 | succ k ih =>
  rw [cn, ih, List.range_succ, List.filter_append, List.length_append]
  by_cases hp : P k = true <;> simp [hp]
theorem negW_cn (ws : List Int) (p : Int) (k : Nat) : negW ws p k = -(cn (fun x => decide (ga ws x = p)) k : Int) := by
 induction k with
 | zero => rfl
 | succ k ih =>
  rw [negW, cn, ih]
  by_cases e : ga ws k = p
  ·rw [if_pos e, if_pos (decide_eq_true e)]; omega
  ·rw [if_neg e, if_neg (by simpa using e)]; omega
theorem facW_cn (d : Dg) (ws : List Int) (p m : Int) (k : Nat) : facW d ws p m k = m + (cn (fun x => decide (ga ws (fcC d x) = p)) k : Int) := by
 induction k with
 | zero => rw [facW, cn]; omega
 | succ k ih =>
  rw [facW, cn, ih]
  by_cases e : ga ws (fcC d k) = p
  ·rw [if_pos e, if_pos (decide_eq_true e)]; omega
  ·rw [if_neg e, if_neg (by simpa using e)]; omega
theorem fcN_cn (d : Dg) (i : Nat) (hi : i < (pcsL d).length) (k : Nat) : ga (fcN d k) i = (cn (fun x => decide (pcI d (fcC d x) = i)) k : Int) := by
 induction k with
 | zero => rw [fcN, ga_rep _ _ _ hi]; rfl
 | succ k ih =>
  rw [fcN, cn]
  by_cases e : pcI d (fcC d k) = i
  ·rw [if_pos (decide_eq_true e), e, ga_set _ _ _ _ (by rw [fcN_len]; exact hi), if_pos rfl, ih]; omega
  ·rw [if_neg (by simpa using e), ga_set_ne _ _ _ _ e, ih]; omega
theorem piece_cn {d : Dg} (h : arcsB d = true) {i : Nat} (hi : i < (pcsL d).length) : (ga (pcsL d) i).length = cn (fun x => decide (pcI d x = i)) d.crs.length := by
 rw [cn_filter]
 obtain ⟨h1, c0, _, _, h2⟩ := (pcs h).el i hi
 have hn : ((List.range d.crs.length).filter (fun x => decide (pcI d x = i))).Nodup := List.Nodup.sublist (List.filter_sublist) List.nodup_range
 apply Nat.le_antisymm
 ·have h3 := nodup_le (ys := ((List.range d.crs.length).filter (fun x => decide (pcI d x = i))).map fun x : Nat => (x : Int)) h1 (fun y hy => by
   obtain ⟨z, rfl, hz, _⟩ := h2 y hy
   exact List.mem_map.2 ⟨z, List.mem_filter.2 ⟨List.mem_range.2 hz, decide_eq_true (pcI_at h hi hy).2⟩, rfl⟩)
  rw [List.length_map] at h3
  exact h3
 ·have hn' : (((List.range d.crs.length).filter (fun x => decide (pcI d x = i))).map fun x : Nat => (x : Int)).Nodup := by
   rw [List.nodup_iff_pairwise_ne, List.pairwise_map]
   exact List.Pairwise.imp (fun hab e => hab (by omega)) hn
  have h3 := nodup_le (ys := ga (pcsL d) i) hn' (fun y hy => by
   obtain ⟨z, hz, rfl⟩ := List.mem_map.1 hy
   obtain ⟨hz1, hz2⟩ := List.mem_filter.1 hz
   obtain ⟨_, g2, _⟩ := pcI_lt h (List.mem_range.1 hz1)
   rw [of_decide_eq_true hz2] at g2
   exact g2)
  rw [List.length_map] at h3
  exact h3
theorem root_count {d : Dg} (h : arcsB d = true) {p : Nat} (hp : p < d.crs.length) (hr : ga (whoL d) p = (p : Int)) : pcI d p < (pcsL d).length ∧
  (facW d (whoL d) p (negW (whoL d) p d.crs.length) (facesL d).length = 2 ↔ ga (fcN d (facesL d).length) (pcI d p) = ((ga (pcsL d) (pcI d p)).length : Int) + 2) := by
 obtain ⟨h1, _, _⟩ := pcI_lt h hp
 refine ⟨h1, ?_⟩
 rw [facW_cn, negW_cn, fcN_cn d _ h1, piece_cn h h1]
 have e1 : cn (fun x => decide (ga (whoL d) x = (p : Int))) d.crs.length = cn (fun x => decide (pcI d x = pcI d p)) d.crs.length := cn_congr _ fun x hx => decide_eq_decide.2 (who_iff h hp hr hx)
 have e2 : cn (fun x => decide (ga (whoL d) (fcC d x) = (p : Int))) (facesL d).length = cn (fun x => decide (pcI d (fcC d x) = pcI d p)) (facesL d).length := cn_congr _ fun x hx => decide_eq_decide.2 (who_iff h hp hr (fcC_lt h hx))
 rw [e1, e2]
 omega
theorem planar_law {d : Dg} (h : arcsB d = true) : planIs d = planP d := by
 rw [Bool.eq_iff_iff]
 constructor
 ·intro hp
  apply planP_t
  intro i hi
  obtain ⟨_, c0, hc0, hm, _⟩ := (pcs h).el i hi
  have e0 := (pcI_at h hi hm).2
  obtain ⟨z, _, hz, _⟩ := whoL_law h c0 hc0
  obtain ⟨r1, r2, r3⟩ := who_root h hc0 hz
  have hq := List.all_eq_true.1 hp z (List.mem_range.2 r1)
  unfold rootOk at hq
  rw [Bool.or_eq_true] at hq
  rcases hq with hq | hq
  ·exact absurd r3 (of_decide_eq_true hq)
  ·have := (root_count h r1 r3).2.1 (of_decide_eq_true hq)
   rw [r2, e0] at this
   exact this
 ·intro hp
  apply planIs_t
  intro p hpn
  unfold rootOk
  rw [Bool.or_eq_true]
  by_cases hr : ga (whoL d) p = (p : Int)
  ·right
   obtain ⟨h1, h2⟩ := root_count h hpn hr
   have hq := List.all_eq_true.1 hp _ (List.mem_range.2 h1)
   exact decide_eq_true (h2.2 (of_decide_eq_true hq))
  ·left
   exact decide_eq_true hr
end Go.Proofs.Ythppkofceancjaa
namespace Go.Proofs.Ythppkofceancjaa
open Go.RowKit
/-- Classes of points: the front edge is the last one. -/
def cmpE : List (Nat × Nat) → Nat → Nat
  | [], x => x
  | e :: es, x => if cmpE es x = cmpE es e.2 then cmpE es e.1 else cmpE es x
theorem cmpE_idem (es : List (Nat × Nat)) (x : Nat) : cmpE es (cmpE es x) = cmpE es x := by
  induction es generalizing x with
  | nil => rfl
  | cons e es ih =>
    by_cases h : cmpE es x = cmpE es e.2
    · have h1 : cmpE (e :: es) x = cmpE es e.1 := by rw [cmpE, if_pos h]
      rw [h1, cmpE, ih]
      split <;> rfl
    · have h1 : cmpE (e :: es) x = cmpE es x := by rw [cmpE, if_neg h]
      rw [h1, cmpE, ih, if_neg h]
theorem cmpE_mono {es : List (Nat × Nat)} {e : Nat × Nat} {x y : Nat} (h : cmpE es x = cmpE es y) : cmpE (e :: es) x = cmpE (e :: es) y := by
  rw [cmpE, cmpE, h]
theorem cmpE_join (es : List (Nat × Nat)) (e : Nat × Nat) : cmpE (e :: es) e.1 = cmpE (e :: es) e.2 := by
  rw [cmpE, cmpE, if_pos rfl]
  split <;> rfl
theorem cmpE_mem {es : List (Nat × Nat)} {e : Nat × Nat} (h : e ∈ es) : cmpE es e.1 = cmpE es e.2 := by
  induction es with
  | nil => cases h
  | cons f es ih =>
    rcases List.mem_cons.1 h with rfl | h
    · exact cmpE_join es e
    · exact cmpE_mono (ih h)
theorem cmpE_lt {N : Nat} {es : List (Nat × Nat)} (h : ∀ e ∈ es, e.1 < N ∧ e.2 < N) {x : Nat} (hx : x < N) : cmpE es x < N := by
  induction es generalizing x with
  | nil => exact hx
  | cons e es ih =>
    have ih := fun x hx => ih (fun e he => h e (by simp [he])) (x := x) hx
    rw [cmpE]
    split
    · exact ih _ (h e (by simp)).1
    · exact ih _ hx
def rtE (es : List (Nat × Nat)) (N : Nat) : Nat := cn (fun x => decide (cmpE es x = x)) N
theorem cn_less {P Q : Nat → Bool} {N z : Nat} (hz : z < N) (hp : P z = true) (hq : Q z = false) (h : ∀ x, x < N → x ≠ z → Q x = P x) : cn Q N + 1 = cn P N := by
  induction N with
  | zero => omega
  | succ N ih =>
    rw [cn, cn]
    by_cases e : z = N
    · subst e
      rw [if_pos hp, if_neg (by rw [hq]; exact Bool.false_ne_true), cn_congr z (fun x hx => h x (by omega) (by omega))]
    · have := ih (by omega) (fun x hx => h x (by omega))
      rw [h N (by omega) (by omega)]
      omega
theorem rtE_join {es : List (Nat × Nat)} {e : Nat × Nat} {N : Nat} (hl : ∀ e ∈ es, e.1 < N ∧ e.2 < N) (h2 : e.2 < N) (hne : cmpE es e.1 ≠ cmpE es e.2) : rtE (e :: es) N + 1 = rtE es N := by
  refine cn_less (cmpE_lt hl h2) (decide_eq_true (cmpE_idem es e.2)) (decide_eq_false ?_) fun x _ hx => ?_
  · rw [cmpE, cmpE_idem, if_pos rfl]; exact hne
  · refine decide_eq_decide.2 ?_
    rw [cmpE]
    by_cases h : cmpE es x = cmpE es e.2
    · rw [if_pos h]
      constructor
      · intro h'
        rw [← h', cmpE_idem] at h
        exact absurd h hne
      · intro h'
        exact absurd (h'.symm.trans h) hx
    · rw [if_neg h]
/-- A forest: each edge joins two classes. -/
def foE : List (Nat × Nat) → Prop
  | [] => True
  | e :: es => cmpE es e.1 ≠ cmpE es e.2 ∧ foE es
theorem foE_col {es : List (Nat × Nat)} (h : foE es) : ∃ c : Nat → Bool, ∀ e ∈ es, c e.1 ≠ c e.2 := by
  induction es with
  | nil => exact ⟨fun _ => false, fun e he => by cases he⟩
  | cons e es ih =>
    obtain ⟨c, hc⟩ := ih h.2
    by_cases hd : c e.1 = c e.2
    · refine ⟨fun x => if cmpE es x = cmpE es e.2 then !c x else c x, fun f hf => ?_⟩
      rcases List.mem_cons.1 hf with rfl | hf
      · dsimp only
        rw [if_neg h.1, if_pos rfl, hd]
        cases c f.2 <;> simp
      · dsimp only
        rw [cmpE_mem hf]
        have := hc f hf
        split
        · intro e9; exact this (by simpa using e9)
        · exact this
    · refine ⟨c, fun f hf => ?_⟩
      rcases List.mem_cons.1 hf with rfl | hf
      · exact hd
      · exact hc f hf
section
variable (e1 e2 : Nat → Nat)
def prE (l : List Nat) : List (Nat × Nat) := l.map fun a => (e1 a, e2 a)
/-- The arcs that join two classes, of the first k ones; the others. -/
def trE : Nat → List Nat
  | 0 => []
  | k + 1 => if cmpE (prE e1 e2 (trE k)) (e1 k) = cmpE (prE e1 e2 (trE k)) (e2 k) then trE k else k :: trE k
def ctE : Nat → List Nat
  | 0 => []
  | k + 1 => if cmpE (prE e1 e2 (trE e1 e2 k)) (e1 k) = cmpE (prE e1 e2 (trE e1 e2 k)) (e2 k) then k :: ctE k else ctE k
theorem trct_len (k : Nat) : (trE e1 e2 k).length + (ctE e1 e2 k).length = k := by
  induction k with
  | zero => rfl
  | succ k ih => rw [trE, ctE]; split <;> simp <;> omega
theorem trct_mem (k a : Nat) (ha : a < k) : a ∈ trE e1 e2 k ∨ a ∈ ctE e1 e2 k := by
  induction k with
  | zero => omega
  | succ k ih =>
    rw [trE, ctE]
    by_cases e : a = k
    · subst e
      split
      · exact .inr (by simp)
      · exact .inl (by simp)
    · rcases ih (by omega) with h | h
      · left; split <;> simp [h]
      · right; split <;> simp [h]
theorem trE_lt (k : Nat) : ∀ a ∈ trE e1 e2 k, a < k := by
  induction k with
  | zero => intro a h; cases h
  | succ k ih =>
    intro a h
    rw [trE] at h
    split at h
    · have := ih a h; omega
    · rcases List.mem_cons.1 h with rfl | h
      · omega
      · have := ih a h; omega
theorem ctE_lt (k : Nat) : ∀ a ∈ ctE e1 e2 k, a < k := by
  induction k with
  | zero => intro a h; cases h
  | succ k ih =>
    intro a h
    rw [ctE] at h
    split at h
    · rcases List.mem_cons.1 h with rfl | h
      · omega
      · have := ih a h; omega
    · have := ih a h; omega
theorem trE_fo (k : Nat) : foE (prE e1 e2 (trE e1 e2 k)) := by
  induction k with
  | zero => exact trivial
  | succ k ih =>
    rw [trE]
    split
    · exact ih
    · exact ⟨by assumption, ih⟩
theorem prE_lt {N k : Nat} (h : ∀ a, a < k → e1 a < N ∧ e2 a < N) {l : List Nat} (hl : ∀ a ∈ l, a < k) : ∀ e ∈ prE e1 e2 l, e.1 < N ∧ e.2 < N := by
  intro e he
  obtain ⟨a, ha, rfl⟩ := List.mem_map.1 he
  exact h a (hl a ha)
theorem trE_all (k : Nat) : ∀ a, a < k → cmpE (prE e1 e2 (trE e1 e2 k)) (e1 a) = cmpE (prE e1 e2 (trE e1 e2 k)) (e2 a) := by
  induction k with
  | zero => intro a h; omega
  | succ k ih =>
    intro a ha
    rw [trE]
    split
    · rename_i h
      by_cases e : a = k
      · subst e; exact h
      · exact ih a (by omega)
    · by_cases e : a = k
      · subst e; exact cmpE_join _ (e1 a, e2 a)
      · exact cmpE_mono (ih a (by omega))
theorem rtE_nil (N : Nat) : rtE [] N = N := by
  unfold rtE
  induction N with
  | zero => rfl
  | succ N ih => rw [cn, ih, if_pos (decide_eq_true (show cmpE [] N = N from rfl))]
theorem trE_cnt {N : Nat} (k : Nat) (h : ∀ a, a < k → e1 a < N ∧ e2 a < N) : rtE (prE e1 e2 (trE e1 e2 k)) N + (trE e1 e2 k).length = N := by
  induction k with
  | zero => exact rtE_nil N
  | succ k ih =>
    have ih := ih (fun a ha => h a (by omega))
    rw [trE]
    split
    · exact ih
    · rename_i hne
      have := rtE_join (e := (e1 k, e2 k)) (prE_lt e1 e2 (fun a ha => h a (by omega)) (trE_lt e1 e2 k)) (h k (by omega)).2 hne
      rw [List.length_cons]
      show rtE ((e1 k, e2 k) :: prE e1 e2 (trE e1 e2 k)) N + _ = _
      omega
end
/-- One class: one root. -/
theorem rtE_one {es : List (Nat × Nat)} {N : Nat} (h0 : 0 < N) (hl : ∀ e ∈ es, e.1 < N ∧ e.2 < N) (h : ∀ x, x < N → cmpE es x = cmpE es 0) : rtE es N = 1 := by
  have hz := cmpE_lt hl h0
  have h1 : cn (fun _ => false) N + 1 = rtE es N := cn_less (P := fun x => decide (cmpE es x = x)) hz (decide_eq_true (cmpE_idem es 0)) rfl fun x hx hne => by
    symm
    refine decide_eq_false fun e => hne ?_
    rw [← e, h x hx]
  have h2 : cn (fun _ => false) N = 0 := by
    clear h1 hz h hl h0
    induction N with
    | zero => rfl
    | succ N ih => rw [cn, ih, if_neg Bool.false_ne_true]
  omega
theorem cn_zero {P : Nat → Bool} {N : Nat} (h : ∀ x, x < N → P x = false) : cn P N = 0 := by
  induction N with
  | zero => rfl
  | succ N ih => rw [cn, ih (fun x hx => h x (by omega)), if_neg (by rw [h N (by omega)]; exact Bool.false_ne_true)]
/-- In a forest no part but the empty one cuts each set of points evenly. -/
theorem fo_even {e1 e2 : Nat → Nat} {K : Nat} : ∀ (ts : List Nat), (∀ a ∈ ts, a < K) → foE (prE e1 e2 ts) → ∀ (D : Nat → Bool), (∀ a, a < K → D a = true → a ∈ ts) →
    (∀ X : Nat → Bool, cn (fun a => D a && (X (e1 a) != X (e2 a))) K % 2 = 0) → ∀ a, a < K → D a = false := by
  intro ts
  induction ts with
  | nil =>
    intro _ _ D hD _ a ha
    cases e : D a with
    | false => rfl
    | true => cases hD a ha e
  | cons t ts ih =>
    intro hK hf D hD hev
    have ht : D t = false := by
      cases e : D t with
      | false => rfl
      | true =>
        exfalso
        have h1 := hev fun x => decide (cmpE (prE e1 e2 ts) x = cmpE (prE e1 e2 ts) (e1 t))
        have h2 : cn (fun _ => false) K + 1 = cn (fun a => D a && (decide (cmpE (prE e1 e2 ts) (e1 a) = cmpE (prE e1 e2 ts) (e1 t)) != decide (cmpE (prE e1 e2 ts) (e2 a) = cmpE (prE e1 e2 ts) (e1 t)))) K := by
          refine cn_less (z := t) (hK t (by simp)) ?_ rfl fun x hx hne => ?_
          · have h3 : ¬ cmpE (prE e1 e2 ts) (e2 t) = cmpE (prE e1 e2 ts) (e1 t) := fun e9 => hf.1 e9.symm
            simp [e, h3]
          · cases hx2 : D x with
            | false => rfl
            | true =>
              rcases List.mem_cons.1 (hD x hx hx2) with e9 | h9
              · exact absurd e9 hne
              · have h3 := cmpE_mem (es := prE e1 e2 ts) (e := (e1 x, e2 x)) (List.mem_map.2 ⟨x, h9, rfl⟩)
                simp only at h3
                rw [h3]
                simp
        have h4 : cn (fun _ => false) K = 0 := cn_zero fun _ _ => rfl
        omega
    refine ih (fun a ha => hK a (by simp [ha])) hf.2 D (fun a ha hd => ?_) hev
    rcases List.mem_cons.1 (hD a ha hd) with rfl | h
    · rw [ht] at hd; cases hd
    · exact h
/-- The place before a place at its crossing. -/
def prJ (j : Nat) : Nat := 4 * (j / 4) + (j % 4 + 3) % 4
theorem cn_par (P Q : Nat → Bool) (K : Nat) : (cn P K + cn Q K) % 2 = cn (fun a => P a != Q a) K % 2 := by
  induction K with
  | zero => rfl
  | succ K ih =>
    rw [cn, cn, cn]
    cases P K <;> cases Q K <;> simp <;> omega
theorem cn_four (P : Nat → Bool) (n : Nat) (h : ∀ c, c < n → ((if P (4 * c) = true then 1 else 0) + (if P (4 * c + 1) = true then 1 else 0) + (if P (4 * c + 2) = true then 1 else 0) + (if P (4 * c + 3) = true then 1 else 0)) % 2 = 0) : cn P (4 * n) % 2 = 0 := by
  induction n with
  | zero => rfl
  | succ n ih =>
    have ih := ih (fun c hc => h c (by omega))
    have h1 := h n (by omega)
    rw [show 4 * (n + 1) = 4 * n + 1 + 1 + 1 + 1 by omega, cn, cn, cn, cn]
    omega
structure Mp4 (n : Nat) (h1 h2 hA F : Nat → Nat) : Prop where
  lt : ∀ a, a < 2 * n → h1 a < 4 * n ∧ h2 a < 4 * n ∧ h1 a ≠ h2 a ∧ hA (h1 a) = a ∧ hA (h2 a) = a
  at_ : ∀ j, j < 4 * n → hA j < 2 * n ∧ (j = h1 (hA j) ∨ j = h2 (hA j))
  nx : ∀ a, a < 2 * n → F (h1 a) = F (prJ (h2 a)) ∧ F (h2 a) = F (prJ (h1 a))
  fl : ∀ j, j < 4 * n → F j < n + 2
  fs : ∀ i, i < n + 2 → ∃ j, j < 4 * n ∧ F j = i
  con : ∀ Z : Nat → Prop, (∀ a, a < 2 * n → (Z (h1 a / 4) ↔ Z (h2 a / 4))) → ∀ x y, x < n → y < n → Z x → Z y
section
variable {n : Nat} {h1 h2 hA F : Nat → Nat}
theorem Mp4.hs (m : Mp4 n h1 h2 hA F) (P : Nat → Bool) : cn P (4 * n) = cn (fun a => P (h1 a)) (2 * n) + cn (fun a => P (h2 a)) (2 * n) := by
  have hp : ((List.range (2 * n)).map h1 ++ (List.range (2 * n)).map h2).Perm (List.range (4 * n)) := by
    rw [List.perm_ext_iff_of_nodup]
    · intro j
      rw [List.mem_append, List.mem_map, List.mem_map, List.mem_range]
      constructor
      · rintro (⟨a, ha, rfl⟩ | ⟨a, ha, rfl⟩)
        · exact (m.lt a (List.mem_range.1 ha)).1
        · exact (m.lt a (List.mem_range.1 ha)).2.1
      · intro hj
        obtain ⟨h3, h4 | h4⟩ := m.at_ j hj
        · exact .inl ⟨hA j, List.mem_range.2 h3, h4.symm⟩
        · exact .inr ⟨hA j, List.mem_range.2 h3, h4.symm⟩
    · rw [List.nodup_append]
      have inj : ∀ h : Nat → Nat, (∀ a, a < 2 * n → hA (h a) = a) → ((List.range (2 * n)).map h).Nodup := fun h hh => by
        rw [List.nodup_iff_pairwise_ne, List.pairwise_map]
        refine List.Pairwise.imp_of_mem ?_ List.nodup_range
        intro a b ha hb hab e
        have h3 := hh a (List.mem_range.1 ha)
        have h4 := hh b (List.mem_range.1 hb)
        rw [e] at h3
        exact hab (h3.symm.trans h4)
      refine ⟨inj h1 fun a ha => (m.lt a ha).2.2.2.1, inj h2 fun a ha => (m.lt a ha).2.2.2.2, ?_⟩
      intro x hx y hy
      obtain ⟨a, ha, rfl⟩ := List.mem_map.1 hx
      obtain ⟨b, hb, rfl⟩ := List.mem_map.1 hy
      intro e
      have h3 := (m.lt a (List.mem_range.1 ha)).2.2
      have h4 := (m.lt b (List.mem_range.1 hb)).2.2
      have e2 : a = b := by rw [← h3.2.1, e, h4.2.2]
      subst e2
      exact h3.1 e
    · exact List.nodup_range
  have h3 := hp.countP_eq P
  rw [List.countP_append, List.countP_map, List.countP_map] at h3
  rw [cn_filter, cn_filter, cn_filter, ← List.countP_eq_length_filter, ← List.countP_eq_length_filter, ← List.countP_eq_length_filter, ← h3]
  rfl
/-- A part of the arcs that is even at each crossing cuts each set of crossings evenly. -/
theorem Mp4.cut (m : Mp4 n h1 h2 hA F) {D : Nat → Bool} (hD : ∀ c, c < n → ((if D (hA (4 * c)) = true then 1 else 0) + (if D (hA (4 * c + 1)) = true then 1 else 0) + (if D (hA (4 * c + 2)) = true then 1 else 0) + (if D (hA (4 * c + 3)) = true then 1 else 0)) % 2 = 0) (X : Nat → Bool) :
    cn (fun a => D a && (X (h1 a / 4) != X (h2 a / 4))) (2 * n) % 2 = 0 := by
  have h3 := m.hs fun j => D (hA j) && X (j / 4)
  have h4 := cn_four (fun j => D (hA j) && X (j / 4)) n fun c hc => by
    have h5 := hD c hc
    rw [show 4 * c / 4 = c by omega, show (4 * c + 1) / 4 = c by omega, show (4 * c + 2) / 4 = c by omega, show (4 * c + 3) / 4 = c by omega]
    cases X c
    · simp
    · simpa using h5
  have h6 := cn_par (fun a => D (hA (h1 a)) && X (h1 a / 4)) (fun a => D (hA (h2 a)) && X (h2 a / 4)) (2 * n)
  rw [← h3, h4] at h6
  rw [h6]
  refine congrArg (· % 2) (cn_congr _ fun a ha => ?_)
  obtain ⟨_, _, _, e1, e2⟩ := m.lt a ha
  rw [e1, e2]
  cases D a <;> simp
/-- The faces on both sides of an arc, told at a place. -/
theorem Mp4.side (m : Mp4 n h1 h2 hA F) (Y : Nat → Bool) {j : Nat} (hj : j < 4 * n) : (Y (F (h1 (hA j))) != Y (F (h2 (hA j)))) = (Y (F j) != Y (F (prJ j))) := by
  obtain ⟨h3, h4⟩ := m.at_ j hj
  obtain ⟨n1, n2⟩ := m.nx _ h3
  rcases h4 with h4 | h4
  · rw [n2, ← h4]
  · rw [n1, ← h4]; cases Y (F j) <;> cases Y (F (prJ j)) <;> rfl
theorem Mp4.rim (m : Mp4 n h1 h2 hA F) (Y : Nat → Bool) (q : Bool) (c : Nat) (hc : c < n) : ((if ((Y (F (h1 (hA (4 * c)))) != Y (F (h2 (hA (4 * c))))) != q) = true then 1 else 0) + (if ((Y (F (h1 (hA (4 * c + 1)))) != Y (F (h2 (hA (4 * c + 1))))) != q) = true then 1 else 0) + (if ((Y (F (h1 (hA (4 * c + 2)))) != Y (F (h2 (hA (4 * c + 2))))) != q) = true then 1 else 0) + (if ((Y (F (h1 (hA (4 * c + 3)))) != Y (F (h2 (hA (4 * c + 3))))) != q) = true then 1 else 0)) % 2 = 0 := by
  rw [m.side Y (by omega), m.side Y (by omega), m.side Y (by omega), m.side Y (by omega)]
  rw [show prJ (4 * c) = 4 * c + 3 by unfold prJ; omega, show prJ (4 * c + 1) = 4 * c by unfold prJ; omega, show prJ (4 * c + 2) = 4 * c + 1 by unfold prJ; omega, show prJ (4 * c + 3) = 4 * c + 2 by unfold prJ; omega]
  cases Y (F (4 * c)) <;> cases Y (F (4 * c + 1)) <;> cases Y (F (4 * c + 2)) <;> cases Y (F (4 * c + 3)) <;> cases q <;> rfl
/-- All faces hang together. -/
theorem Mp4.hang (m : Mp4 n h1 h2 hA F) (Z : Nat → Prop) (hZ : ∀ j, j < 4 * n → (Z (F j) ↔ Z (F (prJ j)))) : ∀ i i', i < n + 2 → i' < n + 2 → Z i → Z i' := by
  have corner : ∀ c, c < n → ∀ k, k < 4 → (Z (F (4 * c + k)) ↔ Z (F (4 * c))) := fun c hc k hk => by
    have z1 := hZ (4 * c + 1) (by omega)
    have z2 := hZ (4 * c + 2) (by omega)
    have z3 := hZ (4 * c + 3) (by omega)
    rw [show prJ (4 * c + 1) = 4 * c by unfold prJ; omega] at z1
    rw [show prJ (4 * c + 2) = 4 * c + 1 by unfold prJ; omega] at z2
    rw [show prJ (4 * c + 3) = 4 * c + 2 by unfold prJ; omega] at z3
    have e : k = 0 ∨ k = 1 ∨ k = 2 ∨ k = 3 := by omega
    rcases e with rfl | rfl | rfl | rfl
    · exact Iff.rfl
    · exact z1
    · exact z2.trans z1
    · exact (z3.trans z2).trans z1
  have corner' : ∀ j, j < 4 * n → (Z (F j) ↔ Z (F (4 * (j / 4)))) := fun j hj => by
    have := corner (j / 4) (by omega) (j % 4) (by omega)
    rwa [show 4 * (j / 4) + j % 4 = j by omega] at this
  have hcon := m.con (fun c => Z (F (4 * c))) fun a ha => by
    obtain ⟨l1, l2, _⟩ := m.lt a ha
    obtain ⟨n1, _⟩ := m.nx a ha
    have c1 := corner' (h1 a) l1
    have c2 := corner' (h2 a) l2
    have z2 := hZ (h2 a) l2
    rw [n1] at c1
    exact c1.symm.trans (z2.symm.trans c2)
  intro i i' hi hi' hz
  obtain ⟨j, hj, rfl⟩ := m.fs i hi
  obtain ⟨j', hj', rfl⟩ := m.fs i' hi'
  exact (corner' j' hj').2 (hcon (j / 4) (j' / 4) (by omega) (by omega) ((corner' j hj).1 hz))
theorem Mp4.two (m : Mp4 n h1 h2 hA F) (h0 : 0 < n) : ∃ col : Nat → Bool, ∀ j, j < 4 * n → col (F j) ≠ col (F (prJ j)) := by
  have ve : ∀ a, a < 2 * n → h1 a / 4 < n ∧ h2 a / 4 < n := fun a ha => by have := m.lt a ha; omega
  obtain ⟨T, hT⟩ : ∃ T, trE (fun a => h1 a / 4) (fun a => h2 a / 4) (2 * n) = T := ⟨_, rfl⟩
  obtain ⟨R, hR⟩ : ∃ R, ctE (fun a => h1 a / 4) (fun a => h2 a / 4) (2 * n) = R := ⟨_, rfl⟩
  have htl : ∀ a ∈ T, a < 2 * n := by rw [← hT]; exact trE_lt _ _ _
  have hrl : ∀ a ∈ R, a < 2 * n := by rw [← hR]; exact ctE_lt _ _ _
  have hTR : ∀ a, a < 2 * n → a ∈ T ∨ a ∈ R := by rw [← hT, ← hR]; exact trct_mem _ _ _
  have hfo : foE (prE (fun a => h1 a / 4) (fun a => h2 a / 4) T) := by rw [← hT]; exact trE_fo _ _ _
  have hRn : R.length = n + 1 := by
    have a1 := trct_len (fun a => h1 a / 4) (fun a => h2 a / 4) (2 * n)
    have a2 := trE_cnt (fun a => h1 a / 4) (fun a => h2 a / 4) (N := n) (2 * n) ve
    have a3 := trE_all (fun a => h1 a / 4) (fun a => h2 a / 4) (2 * n)
    rw [hT] at a1 a2 a3
    rw [hR] at a1
    have a4 := rtE_one h0 (prE_lt _ _ ve htl) fun x hx => m.con (fun x => cmpE (prE (fun a => h1 a / 4) (fun a => h2 a / 4) T) x = cmpE (prE (fun a => h1 a / 4) (fun a => h2 a / 4) T) 0) (fun a ha => by
      have := a3 a ha
      rw [this]) 0 x h0 hx rfl
    omega
  have noD : ∀ D : Nat → Bool, (∀ c, c < n → ((if D (hA (4 * c)) = true then 1 else 0) + (if D (hA (4 * c + 1)) = true then 1 else 0) + (if D (hA (4 * c + 2)) = true then 1 else 0) + (if D (hA (4 * c + 3)) = true then 1 else 0)) % 2 = 0) → (∀ a ∈ R, D a = false) → ∀ a, a < 2 * n → D a = false := fun D hev hno =>
    fo_even T htl hfo D (fun a ha hd => (hTR a ha).elim id fun h => by rw [hno a h] at hd; cases hd) (m.cut hev)
  -- the faces, joined by the arcs that are not in the tree
  obtain ⟨G, hG⟩ : ∃ G : Nat → Nat, ∀ i, i < R.length → G i = R.getD i 0 := ⟨fun i => R.getD i 0, fun _ _ => rfl⟩
  have hGR : ∀ i, i < R.length → G i ∈ R := fun i hi => by rw [hG i hi]; simp [List.getD_eq_getElem?_getD, hi]
  have hRG : ∀ a ∈ R, ∃ i, i < R.length ∧ G i = a := fun a ha => by
    obtain ⟨i, hi, e⟩ := List.getElem_of_mem ha
    exact ⟨i, hi, by rw [hG i hi]; simp [List.getD_eq_getElem?_getD, hi, e]⟩
  obtain ⟨T2, hT2⟩ : ∃ T2, trE (fun i => F (h1 (G i))) (fun i => F (h2 (G i))) R.length = T2 := ⟨_, rfl⟩
  have fe : ∀ i, i < R.length → F (h1 (G i)) < n + 2 ∧ F (h2 (G i)) < n + 2 := fun i hi => by
    have := m.lt (G i) (hrl _ (hGR i hi))
    exact ⟨m.fl _ this.1, m.fl _ this.2.1⟩
  have b3 := trE_all (fun i => F (h1 (G i))) (fun i => F (h2 (G i))) R.length
  have b2 := trE_cnt (fun i => F (h1 (G i))) (fun i => F (h2 (G i))) (N := n + 2) R.length fe
  have b5 := trE_lt (fun i => F (h1 (G i))) (fun i => F (h2 (G i))) R.length
  have b6 := trE_fo (fun i => F (h1 (G i))) (fun i => F (h2 (G i))) R.length
  have b7 := trct_len (fun i => F (h1 (G i))) (fun i => F (h2 (G i))) R.length
  rw [hT2] at b2 b3 b5 b6 b7
  have hone : rtE (prE (fun i => F (h1 (G i))) (fun i => F (h2 (G i))) T2) (n + 2) = 1 := by
    refine rtE_one (by omega) (prE_lt _ _ fe b5) fun x hx => ?_
    have hno := noD (fun a => (decide (cmpE (prE (fun i => F (h1 (G i))) (fun i => F (h2 (G i))) T2) (F (h1 a)) = cmpE (prE (fun i => F (h1 (G i))) (fun i => F (h2 (G i))) T2) 0) != decide (cmpE (prE (fun i => F (h1 (G i))) (fun i => F (h2 (G i))) T2) (F (h2 a)) = cmpE (prE (fun i => F (h1 (G i))) (fun i => F (h2 (G i))) T2) 0)) != false)
      (fun c hc => m.rim (fun f => decide (cmpE (prE (fun i => F (h1 (G i))) (fun i => F (h2 (G i))) T2) f = cmpE (prE (fun i => F (h1 (G i))) (fun i => F (h2 (G i))) T2) 0)) false c hc)
      (fun a ha => by
        obtain ⟨i, hi, rfl⟩ := hRG a ha
        have := b3 i hi
        rw [this]
        simp)
    refine m.hang (fun f => cmpE (prE (fun i => F (h1 (G i))) (fun i => F (h2 (G i))) T2) f = cmpE (prE (fun i => F (h1 (G i))) (fun i => F (h2 (G i))) T2) 0) (fun j hj => ?_) 0 x (by omega) hx rfl
    have h9 := hno (hA j) (m.at_ j hj).1
    have h8 := m.side (fun f => decide (cmpE (prE (fun i => F (h1 (G i))) (fun i => F (h2 (G i))) T2) f = cmpE (prE (fun i => F (h1 (G i))) (fun i => F (h2 (G i))) T2) 0)) hj
    rw [h8] at h9
    have h7 : decide (cmpE (prE (fun i => F (h1 (G i))) (fun i => F (h2 (G i))) T2) (F j) = cmpE (prE (fun i => F (h1 (G i))) (fun i => F (h2 (G i))) T2) 0) = decide (cmpE (prE (fun i => F (h1 (G i))) (fun i => F (h2 (G i))) T2) (F (prJ j)) = cmpE (prE (fun i => F (h1 (G i))) (fun i => F (h2 (G i))) T2) 0) := by simpa using h9
    exact decide_eq_decide.1 h7
  have hfull : (ctE (fun i => F (h1 (G i))) (fun i => F (h2 (G i))) R.length).length = 0 := by omega
  obtain ⟨col, hcol⟩ := foE_col b6
  have hdiff : ∀ a ∈ R, col (F (h1 a)) ≠ col (F (h2 a)) := fun a ha => by
    obtain ⟨i, hi, rfl⟩ := hRG a ha
    have hm := trct_mem (fun i => F (h1 (G i))) (fun i => F (h2 (G i))) R.length i hi
    rw [hT2, List.eq_nil_of_length_eq_zero hfull] at hm
    rcases hm with hm | hm
    · exact hcol (F (h1 (G i)), F (h2 (G i))) (List.mem_map.2 ⟨i, hm, rfl⟩)
    · cases hm
  have hno := noD (fun a => (col (F (h1 a)) != col (F (h2 a))) != true) (fun c hc => m.rim col true c hc) fun a ha => by
    exact (show ∀ p q : Bool, p ≠ q → ((p != q) != true) = false by decide) _ _ (hdiff a ha)
  refine ⟨col, fun j hj => ?_⟩
  have h9 := hno (hA j) (m.at_ j hj).1
  have h8 := m.side col hj
  rw [h8] at h9
  intro e
  rw [e] at h9
  simp at h9
end
end Go.Proofs.Ythppkofceancjaa
namespace Go.Proofs.Ythppkofceancjaa
open Go.RowKit
/-- L holds just the marked ones, once each. -/
def Marks (seen : List Bool) (L : List Int) : Prop := L.Nodup ∧ ∀ y : Int, y ∈ L ↔ ∃ x : Nat, y = (x : Int) ∧ x < seen.length ∧ ga seen x = true
theorem marks_set {seen : List Bool} {L : List Int} {x : Nat} (h : Marks seen L) (hx : x < seen.length) (hf : ga seen x = false) : Marks (seen.set x true) (L ++ [(x : Int)]) := by
  obtain ⟨h1, h2⟩ := h
  refine ⟨?_, fun y => ?_⟩
  · rw [List.nodup_append]
    refine ⟨h1, by simp, ?_⟩
    intro a ha b hb e
    rw [List.mem_singleton] at hb
    subst hb
    subst e
    obtain ⟨x', e, _, h4⟩ := (h2 _).1 ha
    obtain rfl : x = x' := by omega
    rw [hf] at h4
    cases h4
  · rw [List.mem_append, List.mem_singleton, h2]
    constructor
    · rintro (⟨x', e, h3, h4⟩ | rfl)
      · refine ⟨x', e, by rw [List.length_set]; exact h3, ?_⟩
        rw [ga_set _ _ _ _ hx]
        split <;> simp [h4]
      · exact ⟨x, rfl, by rw [List.length_set]; exact hx, by rw [ga_set _ _ _ _ hx]; simp⟩
    · rintro ⟨x', e, h3, h4⟩
      rw [List.length_set] at h3
      rw [ga_set _ _ _ _ hx] at h4
      by_cases hxx : x = x'
      · subst hxx; exact .inr e
      · rw [if_neg hxx] at h4; exact .inl ⟨x', e, h3, h4⟩
theorem ringF_marks {nx : Nat → Nat} (P : List Int) (seen : List Bool) (x : Nat) (acc : List Int) (h : Marks seen (P ++ acc)) :
    Marks (ringF nx seen x acc).1 (P ++ (ringF nx seen x acc).2) ∧ (∀ y, ga seen y = true → ga (ringF nx seen x acc).1 y = true) ∧ (x < seen.length → ga (ringF nx seen x acc).1 x = true) := by
  induction hk : free seen using Nat.strongRecOn generalizing seen x acc with
  | _ k ih =>
    by_cases hx : x < seen.length ∧ ga seen x = false
    · rw [ringF_go hx.1 hx.2]
      have hf := free_set hx.1 hx.2
      obtain ⟨r1, r2, _⟩ := ih (free (seen.set x true)) (by omega) (seen.set x true) (nx x) (acc ++ [(x : Int)]) (by rw [← List.append_assoc]; exact marks_set h hx.1 hx.2) rfl
      refine ⟨r1, fun y hy => r2 y ?_, fun _ => r2 x ?_⟩
      · rw [ga_set _ _ _ _ hx.1]; split <;> simp [hy]
      · rw [ga_set _ _ _ _ hx.1]; simp
    · have e : ringF nx seen x acc = (seen, acc) := by rw [ringF]; simp [hx]
      rw [e]
      refine ⟨h, fun y hy => hy, fun hl => ?_⟩
      cases hg : ga seen x
      · exact absurd ⟨hl, hg⟩ hx
      · rfl
theorem flat_dis2 {xss : List (List Int)} (h : xss.flatten.Nodup) {i j : Nat} (hi : i < xss.length) (hj : j < xss.length) {y : Int} (h1 : y ∈ ga xss i) (h2 : y ∈ ga xss j) : i = j := by
  rw [ga_eq hi] at h1
  rw [ga_eq hj] at h2
  rcases Nat.lt_trichotomy i j with e | e | e
  · exact absurd rfl ((List.pairwise_iff_getElem.1 (List.pairwise_flatten.1 h).2 i j hi hj e) y h1 y h2)
  · exact e
  · exact absurd rfl ((List.pairwise_iff_getElem.1 (List.pairwise_flatten.1 h).2 j i hj hi e) y h2 y h1)
def rgC (d : Dg) (c : Nat) : Prop := 2 ≤ c ∧ c < 4 * d.crs.length + 2
/-- A list of codes that holds the next one of each. -/
def cloC (d : Dg) (P : List Int) : Prop := ∀ y ∈ P, ((nxC d y.toNat : Nat) : Int) ∈ P
theorem nxC_inj {d : Dg} (h : arcsB d = true) {c e : Nat} (hc : rgC d c) (he : rgC d e) (heq : nxC d c = nxC d e) : c = e := by
  have h1 := congrArg dA heq
  rw [dA_nxC h hc, dA_nxC h he] at h1
  have o1 := dA_ok hc
  have o2 := dA_ok he
  have key : ∀ x : Da, okD d x → (endOf d x.a x.b) = ((endOf d (leftD d x).a (!(leftD d x).b)).1, ((endOf d (leftD d x).a (!(leftD d x).b)).2 + 1) % 4) := fun x hx => by
    obtain ⟨q1, q2, _⟩ := endD h hx x.b
    have e1 := endOf_back h (c := (endOf d x.a x.b).1) (k := ((endOf d x.a x.b).2 + 3) % 4) (b := !(leftD d x).b) q1 (Nat.mod_lt _ (by decide)) (by show entryB d _ _ = !!(entryB d _ _); rw [Bool.not_not])
    rw [show (leftD d x).a = arcAt d (endOf d x.a x.b).1 (((endOf d x.a x.b).2 + 3) % 4) from rfl, e1]
    exact Prod.ext rfl (by show _ = (((endOf d x.a x.b).2 + 3) % 4 + 1) % 4; omega)
  have k1 := key _ o1
  have k2 := key _ o2
  rw [h1] at k1
  have k3 := k1.trans k2.symm
  have t1 := endOf_there h o1 (dA c).b
  have t2 := endOf_there h o2 (dA e).b
  rw [k3] at t1
  have ea : (dA c).a = (dA e).a := t1.1.symm.trans t2.1
  have eb : (dA c).b = (dA e).b := by
    have := t1.2.symm.trans t2.2
    cases h7 : (dA c).b <;> cases h8 : (dA e).b <;> simp_all
  refine dA_inj ?_
  cases h7 : dA c
  cases h8 : dA e
  rw [h7, h8] at ea eb
  simp only at ea eb
  rw [ea, eb]
theorem onto_of_inj {P : List Int} (f : Int → Int) (hnd : P.Nodup) (hf : ∀ y ∈ P, f y ∈ P) (hinj : ∀ a ∈ P, ∀ b ∈ P, f a = f b → a = b) {x : Int} (hx : x ∈ P) : ∃ z ∈ P, f z = x := by
  refine Classical.byContradiction fun hno => ?_
  have h1 : (P.map f).Nodup := by
    rw [List.nodup_iff_pairwise_ne, List.pairwise_map]
    exact List.Pairwise.imp_of_mem (fun ha hb hab e => hab (hinj _ ha _ hb e)) hnd
  have h2 : x ∉ P.map f := fun h => by
    obtain ⟨z, hz, e⟩ := List.mem_map.1 h
    exact hno ⟨z, hz, e⟩
  have h3 := nodup_le (List.nodup_cons.2 ⟨h2, h1⟩) (ys := P) (fun y hy => by
    rcases List.mem_cons.1 hy with e | hy
    · rw [e]; exact hx
    · obtain ⟨z, hz, e⟩ := List.mem_map.1 hy
      rw [← e]; exact hf z hz)
  rw [List.length_cons, List.length_map] at h3
  omega
theorem ringF_clo {d : Dg} (h : arcsB d = true) (P : List Int) (hP : cloC d P) (hPr : ∀ y ∈ P, ∃ c : Nat, y = (c : Int) ∧ rgC d c) (seen : List Bool) (x : Nat) (acc : List Int) (hm : Marks seen (P ++ acc)) (hl : seen.length = 4 * d.crs.length + 2) (hx : rgC d x)
    (hacc : ∀ y ∈ acc, (∃ c : Nat, y = (c : Int) ∧ rgC d c) ∧ (((nxC d y.toNat : Nat) : Int) ∈ acc ∨ nxC d y.toNat = x)) (hlast : acc = [] ∨ ∃ y ∈ acc, nxC d y.toNat = x) :
    cloC d (ringF (nxC d) seen x acc).2 ∧ ∀ y ∈ (ringF (nxC d) seen x acc).2, ∃ c : Nat, y = (c : Int) ∧ rgC d c := by
  induction hk : free seen using Nat.strongRecOn generalizing seen x acc with
  | _ k ih =>
    by_cases hg : x < seen.length ∧ ga seen x = false
    · rw [ringF_go hg.1 hg.2]
      have hf := free_set hg.1 hg.2
      refine ih (free (seen.set x true)) (by omega) (seen.set x true) (nxC d x) (acc ++ [(x : Int)]) (by rw [← List.append_assoc]; exact marks_set hm hg.1 hg.2) (by rw [List.length_set]; exact hl) (nxC_rng h hx) ?_ (.inr ⟨(x : Int), by simp, rfl⟩) rfl
      intro y hy
      rw [List.mem_append, List.mem_singleton] at hy
      rcases hy with hy | rfl
      · obtain ⟨h1, h2⟩ := hacc y hy
        refine ⟨h1, .inl ?_⟩
        rw [List.mem_append, List.mem_singleton]
        rcases h2 with h2 | h2
        · exact .inl h2
        · exact .inr (by rw [h2])
      · exact ⟨⟨x, rfl, hx⟩, .inr rfl⟩
    · have e : ringF (nxC d) seen x acc = (seen, acc) := by rw [ringF]; simp [hg]
      rw [e]
      refine ⟨?_, fun y hy => (hacc y hy).1⟩
      have hs : ga seen x = true := by
        cases hq : ga seen x with
        | true => rfl
        | false => exact absurd ⟨by rw [hl]; exact hx.2, hq⟩ hg
      have hxm : (x : Int) ∈ P ++ acc := (hm.2 _).2 ⟨x, rfl, by rw [hl]; exact hx.2, hs⟩
      have hxa : (x : Int) ∈ acc ∨ acc = [] := by
        rcases List.mem_append.1 hxm with hp | ha
        · right
          rcases hlast with h0 | ⟨y, hy, hyx⟩
          · exact h0
          · exfalso
            -- an element of P comes before x
            obtain ⟨z, hz, hzx⟩ := onto_of_inj (fun y => ((nxC d y.toNat : Nat) : Int)) (List.nodup_append.1 hm.1).1 hP (fun a ha b hb e9 => by
              obtain ⟨c1, rfl, r1⟩ := hPr a ha
              obtain ⟨c2, rfl, r2⟩ := hPr b hb
              simp only [Int.toNat_natCast] at e9
              rw [nxC_inj h r1 r2 (by omega)]) hp
            obtain ⟨c1, rfl, r1⟩ := hPr z hz
            obtain ⟨⟨c2, rfl, r2⟩, _⟩ := hacc y hy
            simp only [Int.toNat_natCast] at hzx hyx
            have := nxC_inj h r1 r2 (by omega)
            subst this
            exact (List.nodup_append.1 hm.1).2.2 _ hz _ hy rfl
        · exact .inl ha
      intro y hy
      rcases hxa with ha | ha
      · rcases (hacc y hy).2 with h2 | h2
        · exact h2
        · rw [h2]; exact ha
      · have hy' : y ∈ acc := hy
        rw [ha] at hy'
        cases hy'
theorem facesN_marks {d : Dg} (h : arcsB d = true) (k : Nat) (hk : k ≤ 4 * d.crs.length) : Marks (facesN d k).1 (facesN d k).2.flatten ∧ (∀ c, 2 ≤ c → c < k + 2 → ga (facesN d k).1 c = true) ∧ (∀ r ∈ (facesN d k).2, cloC d r ∧ ∀ y ∈ r, ∃ c : Nat, y = (c : Int) ∧ rgC d c) := by
  induction k with
  | zero =>
    refine ⟨⟨by simp [facesN], fun y => ?_⟩, fun c h1 h2 => by omega, fun r hr => by simp [facesN] at hr⟩
    simp only [facesN, List.flatten_nil, List.not_mem_nil, List.length_replicate, false_iff]
    rintro ⟨x, _, h1, h2⟩
    rw [ga_rep _ _ _ h1] at h2
    cases h2
  | succ k ih =>
    obtain ⟨i1, i2, i3⟩ := ih (by omega)
    have hlen := facesN_len d k
    cases hg : ga (facesN d k).1 (k + 2) with
    | true =>
      rw [facesN_skip rfl hg]
      refine ⟨i1, fun c h1 h2 => ?_, i3⟩
      by_cases e : c = k + 2
      · subst e; exact hg
      · exact i2 c h1 (by omega)
    | false =>
      rw [facesN_ring rfl hg rfl]
      dsimp only
      obtain ⟨r1, r2, r3⟩ := ringF_marks (nx := nxC d) (facesN d k).2.flatten (facesN d k).1 (k + 2) [] (by simpa using i1)
      have hc := ringF_clo h (facesN d k).2.flatten (fun y hy => by
          obtain ⟨r, hr, hyr⟩ := List.mem_flatten.1 hy
          exact List.mem_flatten.2 ⟨r, hr, (i3 r hr).1 y hyr⟩) (fun y hy => by
          obtain ⟨r, hr, hyr⟩ := List.mem_flatten.1 hy
          exact (i3 r hr).2 y hyr) (facesN d k).1 (k + 2) [] (by simpa using i1) hlen ⟨by omega, by omega⟩ (fun y hy => by cases hy) (.inl rfl)
      refine ⟨by rw [List.flatten_append]; simpa using r1, fun c h1 h2 => ?_, fun r hr => ?_⟩
      · by_cases e : c = k + 2
        · subst e; exact r3 (by omega)
        · exact r2 c (i2 c h1 (by omega))
      · rcases List.mem_append.1 hr with hr | hr
        · exact i3 r hr
        · rw [List.mem_singleton.1 hr]; exact hc
/-- The faces as codes. -/
def fcsC (d : Dg) : List (List Int) := (facesN d (4 * d.crs.length)).2
theorem facesL_C (d : Dg) : facesL d = (fcsC d).map dasL := rfl
/-- The face of a dart. -/
def fcI (d : Dg) (c : Nat) : Nat := ((List.range (fcsC d).length).find? fun i => decide ((c : Int) ∈ ga (fcsC d) i)).getD 0
theorem fcI_at {d : Dg} (h : arcsB d = true) {c : Nat} (hc : rgC d c) : fcI d c < (fcsC d).length ∧ (c : Int) ∈ ga (fcsC d) (fcI d c) := by
  obtain ⟨i1, i2, i3⟩ := facesN_marks h _ (Nat.le_refl _)
  have hs := i2 c hc.1 hc.2
  have hm : (c : Int) ∈ (fcsC d).flatten := (i1.2 _).2 ⟨c, rfl, by rw [facesN_len]; exact hc.2, hs⟩
  obtain ⟨r, hr, hcr⟩ := List.mem_flatten.1 hm
  obtain ⟨i, hi, rfl⟩ := List.mem_iff_getElem.1 hr
  unfold fcI
  cases hf : (List.range (fcsC d).length).find? fun i => decide ((c : Int) ∈ ga (fcsC d) i) with
  | none =>
    have := List.find?_eq_none.1 hf i (List.mem_range.2 hi)
    rw [ga_eq hi] at this
    simp [hcr] at this
  | some j =>
    have h1 := List.find?_some hf
    have h2 := List.mem_range.1 (List.mem_of_find?_eq_some hf)
    exact ⟨h2, of_decide_eq_true h1⟩
theorem fcI_eq {d : Dg} (h : arcsB d = true) {c i : Nat} (hc : rgC d c) (hi : i < (fcsC d).length) (hm : (c : Int) ∈ ga (fcsC d) i) : fcI d c = i := by
  obtain ⟨h1, h2⟩ := fcI_at h hc
  exact flat_dis2 (facesN_marks h _ (Nat.le_refl _)).1.1 h1 hi h2 hm
theorem fcI_nx {d : Dg} (h : arcsB d = true) {c : Nat} (hc : rgC d c) : fcI d (nxC d c) = fcI d c := by
  obtain ⟨h1, h2⟩ := fcI_at h hc
  refine fcI_eq h (nxC_rng h hc) h1 ?_
  have := ((facesN_marks h _ (Nat.le_refl _)).2.2 (ga (fcsC d) (fcI d c)) (by rw [ga_eq h1]; exact List.getElem_mem _)).1 _ h2
  rwa [Int.toNat_natCast] at this
/-- The dart that leaves a place. -/
def outD (d : Dg) (j : Nat) : Da := ⟨arcJ d j, entryB d (j / 4) (j % 4)⟩
def fcJ (d : Dg) (j : Nat) : Nat := fcI d (dcN (outD d j))
theorem outD_ok {d : Dg} (h : arcsB d = true) {j : Nat} (hj : j < 4 * d.crs.length) : okD d (outD d j) := arcs_rng h hj
theorem outD_nx {d : Dg} (h : arcsB d = true) {a : Nat} (ha : a < 2 * d.crs.length) (b : Bool) : leftD d ⟨((a + 1 : Nat) : Int), b⟩ = outD d (prJ (4 * (endOf d ((a + 1 : Nat) : Int) b).1 + (endOf d ((a + 1 : Nat) : Int) b).2)) := by
  obtain ⟨_, h2, _⟩ := endD h (a := ((a + 1 : Nat) : Int)) (by omega) b
  unfold leftD outD arcJ prJ
  rw [show (4 * ((4 * (endOf d ((a + 1 : Nat) : Int) b).1 + (endOf d ((a + 1 : Nat) : Int) b).2) / 4) + ((4 * (endOf d ((a + 1 : Nat) : Int) b).1 + (endOf d ((a + 1 : Nat) : Int) b).2) % 4 + 3) % 4) / 4 = (endOf d ((a + 1 : Nat) : Int) b).1 by omega,
    show (4 * ((4 * (endOf d ((a + 1 : Nat) : Int) b).1 + (endOf d ((a + 1 : Nat) : Int) b).2) / 4) + ((4 * (endOf d ((a + 1 : Nat) : Int) b).1 + (endOf d ((a + 1 : Nat) : Int) b).2) % 4 + 3) % 4) % 4 = ((endOf d ((a + 1 : Nat) : Int) b).2 + 3) % 4 by omega]
def enJ (d : Dg) (b : Bool) (a : Nat) : Nat := 4 * (endOf d ((a + 1 : Nat) : Int) b).1 + (endOf d ((a + 1 : Nat) : Int) b).2
theorem enJ_at {d : Dg} (h : arcsB d = true) {a : Nat} (ha : a < 2 * d.crs.length) (b : Bool) : enJ d b a < 4 * d.crs.length ∧ outD d (enJ d b a) = ⟨((a + 1 : Nat) : Int), !b⟩ ∧ enJ d b a / 4 = (endOf d ((a + 1 : Nat) : Int) b).1 := by
  obtain ⟨h1, h2, _⟩ := endD h (a := ((a + 1 : Nat) : Int)) (by omega) b
  obtain ⟨t1, t2⟩ := endOf_there h (a := ((a + 1 : Nat) : Int)) (by omega) b
  have e1 : enJ d b a / 4 = (endOf d ((a + 1 : Nat) : Int) b).1 := by unfold enJ; omega
  have e2 : enJ d b a % 4 = (endOf d ((a + 1 : Nat) : Int) b).2 := by unfold enJ; omega
  refine ⟨by unfold enJ; omega, ?_, e1⟩
  unfold outD arcJ
  rw [e1, e2, t1, t2]
theorem cn_full {P : Nat → Bool} {N : Nat} (h : ∀ x, x < N → P x = true) : cn P N = N := by
  induction N with
  | zero => rfl
  | succ N ih => rw [cn, ih (fun x hx => h x (by omega)), if_pos (h N (by omega))]
theorem one_iff0 {d : Dg} (h : arcsB d = true) : (pcsL d).length = 1 → 0 < d.crs.length := fun h1 => by
  obtain ⟨_, c0, hc0, _⟩ := (pcs h).el 0 (by show 0 < (pcsL d).length; omega)
  omega
theorem mp4_of {d : Dg} (h : arcsB d = true) (hone : (pcsL d).length = 1) (hpl : planP d = true) : Mp4 d.crs.length (enJ d false) (enJ d true) (fun j => (arcJ d j).toNat - 1) (fcJ d) ∧ (fcsC d).length = d.crs.length + 2 := by
  have hn0 : 0 < d.crs.length := one_iff0 h hone
  have hfn : (fcsC d).length = d.crs.length + 2 := by
    unfold planP at hpl
    rw [List.all_eq_true] at hpl
    have h1 := of_decide_eq_true (hpl 0 (List.mem_range.2 (by omega)))
    rw [fcN_cn d 0 (by omega), piece_cn h (by omega)] at h1
    have all1 : ∀ x, x < d.crs.length → pcI d x = 0 := fun x hx => by have := (pcI_lt h hx).1; omega
    have e1 : cn (fun x => decide (pcI d x = 0)) d.crs.length = d.crs.length := cn_full fun x hx => decide_eq_true (all1 x hx)
    have e2 : cn (fun x => decide (pcI d (fcC d x) = 0)) (facesL d).length = (facesL d).length := cn_full fun x hx => decide_eq_true (all1 _ (fcC_lt h hx))
    rw [e1, e2, facesL_C, List.length_map] at h1
    omega
  refine ⟨⟨fun a ha => ?_, fun j hj => ?_, fun a ha => ?_, fun j hj => ?_, fun i hi => ?_, fun Z hZ x y hx hy hz => ?_⟩, hfn⟩
  · obtain ⟨a1, a2, a3⟩ := enJ_at h ha false
    obtain ⟨b1, b2, b3⟩ := enJ_at h ha true
    have q1 : arcJ d (enJ d false a) = ((a + 1 : Nat) : Int) := congrArg Da.a a2
    have q2 : arcJ d (enJ d true a) = ((a + 1 : Nat) : Int) := congrArg Da.a b2
    refine ⟨a1, b1, fun e => ?_, ?_, ?_⟩
    · rw [e, b2] at a2
      have := congrArg Da.b a2
      simp at this
    · rw [q1]; omega
    · rw [q2]; omega
  · have hr := arcs_rng h hj
    refine ⟨by omega, ?_⟩
    have e0 : (((arcJ d j).toNat - 1 + 1 : Nat) : Int) = arcJ d j := by omega
    have key : ∀ b, entryB d (j / 4) (j % 4) = !b → j = enJ d b ((arcJ d j).toNat - 1) := fun b hb => by
      have := endOf_back h (c := j / 4) (k := j % 4) (b := b) (by omega) (by omega) hb
      unfold enJ
      rw [e0]
      unfold arcJ
      rw [this]
      dsimp only
      omega
    cases hb : entryB d (j / 4) (j % 4) with
    | true => exact .inl (key false hb)
    | false => exact .inr (key true hb)
  · have key : ∀ b, fcJ d (enJ d (!b) a) = fcJ d (prJ (enJ d b a)) := fun b => by
      obtain ⟨a1, a2, a3⟩ := enJ_at h ha (!b)
      rw [Bool.not_not] at a2
      unfold fcJ
      have ho : okD d (outD d (enJ d (!b) a)) := outD_ok h a1
      rw [a2] at ho ⊢
      have h1 := fcI_nx h (dcN_rng ho)
      rw [← h1]
      unfold nxC
      rw [dA_dcN (by have := ho.1; simp only at this ⊢; omega), outD_nx h ha b]
      rfl
    exact ⟨key true, key false⟩
  · have := (fcI_at h (dcN_rng (outD_ok h hj))).1
    rw [hfn] at this
    exact this
  · obtain ⟨c, t, hr, c1, c2⟩ := facesN_head d _ (Nat.le_refl _) (ga (fcsC d) i) (by rw [ga_eq (by omega)]; exact List.getElem_mem _)
    have hrc : rgC d c := ⟨c1, c2⟩
    have hi9 := fcI_eq h hrc (i := i) (by omega) (by rw [hr]; simp)
    have ho := dA_ok hrc
    have ho1 := ho.1
    have ho2 := ho.2
    obtain ⟨a1, a2, a3⟩ := enJ_at h (a := (dA c).a.toNat - 1) (by omega) (!(dA c).b)
    refine ⟨enJ d (!(dA c).b) ((dA c).a.toNat - 1), a1, ?_⟩
    unfold fcJ
    rw [a2, Bool.not_not, show (((dA c).a.toNat - 1 + 1 : Nat) : Int) = (dA c).a by omega]
    show fcI d (dcN (dA c)) = i
    rw [dcN_dA]
    exact hi9
  · refine pieces_join h Z (fun u s hu hs => ?_) hx hy (by have := (pcI_lt h hx).1; have := (pcI_lt h hy).1; omega) hz
    obtain ⟨k, hk, hh⟩ := edge_nb h hu hs
    have := hZ k hk
    rw [(enJ_at h hk false).2.2, (enJ_at h hk true).2.2] at this
    unfold endC at hh
    rcases hh with ⟨g1, g2⟩ | ⟨g1, g2⟩
    · rw [g1, g2] at this; exact this
    · rw [g1, g2] at this; exact this.symm
end Go.Proofs.Ythppkofceancjaa
