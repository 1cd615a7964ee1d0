/- Part 5 of the proof of the law HomflyTells: the walks through its functions and the plain laws that they need. -/
import Derived.Test.YthppkofceancjaaGreatHfZ4
set_option linter.unusedSimpArgs false
set_option linter.unusedVariables false
namespace Go.Proofs.YthppkofceancjaaGreat
open Go.ChangeShapes Go.WideShapes Go.ChangeAt Go.RowKit
/-- The crossing that lies across the arc at a crossing's side; the search for a piece; the pieces. -/
def nbC (d : Dg) (x k : Nat) : Nat := (endOf d (arcAt d x k) (entryB d x k)).1
def addS (s : List Bool × List Int) (y : Nat) : List Bool × List Int := if ga s.1 y = true then s else (s.1.set y true, s.2 ++ [(y : Int)])
def bfsS (d : Dg) (x : Nat) (s : List Bool × List Int) : Nat → List Bool × List Int
 | 0 => s
 | k + 1 => addS (bfsS d x s k) (nbC d x k)
def bfsN (d : Dg) : Nat → Nat → List Bool × List Int → List Bool × List Int
 | 0, _, s => s
 | f + 1, i, s => if i < s.2.length then bfsN d f (i + 1) (bfsS d (ga s.2 i).toNat s 4) else s
def pcsN (d : Dg) : Nat → List Bool × List (List Int)
 | 0 => (List.replicate d.crs.length false, [])
 | c + 1 => if ga (pcsN d c).1 c = true then pcsN d c else ((bfsN d d.crs.length 0 ((pcsN d c).1.set c true, [(c : Int)])).1, (pcsN d c).2 ++ [srt (bfsN d d.crs.length 0 ((pcsN d c).1.set c true, [(c : Int)])).2])
def pcsL (d : Dg) : List (List Int) := (pcsN d d.crs.length).2
theorem bfsN_stop {d : Dg} {f i : Nat} {s : List Bool × List Int} (h : s.2.length ≤ i) : bfsN d f i s = s := by
 cases f with
 | zero => rfl
 | succ f => rw [bfsN, if_neg (by omega)]
theorem bfsN_go {d : Dg} {f i x : Nat} {s s' : List Bool × List Int} (h : i < s.2.length) (hx : ga s.2 i = (x : Int)) (hs : bfsS d x s 4 = s') : bfsN d (f + 1) i s = bfsN d f (i + 1) s' := by
 rw [bfsN, if_pos h, hx, Int.toNat_natCast, hs]
theorem pcsN_skip {d : Dg} {c : Nat} {s : List Bool × List (List Int)} (h : pcsN d c = s) (hg : ga s.1 c = true) : pcsN d (c + 1) = s := by
 rw [pcsN, h, if_pos hg]
theorem pcsN_add {d : Dg} {c : Nat} {s : List Bool × List (List Int)} {r : List Bool × List Int} (h : pcsN d c = s) (hg : ga s.1 c = false) (hr : bfsN d d.crs.length 0 (s.1.set c true, [(c : Int)]) = r) : pcsN d (c + 1) = (r.1, s.2 ++ [srt r.2]) := by
 rw [pcsN, h, if_neg (by rw [hg]; exact Bool.false_ne_true), hr]
theorem bfsN_len (d : Dg) (f i : Nat) (s : List Bool × List Int) : (bfsN d f i s).1.length = s.1.length := by
 have h1 : ∀ x s k, (bfsS d x s k).1.length = s.1.length := fun x s k => by
  induction k with
  | zero => rfl
  | succ k ih => rw [bfsS, addS]; split <;> simp [ih]
 induction f generalizing i s with
 | zero => rfl
 | succ f ih => rw [bfsN]; split <;> simp [ih, h1]
theorem pcsN_len (d : Dg) (c : Nat) : (pcsN d c).1.length = d.crs.length := by
 induction c with
 | zero => simp [pcsN]
 | succ c ih => rw [pcsN]; split <;> simp [ih, bfsN_len]
theorem pcsN_many (d : Dg) (c : Nat) : (pcsN d c).2.length ≤ c := by
 induction c with
 | zero => simp [pcsN]
 | succ c ih => rw [pcsN]; split; exact Nat.le_succ_of_le ih; rw [List.length_append]; show _ + 1 ≤ _; omega
theorem nbC_lt {d : Dg} (h : arcsB d = true) {x k : Nat} (hx : x < d.crs.length) (hk : k < 4) : nbC d x k < d.crs.length := (endD h (arcAt_bd h hx hk) _).1
noncomputable def Pieces_n0 : Code := Tryz.f105.body.getD .skip
noncomputable def Pieces_n1 : Code := cL Pieces_n0
noncomputable def Pieces_n2 : Code := cR Pieces_n0
noncomputable def Pieces_n3 : Code := cL Pieces_n2
noncomputable def Pieces_n4 : Code := cR Pieces_n2
noncomputable def Pieces_n5 : Code := cL Pieces_n4
noncomputable def Pieces_n6 : Code := cR Pieces_n4
noncomputable def Pieces_n7 : Code := cL Pieces_n6
noncomputable def Pieces_n8 : Code := cR Pieces_n6
noncomputable def Pieces_n9 : Code := cL Pieces_n7
noncomputable def Pieces_n10 : Code := cR Pieces_n7
noncomputable def Pieces_n11 : Code := cL Pieces_n10
noncomputable def Pieces_n12 : Code := cL Pieces_n11
noncomputable def Pieces_n13 : Code := cL Pieces_n12
noncomputable def Pieces_n14 : Code := cR Pieces_n12
noncomputable def Pieces_n15 : Code := cL Pieces_n14
noncomputable def Pieces_n16 : Code := cR Pieces_n14
noncomputable def Pieces_n17 : Code := cL Pieces_n15
noncomputable def Pieces_n18 : Code := cR Pieces_n15
noncomputable def Pieces_n19 : Code := cL Pieces_n16
noncomputable def Pieces_n20 : Code := cR Pieces_n16
noncomputable def Pieces_n21 : Code := cL Pieces_n19
noncomputable def Pieces_n22 : Code := cL Pieces_n21
noncomputable def Pieces_n23 : Code := cR Pieces_n21
noncomputable def Pieces_n24 : Code := cL Pieces_n23
noncomputable def Pieces_n25 : Code := cR Pieces_n23
noncomputable def Pieces_n26 : Code := cL Pieces_n24
noncomputable def Pieces_n27 : Code := cR Pieces_n24
noncomputable def Pieces_n28 : Code := cL Pieces_n27
noncomputable def Pieces_n29 : Code := cR Pieces_n27
noncomputable def Pieces_n30 : Code := cL Pieces_n25
noncomputable def Pieces_n31 : Code := cR Pieces_n25
noncomputable def Pieces_n32 : Code := cL Pieces_n31
noncomputable def Pieces_n33 : Code := cR Pieces_n31
noncomputable def Pieces_n34 : Code := cL Pieces_n33
noncomputable def Pieces_n35 : Code := cR Pieces_n33
noncomputable def Pieces_n36 : Code := cL Pieces_n34
noncomputable def Pieces_n37 : Code := cR Pieces_n34
noncomputable def Pieces_n38 : Code := cL Pieces_n37
noncomputable def Pieces_n39 : Code := cL Pieces_n38
noncomputable def Pieces_n40 : Code := cL Pieces_n39
noncomputable def Pieces_n41 : Code := cR Pieces_n39
noncomputable def Pieces_n42 : Code := cL Pieces_n40
noncomputable def Pieces_n43 : Code := cR Pieces_n40
noncomputable def Pieces_n44 : Code := cL Pieces_n43
noncomputable def Pieces_n45 : Code := cR Pieces_n43
noncomputable def Pieces_n46 : Code := cL Pieces_n41
noncomputable def Pieces_n47 : Code := cR Pieces_n41
noncomputable def Pieces_n48 : Code := cL Pieces_n46
noncomputable def Pieces_n49 : Code := cL Pieces_n48
noncomputable def Pieces_n50 : Code := cR Pieces_n48
noncomputable def Pieces_n51 : Code := cL Pieces_n50
noncomputable def Pieces_n52 : Code := cL Pieces_n51
noncomputable def Pieces_n53 : Code := cL Pieces_n52
noncomputable def Pieces_n54 : Code := cR Pieces_n52
noncomputable def Pieces_n55 : Code := cL Pieces_n54
noncomputable def Pieces_n56 : Code := cR Pieces_n54
noncomputable def Pieces_n57 : Code := cL Pieces_n55
noncomputable def Pieces_n58 : Code := cR Pieces_n55
noncomputable def Pieces_n59 : Code := cL Pieces_n56
noncomputable def Pieces_n60 : Code := cR Pieces_n56
noncomputable def Pieces_n61 : Code := cL Pieces_n59
noncomputable def Pieces_n62 : Code := cL Pieces_n61
noncomputable def Pieces_n63 : Code := cR Pieces_n61
noncomputable def Pieces_n64 : Code := cL Pieces_n63
noncomputable def Pieces_n65 : Code := cR Pieces_n63
noncomputable def Pieces_n66 : Code := cL Pieces_n65
noncomputable def Pieces_n67 : Code := cR Pieces_n65
noncomputable def Pieces_n68 : Code := cL Pieces_n67
noncomputable def Pieces_n69 : Code := cR Pieces_n67
noncomputable def Pieces_n70 : Code := cL Pieces_n68
noncomputable def Pieces_n71 : Code := cR Pieces_n68
noncomputable def Pieces_n72 : Code := cL Pieces_n35
noncomputable def Pieces_n73 : Code := cR Pieces_n35
noncomputable def Pieces_n74 : Code := cL Pieces_n8
noncomputable def Pieces_n75 : Code := cR Pieces_n8
set_option maxHeartbeats 1000000 in
set_option maxRecDepth 10000 in
theorem Pieces_t {w : World} {M : Hp} {X : Fr} (d : Dg) {gsh : Nat} {cA iA oA : Option Addr} {cc ic oc : Nat} (hsb : BxM (M.un X.h) gsh 70 [.slice cA d.crs.length cc, .int .i64 d.loops, .slice iA (tabL d false (4 * d.crs.length)).length ic, .slice oA (tabL d true (4 * d.crs.length)).length oc]) (hsc : RdA cdCr (M.un X.h) cA cc d.crs) (hsi : RdA cdPl (M.un X.h) iA ic (tabL d false (4 * d.crs.length))) (hso : RdA cdPl (M.un X.h) oA oc (tabL d true (4 * d.crs.length))) (hn : d.crs.length ≤ 16) (hab : arcsB d = true) (S : SH w M X []) : Ct Tryz.prog 105 [.pointer (some ⟨gsh, 0, none⟩)] w M X (fun u M => ∃ A c vs, u = .slice A vs.length c ∧ RdA (cdV 53) M A c vs ∧ Rd2 cdInt M vs (pcsL d)) := by
 unfold Ct
 refine calls_in (b := Pieces_n0) Tryz.func105 rfl Tryz.ntmps105 rfl (fun C hC => (ws_sub [(0, _)] ⟨rfl, trivial⟩ (ws_seqN Pieces_n1 Pieces_n2 rfl rfl rfl (ws_region rfl (wla 0 1 rfl rfl rfl rfl rfl rfl rfl (wl_end rfl (nmk [0] rfl (nm_thn (ws_seqN Pieces_n3 Pieces_n4 rfl rfl rfl ?_)))))))))
 refine ws_region rfl (wlm 0 1 rfl rfl rfl rfl rfl rfl rfl (wlo 1 2 rfl rfl rfl (wo_run rfl rfl (run_nilCheck rfl rfl) (wlo 2 3 rfl rfl rfl (wo_run rfl rfl (run_fieldAddr rfl rfl Tryz.underlying70 rfl (ce24) (nf24)) (wlo 3 4 rfl rfl rfl (wo_run rfl rfl (run_fieldAddr rfl rfl Tryz.underlying24 rfl (ce22) (nf22)) (wlo 4 5 rfl rfl rfl (wo_run rfl rfl (run_load1 rfl rfl Tryz.underlying22 rfl (hsb.cell S.um rfl)) (wlo 5 6 rfl rfl rfl (wo_run rfl rfl (run_len rfl rfl rfl rfl rfl rfl Tryz.underlying22) (wlo 6 7 rfl rfl rfl (wo_make (C := cdBool) d.crs.length rfl rfl rfl rfl rfl sl130 (by first | rfl | omega) (by show _ * 1 ≤ _; first | omega | (simp only [lens]; omega)) S ?_)))))))))))))
 intro vr1 w1 S1; clear S
 refine wla 7 8 rfl rfl rfl rfl rfl rfl rfl (wl_end rfl (nmk [0, 3] rfl (nm_thn (ws_seqN Pieces_n5 Pieces_n6 rfl rfl rfl (ws_region rfl (wla 0 1 rfl rfl rfl rfl rfl rfl rfl (wl_end rfl (nm_thn ?_))))))))
 refine ws_seqN Pieces_n7 Pieces_n8 rfl rfl rfl (ws_seqN Pieces_n9 Pieces_n10 rfl rfl rfl (ws_region rfl (wlm 0 1 rfl rfl rfl rfl rfl rfl rfl (wlo 1 2 rfl rfl rfl (wo_run rfl rfl (run_nilCheck rfl rfl) (wlo 2 3 rfl rfl rfl (wo_run rfl rfl (run_fieldAddr rfl rfl Tryz.underlying70 rfl (ce24) (nf24)) (wlo 3 4 rfl rfl rfl (wo_run rfl rfl (run_fieldAddr rfl rfl Tryz.underlying24 rfl (ce22) (nf22)) (wlo 4 5 rfl rfl rfl (wo_run rfl rfl (run_load1 rfl rfl Tryz.underlying22 rfl (hsb.cell S1.um rfl)) (wlo 5 6 rfl rfl rfl (wo_run rfl rfl (run_len rfl rfl rfl rfl rfl rfl Tryz.underlying22) ?_)))))))))))))
 refine wlm 6 7 rfl rfl rfl rfl rfl rfl rfl (wl_end rfl (nmk [0, 3, 4, 22, 23] rfl (nm_thn (ws_blockN Pieces_n11 0 rfl rfl rfl ?_))))
 have S2 := S1.nilrow (cdV 53); clear S1
 refine ws_loopE (fun mx_ ax_ wx_ => ∃ (c : Nat) (seen : List Bool) (vs : List SlV) (pss : List (List Int)) (vrs : Value) (vro : Value) (M1 : Hp), M.le M1 ∧ mx_ = d.crs.length - c ∧ Env 74 [(0, .pointer (some ⟨gsh, 0, none⟩)), (3, vrs), (4, vro), (22, .int .i64 (d.crs.length : Int)), (23, .int .i64 (c : Int))] ax_ ∧ SH wx_ M1 X [Rs.row (cdV 53) vro vs, Rs.row cdBool vrs seen] ∧ c ≤ d.crs.length ∧ pcsN d c = (seen, pss) ∧ Rd2 cdInt M1 vs pss) rfl ?_ ?_
 ·intro ax_ hax_
  refine ⟨_, ⟨0, _, _, [], _, _, _, Hp.le_refl _, rfl, hax_.sub ⟨rfl, rfl, rfl, rfl, rfl, trivial⟩, S2.pick [0, 1] [_, _] (by decide) ⟨rfl, rfl, trivial⟩, ?hq1f0, ?hq1f1, ?hq1f2⟩⟩
  case hq1f0 => omega
  case hq1f1 => rfl
  case hq1f2 => first | exact Rd2.nil_ | (rw [e9]; exact Rd2.nil_)
 ·rintro m1 a1 w2 ⟨c, seen, vs, pss, vrs, vro, M1, hle1, rfl, he1, S3, hc, hpn, hdo⟩
  clear S2
  refine ws_in he1 (c := Pieces_n12) rfl ?_
  clear he1 a1
  replace hsb := hsb.mono (Hp.un_mono hle1 S3.mx)
  replace hsc := hsc.mono (Hp.un_mono hle1 S3.mx)
  replace hsi := hsi.mono (Hp.un_mono hle1 S3.mx)
  replace hso := hso.mono (Hp.un_mono hle1 S3.mx)
  have hvs := hdo.1
  have hmany := pcsN_many d c
  rw [hpn] at hmany
  replace hmany : pss.length ≤ c := hmany
  have hsl : seen.length = d.crs.length := by have h9 := pcsN_len d c; rw [hpn] at h9; exact h9
  refine ws_seqN Pieces_n13 Pieces_n14 rfl rfl rfl (ws_region rfl (wlo 0 1 rfl rfl rfl (wo_run rfl rfl (run_lss rfl rfl rfl) (wl_end rfl (nm_thn (ws_seqN Pieces_n15 Pieces_n16 rfl rfl rfl ?_))))))
  refine ws_condN Pieces_n17 Pieces_n18 rfl rfl rfl rfl (fun hb24 => ?_) (fun hb24 => ?_)
  ·replace hb24 := of_decide_eq_true hb24
   refine ws_skip rfl (nmk [0, 3, 4, 22, 23] rfl (nm_thn (ws_seqN Pieces_n19 Pieces_n20 rfl rfl rfl (ws_blockN Pieces_n21 1 rfl rfl rfl (ws_seqN Pieces_n22 Pieces_n23 rfl rfl rfl (ws_region rfl (wlm 0 1 rfl rfl rfl rfl rfl rfl rfl (wla 1 2 rfl rfl rfl rfl rfl rfl rfl ?_))))))))
   refine wl_end rfl (nmk [0, 3, 4, 22, 23, 5] rfl (nm_thn (ws_seqN Pieces_n24 Pieces_n25 rfl rfl rfl (ws_seqN Pieces_n26 Pieces_n27 rfl rfl rfl (ws_region rfl (wlm 0 1 rfl rfl rfl rfl rfl rfl rfl (wlm 1 2 rfl rfl rfl rfl rfl rfl rfl (wlo 2 3 rfl rfl rfl (wo_run rfl rfl (run_indexR (C := cdBool) (i := 1) c rfl rfl rfl sl130 S3 rfl (by first | rfl | omega) (by first | omega | (simp only [lens]; omega))) ?_)))))))))
   refine wlo 3 4 rfl rfl rfl (wo_run rfl rfl (run_load1 rfl rfl Tryz.underlying4 rfl (S3.rowc (i := 1) (e := c) (j := 0) rfl (by first | omega | (simp only [lens]; omega)) rfl rfl)) ?_)
   refine wl_end rfl (nmk [0, 3, 4, 22, 23, 5, 29] rfl (nm_thn ?_))
   refine ws_condN Pieces_n28 Pieces_n29 rfl rfl rfl rfl (fun hb29 => ?_) (fun hb29 => ?_)
   ·refine ws_exit rfl rfl (nmk [0, 3, 4, 22, 23] rfl (nm_thn (ws_region rfl (wlo 0 1 rfl rfl rfl (wo_run rfl rfl (run_add rfl rfl rfl (by first | omega | (simp only [lens]; omega))) ?_)))))
    refine wlm 1 2 rfl rfl rfl rfl rfl rfl rfl (wl_end rfl (nm_lp ?_))
    intro ax_ hax_
    refine ⟨_, ?hq2m, ⟨c + 1, _, _, pss, _, _, _, (hle1), rfl, hax_.sub ⟨rfl, rfl, rfl, rfl, rfl, trivial⟩, S3.pick [0, 1] [_, _] (by decide) ⟨rfl, rfl, trivial⟩, ?hq2f0, ?hq2f1, ?hq2f2⟩⟩
    case hq2f0 => omega
    case hq2f1 => first | exact pcsN_skip hpn hb29 | exact pcsN_add hpn (by simpa using hb29) (hbf.trans (bfsN_stop (by show l.length ≤ i; omega)))
    case hq2f2 => first | exact hdo | (rw [e9]; exact hdo)
    case hq2m => omega
   ·refine ws_skip rfl (nmk [0, 3, 4, 22, 23, 5] rfl (nm_thn (ws_seqN Pieces_n30 Pieces_n31 rfl rfl rfl (ws_region rfl (wlm 0 1 rfl rfl rfl rfl rfl rfl rfl (wlm 1 2 rfl rfl rfl rfl rfl rfl rfl (wlo 2 3 rfl rfl rfl (wo_run rfl rfl (run_indexR (C := cdBool) (i := 1) c rfl rfl rfl sl130 S3 rfl (by first | rfl | omega) (by first | omega | (simp only [lens]; omega))) ?_))))))))
    refine wlo 3 4 rfl rfl rfl (wo_storeR (C := cdBool) (i := 1) (e := c) (j := 0) (us := [_]) (H' := [_, _]) true rfl rfl S3 rfl (by first | omega | (simp only [lens]; omega)) rfl rfl rfl sz4 rfl rfl rfl rfl ?_)
    intro w3 S4; clear S3
    refine wl_end rfl (nmk [0, 3, 4, 22, 23, 5] rfl (nm_thn (ws_seqN Pieces_n32 Pieces_n33 rfl rfl rfl (ws_region rfl (wlm 0 1 rfl rfl rfl rfl rfl rfl rfl (wlo 1 2 rfl rfl rfl (wo_buildSlice1 (C := cdInt) (l := [_]) rfl rfl rfl rfl sl53 rfl rfl rfl rfl S4 ?_)))))))
    intro gb1 w4 S5; clear S4
    refine wla 2 3 rfl rfl rfl rfl rfl rfl rfl (wl_end rfl (nmk [0, 3, 4, 22, 23, 6] rfl (nm_thn (ws_seqN Pieces_n34 Pieces_n35 rfl rfl rfl (ws_seqN Pieces_n36 Pieces_n37 rfl rfl rfl (ws_region rfl (wla 0 1 rfl rfl rfl rfl rfl rfl rfl (wl_end rfl ?_))))))))
    refine nm_thn (ws_blockN Pieces_n38 2 rfl rfl rfl ?_)
    have S6 := S5.boxrow (C := cdInt) [(c : Int)] (i := 0) (H' := [_, _, _]) rfl rfl (by simp) rfl; clear S5
    obtain ⟨vr3, er3⟩ : ∃ v, v = Value.slice (some ⟨gb1, 0, none⟩) ([(c : Int)]).length ([(c : Int)]).length := ⟨_, rfl⟩
    rw [← er3] at S6
    refine ws_eq 6 (vr3) rfl er3.symm ?_
    refine ws_loopE (fun mx_ ax_ wx_ => ∃ (i : Nat) (seen2 : List Bool) (l : List Int) (vrs2 : Value) (vrl : Value), mx_ = d.crs.length - i ∧ Env 74 [(0, .pointer (some ⟨gsh, 0, none⟩)), (3, vrs2), (4, vro), (22, .int .i64 (d.crs.length : Int)), (23, .int .i64 (c : Int)), (6, vrl), (7, .int .i64 (i : Int))] ax_ ∧ SH wx_ M1 X [Rs.row cdInt vrl l, Rs.row (cdV 53) vro vs, Rs.row cdBool vrs2 seen2] ∧ bfsN d d.crs.length 0 (seen.set c true, [(c : Int)]) = bfsN d (d.crs.length - i) i (seen2, l) ∧ i ≤ l.length ∧ l.length + free seen2 ≤ d.crs.length ∧ (∀ y, y ∈ l → 0 ≤ y ∧ y < (d.crs.length : Int)) ∧ seen2.length = d.crs.length) rfl ?_ ?_
    ·intro ax_ hax_
     refine ⟨_, ⟨0, _, _, _, _, rfl, hax_.sub ⟨rfl, rfl, rfl, rfl, rfl, rfl, rfl, trivial⟩, S6.pick [0, 1, 2] [_, _, _] (by decide) ⟨rfl, rfl, rfl, trivial⟩, ?hq3f0, ?hq3f1, ?hq3f2, ?hq3f3, ?hq3f4⟩⟩
     case hq3f0 => rfl
     case hq3f1 => (exact Nat.zero_le _)
     case hq3f2 => (have h8 := free_set (seen := seen) (x := c) (by omega) (by simpa using hb29); have h9 : free seen ≤ seen.length := List.countP_le_length; show 1 + _ ≤ _; omega)
     case hq3f3 => (intro y hy; rw [List.mem_singleton] at hy; subst hy; omega)
     case hq3f4 => (rw [List.length_set]; exact hsl)
    ·rintro m2 a2 w5 ⟨i, seen2, l, vrs2, vrl, rfl, he2, S7, hbf, hi, hfr, hin, hs2⟩
     clear S6
     refine ws_in he2 (c := Pieces_n39) rfl ?_
     clear he2 a2
     refine ws_seqN Pieces_n40 Pieces_n41 rfl rfl rfl (ws_seqN Pieces_n42 Pieces_n43 rfl rfl rfl (ws_region rfl (wlm 0 1 rfl rfl rfl rfl rfl rfl rfl (wlm 1 2 rfl rfl rfl rfl rfl rfl rfl (wlo 2 3 rfl rfl rfl (wo_run rfl rfl (run_lenR (C := cdInt) (i := 0) rfl rfl rfl rfl rfl rfl sl53 S7 rfl) (wlo 3 4 rfl rfl rfl (wo_run rfl rfl (run_lss rfl rfl rfl) (wl_end rfl (nmk [0, 3, 4, 22, 23, 6, 7, 38] rfl ?_))))))))))
     refine nm_thn ?_
     refine ws_condN Pieces_n44 Pieces_n45 rfl rfl rfl rfl (fun hb38 => ?_) (fun hb38 => ?_)
     ·replace hb38 := of_decide_eq_true hb38
      have hil : i < l.length := by omega
      have hxm := hin (ga l i) (by rw [ga_eq hil]; exact List.getElem_mem hil)
      obtain ⟨x, hx⟩ : ∃ x : Nat, ga l i = (x : Int) := ⟨(ga l i).toNat, by omega⟩
      have hxn : x < d.crs.length := by omega
      refine ws_skip rfl (nmk [0, 3, 4, 22, 23, 6, 7] rfl (nm_thn (ws_seqN Pieces_n46 Pieces_n47 rfl rfl rfl (ws_blockN Pieces_n48 3 rfl rfl rfl (ws_seqN Pieces_n49 Pieces_n50 rfl rfl rfl (ws_region rfl (wlm 0 1 rfl rfl rfl rfl rfl rfl rfl (wl_end rfl ?_))))))))
      refine nm_thn (ws_blockN Pieces_n51 4 rfl rfl rfl ?_)
      refine ws_loopE (fun mx_ ax_ wx_ => ∃ (k : Nat) (seen3 : List Bool) (l3 : List Int) (vrs3 : Value) (vrl3 : Value), mx_ = 4 - k ∧ Env 74 [(0, .pointer (some ⟨gsh, 0, none⟩)), (3, vrs3), (4, vro), (22, .int .i64 (d.crs.length : Int)), (23, .int .i64 (c : Int)), (6, vrl3), (7, .int .i64 (i : Int)), (41, .int .i64 (k : Int))] ax_ ∧ SH wx_ M1 X [Rs.row cdInt vrl3 l3, Rs.row (cdV 53) vro vs, Rs.row cdBool vrs3 seen3] ∧ k ≤ 4 ∧ bfsS d x (seen2, l) k = (seen3, l3) ∧ l3.length + free seen3 ≤ d.crs.length ∧ (∀ y, y ∈ l3 → 0 ≤ y ∧ y < (d.crs.length : Int)) ∧ seen3.length = d.crs.length ∧ i < l3.length ∧ ga l3 i = (x : Int)) rfl ?_ ?_
      ·intro ax_ hax_
       refine ⟨_, ⟨0, _, _, _, _, rfl, hax_.sub ⟨rfl, rfl, rfl, rfl, rfl, rfl, rfl, rfl, trivial⟩, S7.pick [0, 1, 2] [_, _, _] (by decide) ⟨rfl, rfl, rfl, trivial⟩, ?hq4f0, ?hq4f1, ?hq4f2, ?hq4f3, ?hq4f4, ?hq4f5, ?hq4f6⟩⟩
       case hq4f0 => omega
       case hq4f1 => rfl
       case hq4f2 => exact hfr
       case hq4f3 => exact hin
       case hq4f4 => exact hs2
       case hq4f5 => omega
       case hq4f6 => exact hx
      ·rintro m3 a3 w6 ⟨k, seen3, l3, vrs3, vrl3, rfl, he3, S8, hk, hbs, hfr3, hin3, hs3, hi3, hx3⟩
       clear S7
       refine ws_in he3 (c := Pieces_n52) rfl ?_
       clear he3 a3
       refine ws_seqN Pieces_n53 Pieces_n54 rfl rfl rfl (ws_region rfl (wlo 0 1 rfl rfl rfl (wo_run rfl rfl (run_lss rfl rfl rfl) (wl_end rfl (nm_thn (ws_seqN Pieces_n55 Pieces_n56 rfl rfl rfl ?_))))))
       refine ws_condN Pieces_n57 Pieces_n58 rfl rfl rfl rfl (fun hb42 => ?_) (fun hb42 => ?_)
       ·replace hb42 := of_decide_eq_true hb42
        refine ws_skip rfl (nmk [0, 3, 4, 22, 23, 6, 7, 41] rfl (nm_thn (ws_seqN Pieces_n59 Pieces_n60 rfl rfl rfl (ws_blockN Pieces_n61 5 rfl rfl rfl (ws_seqN Pieces_n62 Pieces_n63 rfl rfl rfl (ws_region rfl (wlm 0 1 rfl rfl rfl rfl rfl rfl rfl (wla 1 2 rfl rfl rfl rfl rfl rfl rfl ?_))))))))
        refine wl_end rfl (nmk [0, 3, 4, 22, 23, 6, 7, 41, 8] rfl (nm_thn (ws_seqN Pieces_n64 Pieces_n65 rfl rfl rfl (ws_region rfl (wlm 0 1 rfl rfl rfl rfl rfl rfl rfl (wlm 1 2 rfl rfl rfl rfl rfl rfl rfl (wlm 2 3 rfl rfl rfl rfl rfl rfl rfl (wlo 3 4 rfl rfl rfl (wo_run rfl rfl (run_indexR (C := cdInt) (i := 0) i rfl rfl rfl sl53 S8 rfl (by first | rfl | omega) (by first | omega | (simp only [lens]; omega))) ?_)))))))))
        refine wlo 4 5 rfl rfl rfl (wo_run rfl rfl (run_load1 rfl rfl Tryz.underlying3 rfl (S8.rowc (i := 0) (e := i) (j := 0) rfl (by first | omega | (simp only [lens]; omega)) rfl rfl)) ?_)
        refine wl_eq 48 (.int .i64 (x : Int)) rfl (int_eq hx3) ?_
        have hnb := nbC_lt hab (k := k) hxn (by omega)
        refine wlm 5 6 rfl rfl rfl rfl rfl rfl rfl (wlo 6 7 rfl rfl rfl (wo_run rfl rfl (run_build (l := [_, _]) rfl rfl st190 rfl rfl) (wlo 7 8 rfl rfl rfl (wo_cq rfl rfl rfl rfl rfl rfl rfl cf163 S8 (Other_q d x k (hsb.mono S8.un_XH) (hsc.mono S8.un_XH) (hsi.mono S8.un_XH) (hso.mono S8.un_XH) (by first | assumption | omega) hab (by omega) (by omega) S8.lend) ?_))))
        rintro _ w7 S9 rfl; clear S8
        refine wlo 8 9 rfl rfl rfl (wo_run rfl rfl (run_field0 rfl rfl Tryz.underlying190 rfl Tryz.underlying3 rfl rfl) (wla 9 10 rfl rfl rfl rfl rfl rfl rfl (wl_end rfl (nmk [0, 3, 4, 22, 23, 6, 7, 41, 9] rfl (nm_thn (ws_seqN Pieces_n66 Pieces_n67 rfl rfl rfl (ws_eq 9 (.int .i64 ((nbC d x k : Nat) : Int)) rfl (int_eq rfl) (ws_region rfl (wlm 0 1 rfl rfl rfl rfl rfl rfl rfl ?_)))))))))
        refine wlm 1 2 rfl rfl rfl rfl rfl rfl rfl (wlo 2 3 rfl rfl rfl (wo_run rfl rfl (run_indexR (C := cdBool) (i := 2) (nbC d x k) rfl rfl rfl sl130 S9 rfl (by first | rfl | omega) (by first | omega | (simp only [lens]; omega))) ?_))
        refine wlo 3 4 rfl rfl rfl (wo_run rfl rfl (run_load1 rfl rfl Tryz.underlying4 rfl (S9.rowc (i := 2) (e := nbC d x k) (j := 0) rfl (by first | omega | (simp only [lens]; omega)) rfl rfl)) ?_)
        refine wlo 4 5 rfl rfl rfl (wo_run rfl rfl (run_not rfl rfl) (wl_end rfl (nmk [0, 3, 4, 22, 23, 6, 7, 41, 9, 57] rfl (nm_thn ?_))))
        refine ws_condN Pieces_n68 Pieces_n69 rfl rfl rfl rfl (fun hb57 => ?_) (fun hb57 => ?_)
        ·simp only [Bool.and_eq_true, Bool.or_eq_true, Bool.and_eq_false_iff, Bool.or_eq_false_iff, decide_eq_true_eq, decide_eq_false_iff_not, Bool.not_eq_true', Bool.not_eq_false'] at hb57
         have hga : ga seen3 (nbC d x k) = false := by simpa using hb57
         have hfs := free_set (seen := seen3) (x := nbC d x k) (by omega) hga
         refine ws_seqN Pieces_n70 Pieces_n71 rfl rfl rfl (ws_region rfl (wlm 0 1 rfl rfl rfl rfl rfl rfl rfl (wlm 1 2 rfl rfl rfl rfl rfl rfl rfl (wlo 2 3 rfl rfl rfl (wo_run rfl rfl (run_indexR (C := cdBool) (i := 2) (nbC d x k) rfl rfl rfl sl130 S9 rfl (by first | rfl | omega) (by first | omega | (simp only [lens]; omega))) ?_)))))
         refine wlo 3 4 rfl rfl rfl (wo_storeR (C := cdBool) (i := 2) (e := nbC d x k) (j := 0) (us := [_]) (H' := [_, _, _]) true rfl rfl S9 rfl (by first | omega | (simp only [lens]; omega)) rfl rfl rfl sz4 rfl rfl rfl rfl ?_)
         intro w8 S10; clear S9
         refine wl_end rfl (nmk [0, 3, 4, 22, 23, 6, 7, 41, 9] rfl (nm_thn (ws_region rfl (wlm 0 1 rfl rfl rfl rfl rfl rfl rfl (wlm 1 2 rfl rfl rfl rfl rfl rfl rfl (wlo 2 3 rfl rfl rfl (wo_buildSlice1 (C := cdInt) (l := [_]) rfl rfl rfl rfl sl53 rfl rfl rfl rfl S10 ?_)))))))
         intro gb2 w9 S11; clear S10
         refine wlo 3 4 rfl rfl rfl (wo_append1 (C := cdInt) (i := 1) (q := 0) ((nbC d x k : Nat) : Int) rfl rfl rfl rfl rfl rfl rfl rfl sl53 S11 rfl rfl rfl (by show (_ + 1) * 8 ≤ _; first | omega | (simp only [lens]; omega)) ?_)
         intro vrl1 w10 S12; clear S11
         have S13 := S12.pick [1, 2, 3] [_, _, _] (by decide) ⟨rfl, rfl, rfl, trivial⟩; clear S12
         refine wla 4 5 rfl rfl rfl rfl rfl rfl rfl (wl_end rfl (nm_blk (nmk [0, 3, 4, 22, 23, 6, 7, 41] rfl (nm_thn (ws_region rfl (wlo 0 1 rfl rfl rfl (wo_run rfl rfl (run_add rfl rfl rfl (by first | omega | (simp only [lens]; omega))) ?_)))))))
         refine wlm 1 2 rfl rfl rfl rfl rfl rfl rfl (wl_end rfl (nm_lp ?_))
         intro ax_ hax_
         refine ⟨_, ?hq5m, ⟨k + 1, _, _, _, _, rfl, hax_.sub ⟨rfl, rfl, rfl, rfl, rfl, rfl, rfl, rfl, trivial⟩, S13.pick [0, 1, 2] [_, _, _] (by decide) ⟨rfl, rfl, rfl, trivial⟩, ?hq5f0, ?hq5f1, ?hq5f2, ?hq5f3, ?hq5f4, ?hq5f5, ?hq5f6⟩⟩
         case hq5f0 => omega
         case hq5f1 => (show addS _ _ = _; rw [hbs, addS]; first | rw [if_pos (by assumption)] | rw [if_neg (by rw [hga]; exact Bool.false_ne_true)])
         case hq5f2 => first | exact hfr3 | (rw [List.length_append]; show _ + 1 + _ ≤ _; omega)
         case hq5f3 => first | exact hin3 | (intro y hy; rcases List.mem_append.1 hy with hy | hy; exact hin3 y hy; rw [List.mem_singleton] at hy; subst hy; omega)
         case hq5f4 => first | exact hs3 | (rw [List.length_set]; exact hs3)
         case hq5f5 => first | exact hi3 | (rw [List.length_append]; omega)
         case hq5f6 => first | exact hx3 | (rw [ga_append_left _ _ _ (by omega)]; exact hx3)
         case hq5m => omega
        ·simp only [Bool.and_eq_true, Bool.or_eq_true, Bool.and_eq_false_iff, Bool.or_eq_false_iff, decide_eq_true_eq, decide_eq_false_iff_not, Bool.not_eq_true', Bool.not_eq_false'] at hb57
         refine ws_skip rfl (nm_blk (nmk [0, 3, 4, 22, 23, 6, 7, 41] rfl (nm_thn (ws_region rfl (wlo 0 1 rfl rfl rfl (wo_run rfl rfl (run_add rfl rfl rfl (by first | omega | (simp only [lens]; omega))) ?_))))))
         refine wlm 1 2 rfl rfl rfl rfl rfl rfl rfl (wl_end rfl (nm_lp ?_))
         intro ax_ hax_
         refine ⟨_, ?hq6m, ⟨k + 1, _, _, _, _, rfl, hax_.sub ⟨rfl, rfl, rfl, rfl, rfl, rfl, rfl, rfl, trivial⟩, S9.pick [0, 1, 2] [_, _, _] (by decide) ⟨rfl, rfl, rfl, trivial⟩, ?hq6f0, ?hq6f1, ?hq6f2, ?hq6f3, ?hq6f4, ?hq6f5, ?hq6f6⟩⟩
         case hq6f0 => omega
         case hq6f1 => (show addS _ _ = _; rw [hbs, addS]; first | rw [if_pos (by assumption)] | rw [if_neg (by rw [hga]; exact Bool.false_ne_true)])
         case hq6f2 => first | exact hfr3 | (rw [List.length_append]; show _ + 1 + _ ≤ _; omega)
         case hq6f3 => first | exact hin3 | (intro y hy; rcases List.mem_append.1 hy with hy | hy; exact hin3 y hy; rw [List.mem_singleton] at hy; subst hy; omega)
         case hq6f4 => first | exact hs3 | (rw [List.length_set]; exact hs3)
         case hq6f5 => first | exact hi3 | (rw [List.length_append]; omega)
         case hq6f6 => first | exact hx3 | (rw [ga_append_left _ _ _ (by omega)]; exact hx3)
         case hq6m => omega
       ·replace hb42 := of_decide_eq_false hb42
        refine ws_exit rfl rfl (nm_blk (nmk [0, 3, 4, 22, 23, 6, 7] rfl (nm_thn (ws_region rfl (wlm 0 1 rfl rfl rfl rfl rfl rfl rfl (wlo 1 2 rfl rfl rfl (wo_run rfl rfl (run_add rfl rfl rfl (by first | omega | (simp only [lens]; omega))) ?_)))))))
        refine wla 2 3 rfl rfl rfl rfl rfl rfl rfl (wl_end rfl (nm_lp ?_))
        intro ax_ hax_
        refine ⟨_, ?hq7m, ⟨i + 1, _, _, _, _, rfl, hax_.sub ⟨rfl, rfl, rfl, rfl, rfl, rfl, rfl, trivial⟩, S8.pick [0, 1, 2] [_, _, _] (by decide) ⟨rfl, rfl, rfl, trivial⟩, ?hq7f0, ?hq7f1, ?hq7f2, ?hq7f3, ?hq7f4⟩⟩
        case hq7f0 => (rw [hbf, show d.crs.length - i = (d.crs.length - (i + 1)) + 1 by omega]; exact bfsN_go (by show i < l.length; omega) hx (hbs ▸ (by rw [show k = 4 by omega])))
        case hq7f1 => omega
        case hq7f2 => omega
        case hq7f3 => exact hin3
        case hq7f4 => exact hs3
        case hq7m => omega
     ·replace hb38 := of_decide_eq_false hb38
      have hsr := srt_len l
      refine ws_exit rfl rfl (nmk [0, 3, 4, 22, 23, 6] rfl (nm_thn (ws_seqN Pieces_n72 Pieces_n73 rfl rfl rfl (ws_region rfl (wlm 0 1 rfl rfl rfl rfl rfl rfl rfl (wlo 1 2 rfl rfl rfl (wo_c1 rfl rfl rfl rfl rfl rfl rfl cf143 S7 (i := 0) rfl (sort_w (by omega) (S7.lend1 (i := 0) rfl)) ?_)))))))
      rintro vw11 w11 _ _ - S14 ⟨rfl, rfl, rfl⟩; clear S7
      change SH _ _ _ [_, _, _] at S14
      refine wl_end rfl (nmk [0, 3, 4, 22, 23, 6] rfl (nm_thn (ws_region rfl (wlm 0 1 rfl rfl rfl rfl rfl rfl rfl (wlm 1 2 rfl rfl rfl rfl rfl rfl rfl ?_)))))
      obtain ⟨M2, hle4, S15, ⟨A1, c1, e1, hr1⟩⟩ := S14.pubrow (i := 0) (H' := [_, _, _]) rfl rfl (by show _ * 8 ≤ _; first | omega | (simp only [lens]; omega))
      clear S14; subst e1
      replace hsb := hsb.mono (Hp.un_mono hle4 S15.mx)
      replace hsc := hsc.mono (Hp.un_mono hle4 S15.mx)
      replace hsi := hsi.mono (Hp.un_mono hle4 S15.mx)
      replace hso := hso.mono (Hp.un_mono hle4 S15.mx)
      replace hdo := hdo.mono hle4
      refine wlo 2 3 rfl rfl rfl (wo_buildSlice1 (C := (cdV 53)) (l := [_]) rfl rfl rfl rfl sl103 rfl rfl rfl rfl S15 ?_)
      intro gb3 w12 S16; clear S15
      refine wlo 3 4 rfl rfl rfl (wo_append1 (C := (cdV 53)) (i := 2) (q := 0) (⟨A1, (srt l).length, c1⟩ : SlV) rfl rfl rfl rfl rfl rfl rfl rfl sl103 S16 rfl rfl rfl (by show (_ + 1) * 24 ≤ _; first | omega | (simp only [lens]; omega)) ?_)
      intro vro1 w13 S17; clear S16
      have S18 := S17.pick [1, 2, 3] [_, _, _] (by decide) ⟨rfl, rfl, rfl, trivial⟩; clear S17
      have hd1 := hdo.snoc (c := c1) hr1
      refine wla 4 5 rfl rfl rfl rfl rfl rfl rfl (wl_end rfl (nm_blk (nmk [0, 3, 4, 22, 23] rfl (nm_thn (ws_region rfl (wlo 0 1 rfl rfl rfl (wo_run rfl rfl (run_add rfl rfl rfl (by first | omega | (simp only [lens]; omega))) ?_)))))))
      refine wlm 1 2 rfl rfl rfl rfl rfl rfl rfl (wl_end rfl (nm_lp ?_))
      intro ax_ hax_
      refine ⟨_, ?hq8m, ⟨c + 1, _, _, (pss ++ [srt l]), _, _, _, (hle1.trans hle4), rfl, hax_.sub ⟨rfl, rfl, rfl, rfl, rfl, trivial⟩, S18.pick [1, 2] [_, _] (by decide) ⟨rfl, rfl, trivial⟩, ?hq8f0, ?hq8f1, ?hq8f2⟩⟩
      case hq8f0 => omega
      case hq8f1 => first | exact pcsN_skip hpn hb29 | exact pcsN_add hpn (by simpa using hb29) (hbf.trans (bfsN_stop (by show l.length ≤ i; omega)))
      case hq8f2 => first | exact hd1 | (rw [e9]; exact hd1)
      case hq8m => omega
  ·replace hb24 := of_decide_eq_false hb24
   refine ws_exit rfl rfl (nmk [4] rfl (nm_thn (ws_seqN Pieces_n74 Pieces_n75 rfl rfl rfl (ws_region rfl (wlm 0 1 rfl rfl rfl rfl rfl rfl rfl (wla 1 2 rfl rfl rfl rfl rfl rfl rfl (wl_end rfl (nmk [2] rfl ?_))))))))
   refine nm_thn ?_
   obtain ⟨M3, hle5, S19, ⟨A2, c2, e2, hr2⟩⟩ := S3.pubrow (i := 0) (H' := [_, _]) rfl rfl (by show _ * 24 ≤ _; first | omega | (simp only [lens]; omega))
   clear S3; subst e2
   replace hsb := hsb.mono (Hp.un_mono hle5 S19.mx)
   replace hsc := hsc.mono (Hp.un_mono hle5 S19.mx)
   replace hsi := hsi.mono (Hp.un_mono hle5 S19.mx)
   replace hso := hso.mono (Hp.un_mono hle5 S19.mx)
   replace hdo := hdo.mono hle5
   refine ws_ret hC [_] rfl rfl ⟨rfl, trivial⟩ ?_
   refine ⟨_, rfl, _, hle1.trans hle5, (S19.pick [] [] (by decide) trivial), ?_⟩
   obtain rfl : c = d.crs.length := by omega
   have e2 : pcsL d = pss := by unfold pcsL; rw [hpn]
   rw [e2]
   exact ⟨_, _, _, rfl, hr2, hdo⟩
end Go.Proofs.YthppkofceancjaaGreat
namespace Go.Proofs.YthppkofceancjaaGreat
open Go.ChangeShapes Go.WideShapes Go.ChangeAt Go.RowKit
theorem gs_same {xs : List Bool} {i : Nat} {y : Bool} (h : i < xs.length) : ga (xs.set i y) i = y := by rw [ga_set _ _ _ _ h, if_pos rfl]
theorem gs_ne {xs : List Bool} {i j : Nat} {y : Bool} (h : i ≠ j) : ga (xs.set i y) j = ga xs j := by unfold ga; simp [List.getElem?_set, h]
/-- What the search for the pieces finds, in plain Lean. -/
inductive Rc (d : Dg) : Nat → Nat → Prop
 | refl (x : Nat) : Rc d x x
 | step {x y k : Nat} : Rc d x y → k < 4 → Rc d x (nbC d y k)
structure BI (d : Dg) (n : Nat) (s0 : List Bool) (c : Nat) (s : List Bool × List Int) : Prop where
 len : s.1.length = n
 see : ∀ x, x < n → (ga s.1 x = true ↔ (ga s0 x = true ∨ (x : Int) ∈ s.2))
 nod : s.2.Nodup
 el : ∀ y ∈ s.2, ∃ z : Nat, y = (z : Int) ∧ z < n ∧ ga s0 z = false ∧ Rc d c z
 room : s.2.length + free s.1 ≤ n
theorem addS_bi {d : Dg} {n : Nat} {s0 : List Bool} {c : Nat} {s : List Bool × List Int} (h : BI d n s0 c s) {y : Nat} (hy : y < n) (hr : Rc d c y) :
  BI d n s0 c (addS s y) ∧ (∃ t, (addS s y).2 = s.2 ++ t) ∧ ga (addS s y).1 y = true ∧ ∀ x, ga s.1 x = true → ga (addS s y).1 x = true := by
 unfold addS
 by_cases hg : ga s.1 y = true
 ·rw [if_pos hg]
  exact ⟨h, ⟨[], by simp⟩, hg, fun x hx => hx⟩
 ·rw [if_neg hg]
  have hlen := h.len
  have hf : ga s.1 y = false := by simpa using hg
  have hnot : ¬ (ga s0 y = true ∨ (y : Int) ∈ s.2) := fun hh => hg ((h.see y hy).2 hh)
  have hfr := free_set (seen := s.1) (x := y) (by omega) hf
  have hro := h.room
  refine ⟨⟨by simp [hlen], fun x hx => ?_, ?_, fun z hz => ?_, ?_⟩, ⟨[(y : Int)], rfl⟩, ?_, fun x hx => ?_⟩
  ·by_cases e : x = y
   ·subst e
    exact ⟨fun _ => .inr (by simp), fun _ => gs_same (by omega)⟩
   ·show ga (s.1.set y true) x = true ↔ _
    rw [gs_ne (show y ≠ x from fun e' => e e'.symm)]
    rw [h.see x hx, List.mem_append, List.mem_singleton]
    constructor
    ·rintro (h1 | h1)
     ·exact .inl h1
     ·exact .inr (.inl h1)
    ·rintro (h1 | h1 | h1)
     ·exact .inl h1
     ·exact .inr h1
     ·exact absurd (Int.ofNat.inj h1) e
  ·rw [List.nodup_append]
   refine ⟨h.nod, by simp, fun a ha b hb e => ?_⟩
   rw [List.mem_singleton] at hb
   subst hb; subst e
   exact hnot (.inr ha)
  ·rcases List.mem_append.1 hz with hz | hz
   ·exact h.el z hz
   ·rw [List.mem_singleton] at hz
    exact ⟨y, hz, hy, by have := fun e => hnot (.inl e); simpa using this, hr⟩
  ·show (s.2 ++ [(y : Int)]).length + free (s.1.set y true) ≤ n
   rw [List.length_append]
   show s.2.length + 1 + _ ≤ n
   omega
  ·exact gs_same (by omega)
  ·by_cases e : x = y
   ·subst e; exact gs_same (by omega)
   ·show ga (s.1.set y true) x = true
    rw [gs_ne (show y ≠ x from fun e' => e e'.symm)]; exact hx
theorem bfsS_bi {d : Dg} {s0 : List Bool} {c x : Nat} {s : List Bool × List Int} (hab : arcsB d = true) (h : BI d d.crs.length s0 c s) (hx : x < d.crs.length) (hr : Rc d c x) (k : Nat) (hk : k ≤ 4) :
  BI d d.crs.length s0 c (bfsS d x s k) ∧ (∃ t, (bfsS d x s k).2 = s.2 ++ t) ∧ (∀ j, j < k → ga (bfsS d x s k).1 (nbC d x j) = true) ∧ ∀ z, ga s.1 z = true → ga (bfsS d x s k).1 z = true := by
 induction k with
 | zero => exact ⟨h, ⟨[], by simp [bfsS]⟩, fun j hj => by omega, fun z hz => hz⟩
 | succ k ih =>
  obtain ⟨h1, ⟨t1, h2⟩, h3, h4⟩ := ih (by omega)
  obtain ⟨g1, ⟨t2, g2⟩, g3, g4⟩ := addS_bi h1 (nbC_lt hab hx (show k < 4 by omega)) (hr.step (show k < 4 by omega))
  refine ⟨g1, ⟨t1 ++ t2, ?_⟩, fun j hj => ?_, fun z hz => g4 z (h4 z hz)⟩
  ·show (addS _ _).2 = _
   rw [g2, h2, List.append_assoc]
  ·by_cases e : j = k
   ·subst e; exact g3
   ·exact g4 _ (h3 j (by omega))
theorem bfsN_bi {d : Dg} {s0 : List Bool} {c : Nat} (hab : arcsB d = true) : ∀ (f i : Nat) (s : List Bool × List Int), BI d d.crs.length s0 c s → d.crs.length ≤ i + f → i ≤ s.2.length → (∀ j, j < i → ∀ k, k < 4 → ga s.1 (nbC d (ga s.2 j).toNat k) = true) →
  BI d d.crs.length s0 c (bfsN d f i s) ∧ (∃ t, (bfsN d f i s).2 = s.2 ++ t) ∧ ∀ j, j < (bfsN d f i s).2.length → ∀ k, k < 4 → ga (bfsN d f i s).1 (nbC d (ga (bfsN d f i s).2 j).toNat k) = true := by
 intro f
 induction f with
 | zero =>
  intro i s h hf hi hp
  have := h.room
  exact ⟨h, ⟨[], by simp [bfsN]⟩, fun j hj => hp j (by have hj' : j < s.2.length := hj; omega)⟩
 | succ f ih =>
  intro i s h hf hi hp
  by_cases hlt : i < s.2.length
  ·rw [bfsN, if_pos hlt]
   obtain ⟨z, hz, hzn, _, hrz⟩ := h.el _ (ga_mem hlt)
   rw [hz, Int.toNat_natCast]
   obtain ⟨h1, ⟨t, h2⟩, h3, h4⟩ := bfsS_bi hab h hzn hrz 4 (Nat.le_refl _)
   obtain ⟨g1, ⟨t', g2⟩, g3⟩ := ih (i + 1) (bfsS d z s 4) h1 (by omega) (by rw [h2, List.length_append]; omega) (fun j hj k hk => by
    rw [h2, ga_append_left _ _ _ (by omega)]
    by_cases e : j = i
    ·subst e; rw [hz, Int.toNat_natCast]; exact h3 k hk
    ·exact h4 _ (hp j (by omega) k hk))
   exact ⟨g1, ⟨t ++ t', by rw [g2, h2, List.append_assoc]⟩, g3⟩
  ·rw [bfsN_stop (by omega)]
   exact ⟨h, ⟨[], by simp⟩, fun j hj => hp j (by omega)⟩
structure PcI (d : Dg) (c : Nat) (s : List Bool × List (List Int)) : Prop where
 see : ∀ x, x < d.crs.length → (ga s.1 x = true ↔ ∃ i, i < s.2.length ∧ (x : Int) ∈ ga s.2 i)
 cov : ∀ x, x < c → ga s.1 x = true
 el : ∀ i, i < s.2.length → (ga s.2 i).Nodup ∧ ∃ c0 : Nat, c0 < d.crs.length ∧ (c0 : Int) ∈ ga s.2 i ∧ ∀ y ∈ ga s.2 i, ∃ z : Nat, y = (z : Int) ∧ z < d.crs.length ∧ Rc d c0 z
 clo : ∀ i, i < s.2.length → ∀ z : Nat, (z : Int) ∈ ga s.2 i → ∀ k, k < 4 → ((nbC d z k : Nat) : Int) ∈ ga s.2 i
 dis : ∀ i j, i < s.2.length → j < s.2.length → ∀ y, y ∈ ga s.2 i → y ∈ ga s.2 j → i = j
theorem pcsN_pi {d : Dg} (hab : arcsB d = true) (hsym : ∀ x k, x < d.crs.length → k < 4 → ∃ k', k' < 4 ∧ nbC d (nbC d x k) k' = x) (c : Nat) (hc : c ≤ d.crs.length) : PcI d c (pcsN d c) := by
 induction c with
 | zero =>
  refine ⟨fun x hx => ?_, fun x hx => by omega, fun i hi => ?_, fun i hi => ?_, fun i j hi => ?_⟩
  ·simp only [pcsN]
   rw [ga_rep _ _ _ hx]
   constructor
   ·intro h; cases h
   ·rintro ⟨i, hi, _⟩; exact absurd hi (Nat.not_lt_zero _)
  all_goals exact absurd hi (Nat.not_lt_zero _)
 | succ c ih =>
  have I := ih (by omega)
  have hlen := pcsN_len d c
  generalize hs : pcsN d c = s at I hlen
  obtain ⟨seen, pss⟩ := s
  by_cases hg : ga seen c = true
  ·rw [pcsN_skip hs hg]
   exact ⟨I.see, fun x hx => by by_cases e : x = c; (subst e; exact hg); exact I.cov x (by omega), I.el, I.clo, I.dis⟩
  ·have hgf : ga seen c = false := by simpa using hg
   rw [pcsN_add hs hgf rfl]
   have hlen' : seen.length = d.crs.length := hlen
   have B0 : BI d d.crs.length seen c (seen.set c true, [(c : Int)]) := by
    have hfr := free_set (seen := seen) (x := c) (by omega) hgf
    have hfl : free seen ≤ seen.length := List.countP_le_length
    refine ⟨by simp [hlen'], fun x hx => ?_, by simp, fun y hy => ?_, by show 1 + free (seen.set c true) ≤ _; omega⟩
    ·by_cases e : x = c
     ·subst e; exact ⟨fun _ => .inr (by simp), fun _ => gs_same (by omega)⟩
     ·show ga (seen.set c true) x = true ↔ _
      rw [gs_ne (show c ≠ x from fun e' => e e'.symm)]
      constructor
      ·exact .inl
      ·rintro (h1 | h1)
       ·exact h1
       ·rw [List.mem_singleton] at h1; exact absurd (Int.ofNat.inj h1) e
    ·rw [List.mem_singleton] at hy; exact ⟨c, hy, by omega, hgf, .refl c⟩
   obtain ⟨B1, ⟨t, B2⟩, B3⟩ := bfsN_bi hab d.crs.length 0 _ B0 (by omega) (Nat.zero_le _) (fun j hj => by omega)
   generalize hr : bfsN d d.crs.length 0 (seen.set c true, [(c : Int)]) = r at B1 B2 B3 ⊢
   have hcm : (c : Int) ∈ r.2 := by rw [B2]; simp
   have hnew : ga (pss ++ [srt r.2]) pss.length = srt r.2 := by rw [ga_append_right _ _ _ (Nat.le_refl _), Nat.sub_self]; rfl
   have hold : ∀ i, i < pss.length → ga (pss ++ [srt r.2]) i = ga pss i := fun i hi => ga_append_left _ _ _ hi
   have hL : (pss ++ [srt r.2]).length = pss.length + 1 := by simp
   have hcl : ∀ z : Nat, (z : Int) ∈ r.2 → ∀ k, k < 4 → ((nbC d z k : Nat) : Int) ∈ r.2 := fun z hz k hk => by
    obtain ⟨j, hj, ej⟩ := List.mem_iff_getElem.1 hz
    have h1 := B3 j hj k hk
    rw [ga_eq hj, ej, Int.toNat_natCast] at h1
    obtain ⟨z', e', hzn, hz0, _⟩ := B1.el _ hz
    obtain rfl : z = z' := by omega
    have hnl := nbC_lt hab hzn hk
    rcases (B1.see _ hnl).1 h1 with h2 | h2
    ·exfalso
     obtain ⟨i, hi, hm⟩ := (I.see _ hnl).1 h2
     obtain ⟨k', hk', e2⟩ := hsym z k hzn hk
     have h3 := I.clo i hi _ hm k' hk'
     rw [e2] at h3
     have h4 := (I.see z hzn).2 ⟨i, hi, h3⟩
     have h5 : ga seen z = true := h4
     rw [hz0] at h5; cases h5
    ·exact h2
   refine ⟨fun x hx => ?_, fun x hx => ?_, fun i hi => ?_, fun i hi => ?_, fun i j hi hj y hy hy' => ?_⟩
   ·show ga r.1 x = true ↔ ∃ i, i < (pss ++ [srt r.2]).length ∧ (x : Int) ∈ ga (pss ++ [srt r.2]) i
    rw [B1.see x hx]
    have hI : ga seen x = true ↔ ∃ i, i < pss.length ∧ (x : Int) ∈ ga pss i := I.see x hx
    rw [hI]
    constructor
    ·rintro (⟨i, hi, hm⟩ | hm)
     ·exact ⟨i, by omega, by rw [hold i hi]; exact hm⟩
     ·exact ⟨pss.length, by omega, by rw [hnew]; exact srt_mem.2 hm⟩
    ·rintro ⟨i, hi, hm⟩
     by_cases e : i < pss.length
     ·rw [hold i e] at hm; exact .inl ⟨i, e, hm⟩
     ·obtain rfl : i = pss.length := by omega
      rw [hnew] at hm; exact .inr (srt_mem.1 hm)
   ·show ga r.1 x = true
    rw [B1.see x (by omega)]
    by_cases e : x = c
    ·subst e; exact .inr hcm
    ·exact .inl (I.cov x (by omega))
   ·show (ga (pss ++ [srt r.2]) i).Nodup ∧ ∃ c0 : Nat, c0 < d.crs.length ∧ (c0 : Int) ∈ ga (pss ++ [srt r.2]) i ∧ ∀ y ∈ ga (pss ++ [srt r.2]) i, _
    have hi' : i < (pss ++ [srt r.2]).length := hi
    by_cases e : i < pss.length
    ·rw [hold i e]; exact I.el i e
    ·obtain rfl : i = pss.length := by omega
     rw [hnew]
     refine ⟨(srt_perm r.2).nodup_iff.2 B1.nod, c, by omega, srt_mem.2 hcm, fun y hy => ?_⟩
     obtain ⟨z, h1, h2, _, h3⟩ := B1.el y (srt_mem.1 hy)
     exact ⟨z, h1, h2, h3⟩
   ·show ∀ z : Nat, (z : Int) ∈ ga (pss ++ [srt r.2]) i → ∀ k, k < 4 → ((nbC d z k : Nat) : Int) ∈ ga (pss ++ [srt r.2]) i
    have hi' : i < (pss ++ [srt r.2]).length := hi
    by_cases e : i < pss.length
    ·rw [hold i e]; exact I.clo i e
    ·obtain rfl : i = pss.length := by omega
     rw [hnew]
     intro z hz k hk
     exact srt_mem.2 (hcl z (srt_mem.1 hz) k hk)
   ·have hi' : i < (pss ++ [srt r.2]).length := hi
    have hj' : j < (pss ++ [srt r.2]).length := hj
    have hy1 : y ∈ ga (pss ++ [srt r.2]) i := hy
    have hy2 : y ∈ ga (pss ++ [srt r.2]) j := hy'
    have key : ∀ i, i < pss.length → y ∈ ga pss i → y ∈ r.2 → False := fun i hi h1 h2 => by
     obtain ⟨z, rfl, hzn, hz0, _⟩ := B1.el y h2
     have h5 : ga seen z = true := (I.see z hzn).2 ⟨i, hi, h1⟩
     rw [hz0] at h5; cases h5
    by_cases e : i < pss.length
    ·rw [hold i e] at hy1
     by_cases e' : j < pss.length
     ·rw [hold j e'] at hy2; exact I.dis i j e e' y hy1 hy2
     ·obtain rfl : j = pss.length := by omega
      rw [hnew] at hy2
      exact (key i e hy1 (srt_mem.1 hy2)).elim
    ·obtain rfl : i = pss.length := by omega
     rw [hnew] at hy1
     by_cases e' : j < pss.length
     ·rw [hold j e'] at hy2
      exact (key j e' hy2 (srt_mem.1 hy1)).elim
     ·omega
end Go.Proofs.YthppkofceancjaaGreat
namespace Go.Proofs.YthppkofceancjaaGreat
open Go.ChangeShapes Go.WideShapes Go.ChangeAt Go.RowKit
theorem endOf_back {d : Dg} (h : arcsB d = true) {c k : Nat} {b : Bool} (hc : c < d.crs.length) (hk : k < 4) (hin : entryB d c k = !b) : endOf d (arcAt d c k) b = (c, k) := by
 have hr := arcAt_bd h hc hk
 have hcn : cntP d ((arcAt d c k).toNat : Nat) b (4 * d.crs.length) = 1 := by
  have := arcsB_out h (arcAt d c k).toNat (by omega) (by omega)
  cases b
  ·exact this.1
  ·exact this.2
 rw [show (((arcAt d c k).toNat : Nat) : Int) = arcAt d c k by omega] at hcn
 obtain ⟨j, j1, j2, j3, j4⟩ := cntP_one hcn
 have hme : endP d (arcAt d c k) b (4 * c + k) = true := by rw [endP_at hk]; cases b <;> simp [hin]
 obtain rfl := j3 (4 * c + k) (by omega) hme
 have e := lastP_end hcn
 rw [j4] at e
 rw [← e]
 exact Prod.ext (by dsimp only; omega) (by dsimp only; omega)
theorem endOf_there {d : Dg} (h : arcsB d = true) {a : Int} (ha : 1 ≤ a ∧ a ≤ 2 * (d.crs.length : Int)) (b : Bool) : arcAt d (endOf d a b).1 (endOf d a b).2 = a ∧ entryB d (endOf d a b).1 (endOf d a b).2 = !b := by
 obtain ⟨_, _, _, h4, h5⟩ := endOf_lt h (a := a.toNat) (by omega) (by omega) b
 rw [show ((a.toNat : Nat) : Int) = a by omega] at h4 h5
 exact ⟨h4, h5⟩
theorem nb_sym {d : Dg} (h : arcsB d = true) (x k : Nat) (hx : x < d.crs.length) (hk : k < 4) : ∃ k', k' < 4 ∧ nbC d (nbC d x k) k' = x := by
 have ha := arcAt_bd h hx hk
 obtain ⟨h1, h2, _⟩ := endD h ha (entryB d x k)
 obtain ⟨h3, h4⟩ := endOf_there h ha (entryB d x k)
 refine ⟨(endOf d (arcAt d x k) (entryB d x k)).2, h2, ?_⟩
 show (endOf d (arcAt d (endOf d (arcAt d x k) (entryB d x k)).1 (endOf d (arcAt d x k) (entryB d x k)).2) (entryB d (endOf d (arcAt d x k) (entryB d x k)).1 (endOf d (arcAt d x k) (entryB d x k)).2)).1 = x
 rw [h3, h4, endOf_back h hx hk (by cases entryB d x k <;> rfl)]
theorem pcs {d : Dg} (h : arcsB d = true) : PcI d d.crs.length (pcsN d d.crs.length) := pcsN_pi h (nb_sym h) _ (Nat.le_refl _)
/-- The map from crossings to pieces. -/
def putP (i : Nat) (p : List Int) (es : List (Int × Int)) : Nat → List (Int × Int)
 | 0 => es
 | k + 1 => mp (ga p k) (i : Int) (putP i p es k)
def pmapN (pss : List (List Int)) : Nat → List (Int × Int)
 | 0 => []
 | i + 1 => putP i (ga pss i) (pmapN pss i) (ga pss i).length
theorem putP_mg (i : Nat) (p : List Int) (es : List (Int × Int)) (k : Nat) (hk : k ≤ p.length) (y : Int) : (y ∈ p.take k → mg y (putP i p es k) = some (i : Int)) ∧ (y ∉ p.take k → mg y (putP i p es k) = mg y es) := by
 induction k with
 | zero => exact ⟨fun h => by simp at h, fun _ => rfl⟩
 | succ k ih =>
  have ih := ih (by omega)
  rw [take_ga _ _ (by omega), putP, mg_mp]
  constructor
  ·intro h
   by_cases e : y = ga p k
   ·rw [if_pos e]
   ·rw [if_neg e]
    rcases List.mem_append.1 h with h | h
    ·exact ih.1 h
    ·exact absurd (List.mem_singleton.1 h) e
  ·intro h
   rw [List.mem_append, List.mem_singleton] at h
   rw [if_neg (fun e => h (.inr e))]
   exact ih.2 (fun e => h (.inl e))
theorem pmapN_mg {pss : List (List Int)} (hd : ∀ i j, i < pss.length → j < pss.length → ∀ y, y ∈ ga pss i → y ∈ ga pss j → i = j) (m : Nat) (hm : m ≤ pss.length) {i : Nat} (hi : i < m) {y : Int} (hy : y ∈ ga pss i) : mg y (pmapN pss m) = some (i : Int) := by
 induction m with
 | zero => omega
 | succ m ih =>
  have h := putP_mg m (ga pss m) (pmapN pss m) (ga pss m).length (Nat.le_refl _) y
  rw [List.take_length] at h
  rw [pmapN]
  by_cases e : y ∈ ga pss m
  ·rw [h.1 e, hd i m (by omega) (by omega) y hy e]
  ·rw [h.2 e]
   exact ih (by omega) (by
    rcases Nat.lt_or_ge i m with h1 | h1
    ·exact h1
    ·obtain rfl : i = m := by omega
     exact absurd hy e)
def pmap (d : Dg) : List (Int × Int) := pmapN (pcsL d) (pcsL d).length
/-- The number of a crossing's piece. -/
def pcI (d : Dg) (x : Nat) : Nat := ((mg (x : Int) (pmap d)).getD 0).toNat
theorem pcI_at {d : Dg} (h : arcsB d = true) {i x : Nat} (hi : i < (pcsL d).length) (hx : (x : Int) ∈ ga (pcsL d) i) : mg (x : Int) (pmap d) = some (i : Int) ∧ pcI d x = i := by
 have e := pmapN_mg (pcs h).dis _ (Nat.le_refl _) hi hx
 refine ⟨e, ?_⟩
 unfold pcI
 unfold pmap
 rw [show mg (x : Int) (pmapN (pcsL d) (pcsL d).length) = some (i : Int) from e]
 rfl
theorem pcI_lt {d : Dg} (h : arcsB d = true) {x : Nat} (hx : x < d.crs.length) : pcI d x < (pcsL d).length ∧ (x : Int) ∈ ga (pcsL d) (pcI d x) ∧ (mg (x : Int) (pmap d)).getD 0 = (pcI d x : Int) := by
 obtain ⟨i, hi, hm⟩ := ((pcs h).see x hx).1 ((pcs h).cov x hx)
 have hi' : i < (pcsL d).length := hi
 have hm' : (x : Int) ∈ ga (pcsL d) i := hm
 obtain ⟨h1, h2⟩ := pcI_at h hi' hm'
 rw [h2]
 exact ⟨hi', hm', by rw [h1]; rfl⟩
def fcN (d : Dg) : Nat → List Int
 | 0 => List.replicate (pcsL d).length 0
 | k + 1 => (fcN d k).set (pcI d (fcC d k)) (ga (fcN d k) (pcI d (fcC d k)) + 1)
theorem fcN_len (d : Dg) (k : Nat) : (fcN d k).length = (pcsL d).length := by
 induction k with
 | zero => exact List.length_replicate
 | succ k ih => rw [fcN, List.length_set, ih]
theorem fcN_bd (d : Dg) (k j : Nat) : 0 ≤ ga (fcN d k) j ∧ ga (fcN d k) j ≤ k := by
 induction k generalizing j with
 | zero =>
  by_cases h : j < (pcsL d).length
  ·rw [fcN, ga_rep _ _ _ h]; simp
  ·rw [fcN, show ga (List.replicate (pcsL d).length (0 : Int)) j = 0 from by unfold ga; simp [h]]; exact ⟨Int.le_refl _, Int.le_refl _⟩
 | succ k ih =>
  rw [fcN]
  have h1 := ih j
  have h2 := ih (pcI d (fcC d k))
  by_cases e : pcI d (fcC d k) = j
  ·by_cases hl : j < (fcN d k).length
   ·subst e; rw [ga_set _ _ _ _ hl, if_pos rfl]; omega
   ·rw [List.set_eq_of_length_le (by omega)]; omega
  ·rw [ga_set_ne _ _ _ _ e]; omega
theorem nodup_le {α : Type} [DecidableEq α] {xs ys : List α} (h : xs.Nodup) (hs : ∀ y ∈ xs, y ∈ ys) : xs.length ≤ ys.length := by
 induction xs generalizing ys with
 | nil => exact Nat.zero_le _
 | cons x xs ih =>
  rw [List.nodup_cons] at h
  have hx := hs x (by simp)
  have h1 := ih h.2 (ys := ys.erase x) (fun y hy => (List.mem_erase_of_ne (fun (e : y = x) => h.1 (by rw [← e]; exact hy))).2 (hs y (by simp [hy])))
  rw [List.length_erase_of_mem hx] at h1
  have := List.length_pos_of_mem hx
  rw [List.length_cons]
  omega
def planP (d : Dg) : Bool := (List.range (pcsL d).length).all fun i => decide (ga (fcN d (facesL d).length) i = ((ga (pcsL d) i).length : Int) + 2)
theorem planP_t {d : Dg} (h : ∀ i, i < (pcsL d).length → ga (fcN d (facesL d).length) i = ((ga (pcsL d) i).length : Int) + 2) : planP d = true := by
 unfold planP
 rw [List.all_eq_true]
 intro p hp
 exact decide_eq_true (h p (List.mem_range.1 hp))
theorem planP_f {d : Dg} {i : Nat} (hi : i < (pcsL d).length) (h : ¬ ga (fcN d (facesL d).length) i = ((ga (pcsL d) i).length : Int) + 2) : planP d = false := by
 unfold planP
 rw [List.all_eq_false]
 exact ⟨i, List.mem_range.2 hi, by simpa using h⟩
theorem pcsL_bd {d : Dg} (h : arcsB d = true) {i : Nat} (hi : i < (pcsL d).length) : (ga (pcsL d) i).length ≤ d.crs.length ∧ ∀ y ∈ ga (pcsL d) i, 0 ≤ y ∧ y < (d.crs.length : Int) := by
 obtain ⟨h1, c0, _, _, h2⟩ := (pcs h).el i hi
 have hb : ∀ y ∈ ga (pcsL d) i, 0 ≤ y ∧ y < (d.crs.length : Int) := fun y hy => by obtain ⟨z, rfl, hz, _⟩ := h2 y hy; omega
 refine ⟨?_, hb⟩
 have h3 := nodup_le (ys := (List.range d.crs.length).map fun x : Nat => (x : Int)) h1 (fun y hy => by
  obtain ⟨z, rfl, hz, _⟩ := h2 y hy
  exact List.mem_map.2 ⟨z, List.mem_range.2 hz, rfl⟩)
 rw [List.length_map, List.length_range] at h3
 exact h3
noncomputable def Planar_n0 : Code := Tryz.f65.body.getD .skip
noncomputable def Planar_n1 : Code := cL Planar_n0
noncomputable def Planar_n2 : Code := cR Planar_n0
noncomputable def Planar_n3 : Code := cL Planar_n2
noncomputable def Planar_n4 : Code := cR Planar_n2
noncomputable def Planar_n5 : Code := cL Planar_n4
noncomputable def Planar_n6 : Code := cR Planar_n4
noncomputable def Planar_n7 : Code := cL Planar_n6
noncomputable def Planar_n8 : Code := cR Planar_n6
noncomputable def Planar_n9 : Code := cL Planar_n7
noncomputable def Planar_n10 : Code := cR Planar_n7
noncomputable def Planar_n11 : Code := cL Planar_n10
noncomputable def Planar_n12 : Code := cL Planar_n11
noncomputable def Planar_n13 : Code := cL Planar_n12
noncomputable def Planar_n14 : Code := cR Planar_n12
noncomputable def Planar_n15 : Code := cL Planar_n14
noncomputable def Planar_n16 : Code := cR Planar_n14
noncomputable def Planar_n17 : Code := cL Planar_n15
noncomputable def Planar_n18 : Code := cR Planar_n15
noncomputable def Planar_n19 : Code := cL Planar_n16
noncomputable def Planar_n20 : Code := cR Planar_n16
noncomputable def Planar_n21 : Code := cL Planar_n19
noncomputable def Planar_n22 : Code := cL Planar_n21
noncomputable def Planar_n23 : Code := cR Planar_n21
noncomputable def Planar_n24 : Code := cL Planar_n23
noncomputable def Planar_n25 : Code := cR Planar_n23
noncomputable def Planar_n26 : Code := cL Planar_n25
noncomputable def Planar_n27 : Code := cL Planar_n26
noncomputable def Planar_n28 : Code := cL Planar_n27
noncomputable def Planar_n29 : Code := cR Planar_n27
noncomputable def Planar_n30 : Code := cL Planar_n29
noncomputable def Planar_n31 : Code := cR Planar_n29
noncomputable def Planar_n32 : Code := cL Planar_n30
noncomputable def Planar_n33 : Code := cR Planar_n30
noncomputable def Planar_n34 : Code := cL Planar_n31
noncomputable def Planar_n35 : Code := cR Planar_n31
noncomputable def Planar_n36 : Code := cL Planar_n34
noncomputable def Planar_n37 : Code := cL Planar_n36
noncomputable def Planar_n38 : Code := cR Planar_n36
noncomputable def Planar_n39 : Code := cL Planar_n8
noncomputable def Planar_n40 : Code := cR Planar_n8
noncomputable def Planar_n41 : Code := cL Planar_n40
noncomputable def Planar_n42 : Code := cR Planar_n40
noncomputable def Planar_n43 : Code := cL Planar_n41
noncomputable def Planar_n44 : Code := cR Planar_n41
noncomputable def Planar_n45 : Code := cL Planar_n44
noncomputable def Planar_n46 : Code := cL Planar_n45
noncomputable def Planar_n47 : Code := cL Planar_n46
noncomputable def Planar_n48 : Code := cR Planar_n46
noncomputable def Planar_n49 : Code := cL Planar_n48
noncomputable def Planar_n50 : Code := cR Planar_n48
noncomputable def Planar_n51 : Code := cL Planar_n49
noncomputable def Planar_n52 : Code := cR Planar_n49
noncomputable def Planar_n53 : Code := cL Planar_n50
noncomputable def Planar_n54 : Code := cR Planar_n50
noncomputable def Planar_n55 : Code := cL Planar_n53
noncomputable def Planar_n56 : Code := cL Planar_n55
noncomputable def Planar_n57 : Code := cR Planar_n55
noncomputable def Planar_n58 : Code := cL Planar_n42
noncomputable def Planar_n59 : Code := cR Planar_n42
noncomputable def Planar_n60 : Code := cL Planar_n58
noncomputable def Planar_n61 : Code := cR Planar_n58
noncomputable def Planar_n62 : Code := cL Planar_n61
noncomputable def Planar_n63 : Code := cL Planar_n62
noncomputable def Planar_n64 : Code := cL Planar_n63
noncomputable def Planar_n65 : Code := cR Planar_n63
noncomputable def Planar_n66 : Code := cL Planar_n65
noncomputable def Planar_n67 : Code := cR Planar_n65
noncomputable def Planar_n68 : Code := cL Planar_n66
noncomputable def Planar_n69 : Code := cR Planar_n66
noncomputable def Planar_n70 : Code := cL Planar_n67
noncomputable def Planar_n71 : Code := cR Planar_n67
noncomputable def Planar_n72 : Code := cL Planar_n70
noncomputable def Planar_n73 : Code := cL Planar_n72
noncomputable def Planar_n74 : Code := cR Planar_n72
noncomputable def Planar_n75 : Code := cL Planar_n74
noncomputable def Planar_n76 : Code := cR Planar_n74
noncomputable def Planar_n77 : Code := cL Planar_n76
noncomputable def Planar_n78 : Code := cR Planar_n76
noncomputable def Planar_n79 : Code := cL Planar_n77
noncomputable def Planar_n80 : Code := cR Planar_n77
noncomputable def Planar_n81 : Code := cL Planar_n59
noncomputable def Planar_n82 : Code := cR Planar_n59
set_option maxHeartbeats 1000000 in
set_option maxRecDepth 10000 in
theorem Planar_t {w : World} {M : Hp} {X : Fr} (d : Dg) {gsh : Nat} {cA iA oA : Option Addr} {cc ic oc : Nat} (hsb : BxM M gsh 70 [.slice cA d.crs.length cc, .int .i64 d.loops, .slice iA (tabL d false (4 * d.crs.length)).length ic, .slice oA (tabL d true (4 * d.crs.length)).length oc]) (hsc : RdA cdCr M cA cc d.crs) (hsi : RdA cdPl M iA ic (tabL d false (4 * d.crs.length))) (hso : RdA cdPl M oA oc (tabL d true (4 * d.crs.length))) (hn : d.crs.length ≤ 16) (hab : arcsB d = true) (S : SH w M X []) : Ct Tryz.prog 65 [.pointer (some ⟨gsh, 0, none⟩)] w M X (fun u _ => u = .bool (planP d)) := by
 unfold Ct
 refine calls_in (b := Planar_n0) Tryz.func65 rfl Tryz.ntmps65 rfl (fun C hC => (ws_sub [(0, _)] ⟨rfl, trivial⟩ (ws_seqN Planar_n1 Planar_n2 rfl rfl rfl (ws_region rfl (wla 0 1 rfl rfl rfl rfl rfl rfl rfl (wl_end rfl (nmk [0] rfl (nm_thn (ws_seqN Planar_n3 Planar_n4 rfl rfl rfl ?_)))))))))
 refine ws_region rfl (wlo 0 1 rfl rfl rfl (wo_makeMap Int Int (Value.int .i64) (Value.int .i64) rfl rfl rfl S ?_))
 intro gm1 w1 S1; clear S
 refine wla 1 2 rfl rfl rfl rfl rfl rfl rfl (wl_end rfl (nmk [0, 3] rfl (nm_thn (ws_seqN Planar_n5 Planar_n6 rfl rfl rfl (ws_region rfl (wlm 0 1 rfl rfl rfl rfl rfl rfl rfl (wlo 1 2 rfl rfl rfl (wo_ct rfl rfl rfl rfl rfl rfl rfl cf105 S1 (Pieces_t d (hsb.mono (Hp.le_un _ _)) (hsc.mono (Hp.le_un _ _)) (hsi.mono (Hp.le_un _ _)) (hso.mono (Hp.le_un _ _)) hn hab S1.lend) ?_))))))))
 intro vw2 w2 M1 hle1 S2 hRw2; clear S1
 replace hsb := hsb.mono hle1
 replace hsc := hsc.mono hle1
 replace hsi := hsi.mono hle1
 replace hso := hso.mono hle1
 obtain ⟨A1, c1, vs1, rfl, hr1, hd1⟩ := hRw2
 have hlenpcsL := hd1.1
 refine wla 2 3 rfl rfl rfl rfl rfl rfl rfl (wl_end rfl (nmk [0, 3, 4] rfl (nm_thn (ws_seqN Planar_n7 Planar_n8 rfl rfl rfl (ws_seqN Planar_n9 Planar_n10 rfl rfl rfl (ws_region rfl (wlm 0 1 rfl rfl rfl rfl rfl rfl rfl (wlo 1 2 rfl rfl rfl (wo_run rfl rfl (run_len rfl rfl rfl rfl rfl rfl Tryz.underlying103) ?_)))))))))
 refine wlm 2 3 rfl rfl rfl rfl rfl rfl rfl (wl_end rfl (nm_thn (ws_blockN Planar_n11 0 rfl rfl rfl ?_)))
 refine ws_loopE (fun mx_ ax_ wx_ => ∃ (i : Nat) (es : List (Int × Int)), mx_ = (pcsL d).length - i ∧ Env 75 [(0, .pointer (some ⟨gsh, 0, none⟩)), (3, .map (some gm1)), (4, .slice A1 vs1.length c1), (17, .slice A1 vs1.length c1), (18, .int .i64 (vs1.length : Int)), (19, .int .i64 (i : Int))] ax_ ∧ SH wx_ M1 X [Rs.mp (Value.int .i64) (Value.int .i64) gm1 es] ∧ i ≤ (pcsL d).length ∧ es = pmapN (pcsL d) i) rfl ?_ ?_
 ·intro ax_ hax_
  refine ⟨_, ⟨0, [], rfl, hax_.sub ⟨rfl, rfl, rfl, rfl, rfl, rfl, trivial⟩, S2.pick [0] [_] (by decide) ⟨rfl, trivial⟩, ?hq1f0, ?hq1f1⟩⟩
  case hq1f0 => omega
  case hq1f1 => rfl
 ·rintro m2 a1 w3 ⟨i, es, rfl, he1, S3, hi, hes⟩
  clear S2
  refine ws_in he1 (c := Planar_n12) rfl ?_
  clear he1 a1
  have hpl := pcsN_many d d.crs.length
  replace hpl : (pcsL d).length ≤ d.crs.length := hpl
  refine ws_seqN Planar_n13 Planar_n14 rfl rfl rfl (ws_region rfl (wlo 0 1 rfl rfl rfl (wo_run rfl rfl (run_lss rfl rfl rfl) (wl_end rfl (nm_thn (ws_seqN Planar_n15 Planar_n16 rfl rfl rfl ?_))))))
  refine ws_condN Planar_n17 Planar_n18 rfl rfl rfl rfl (fun hb20 => ?_) (fun hb20 => ?_)
  ·replace hb20 := of_decide_eq_true hb20
   refine ws_skip rfl (nmk [0, 3, 4, 17, 18, 19] rfl (nm_thn (ws_seqN Planar_n19 Planar_n20 rfl rfl rfl (ws_blockN Planar_n21 1 rfl rfl rfl (ws_seqN Planar_n22 Planar_n23 rfl rfl rfl (ws_region rfl (wlm 0 1 rfl rfl rfl rfl rfl rfl rfl (wlo 1 2 rfl rfl rfl (wo_run rfl rfl (run_indexM (C := (cdV 53)) i rfl rfl rfl sl103 (by first | rfl | omega) hr1 (by first | omega | (simp only [lens]; omega))) ?_)))))))))
   obtain ⟨hn1, hr2⟩ := hd1.2 i (by first | omega | (simp only [lens]; omega))
   have rmhr2 : (ga (pcsL d) i).length * 8 ≤ 140737488355328 := hr2.room
   refine wlo 2 3 rfl rfl rfl (wo_run rfl rfl (run_load1 rfl rfl Tryz.underlying53 rfl (hr1.cell S3.m (i := i) (by first | omega | (simp only [lens]; omega)) 0 rfl (congrArg (fun n => some (Value.slice _ n _)) hn1))) ?_)
   refine wla 3 4 rfl rfl rfl rfl rfl rfl rfl (wla 4 5 rfl rfl rfl rfl rfl rfl rfl (wl_end rfl (nmk [0, 3, 4, 17, 18, 19, 5, 6] rfl (nm_thn (ws_seqN Planar_n24 Planar_n25 rfl rfl rfl (ws_region rfl (wlm 0 1 rfl rfl rfl rfl rfl rfl rfl (wlo 1 2 rfl rfl rfl (wo_run rfl rfl (run_len rfl rfl rfl rfl rfl rfl Tryz.underlying53) ?_)))))))))
   refine wlm 2 3 rfl rfl rfl rfl rfl rfl rfl (wl_end rfl (nmk [0, 3, 4, 17, 18, 19, 5, 24, 25, 26] rfl (nm_thn (ws_blockN Planar_n26 2 rfl rfl rfl ?_))))
   refine ws_loopE (fun mx_ ax_ wx_ => ∃ (k : Nat) (es2 : List (Int × Int)), mx_ = (ga (pcsL d) i).length - k ∧ Env 75 [(0, .pointer (some ⟨gsh, 0, none⟩)), (3, .map (some gm1)), (4, .slice A1 vs1.length c1), (17, .slice A1 vs1.length c1), (18, .int .i64 (vs1.length : Int)), (19, .int .i64 (i : Int)), (5, .int .i64 (i : Int)), (24, .slice ((ga vs1 i).A) (ga (pcsL d) i).length ((ga vs1 i).c)), (25, .int .i64 ((ga (pcsL d) i).length : Int)), (26, .int .i64 (k : Int))] ax_ ∧ SH wx_ M1 X [Rs.mp (Value.int .i64) (Value.int .i64) gm1 es2] ∧ k ≤ (ga (pcsL d) i).length ∧ es2 = putP i (ga (pcsL d) i) es k) rfl ?_ ?_
   ·intro ax_ hax_
    refine ⟨_, ⟨0, es, rfl, hax_.sub ⟨rfl, rfl, rfl, rfl, rfl, rfl, rfl, rfl, rfl, rfl, trivial⟩, S3.pick [0] [_] (by decide) ⟨rfl, trivial⟩, ?hq2f0, ?hq2f1⟩⟩
    case hq2f0 => omega
    case hq2f1 => rfl
   ·rintro m3 a2 w4 ⟨k, es2, rfl, he2, S4, hk, hes2⟩
    clear S3
    refine ws_in he2 (c := Planar_n27) rfl ?_
    clear he2 a2
    have hpb := pcsL_bd hab (i := i) (by omega)
    refine ws_seqN Planar_n28 Planar_n29 rfl rfl rfl (ws_region rfl (wlo 0 1 rfl rfl rfl (wo_run rfl rfl (run_lss rfl rfl rfl) (wl_end rfl (nm_thn (ws_seqN Planar_n30 Planar_n31 rfl rfl rfl ?_))))))
    refine ws_condN Planar_n32 Planar_n33 rfl rfl rfl rfl (fun hb27 => ?_) (fun hb27 => ?_)
    ·replace hb27 := of_decide_eq_true hb27
     refine ws_skip rfl (nmk [0, 3, 4, 17, 18, 19, 5, 24, 25, 26] rfl (nm_thn (ws_seqN Planar_n34 Planar_n35 rfl rfl rfl (ws_blockN Planar_n36 3 rfl rfl rfl (ws_seqN Planar_n37 Planar_n38 rfl rfl rfl (ws_region rfl (wlo 0 1 rfl rfl rfl (wo_run rfl rfl (run_indexM (C := cdInt) k rfl rfl rfl sl53 (by first | rfl | omega) hr2 (by first | omega | (simp only [lens]; omega))) ?_))))))))
     refine wlo 1 2 rfl rfl rfl (wo_run rfl rfl (run_load1 rfl rfl Tryz.underlying3 rfl (hr2.cell S4.m (i := k) (by first | omega | (simp only [lens]; omega)) 0 rfl rfl)) ?_)
     refine wla 2 3 rfl rfl rfl rfl rfl rfl rfl (wl_end rfl (nmk [0, 3, 4, 17, 18, 19, 5, 24, 25, 26, 8] rfl (nm_thn (ws_region rfl (wlm 0 1 rfl rfl rfl rfl rfl rfl rfl (wlm 1 2 rfl rfl rfl rfl rfl rfl rfl (wlm 2 3 rfl rfl rfl rfl rfl rfl rfl (wlo 3 4 rfl rfl rfl (wo_mapUpdate (kc := Value.int .i64) (vc := Value.int .i64) (es := es2) (k := (ga (ga (pcsL d) i) k)) (e := (i : Int)) (i := 0) (H' := [_]) (.inl rfl) rfl S4 rfl rfl rfl rfl Tryz.underlying98 mk3 rfl ?_)))))))))
     intro w5 S5; clear S4
     refine wl_end rfl (nm_blk (nmk [0, 3, 4, 17, 18, 19, 5, 24, 25, 26] rfl (nm_thn (ws_region rfl (wlo 0 1 rfl rfl rfl (wo_run rfl rfl (run_add rfl rfl rfl (by first | omega | (simp only [lens]; omega))) ?_))))))
     refine wlm 1 2 rfl rfl rfl rfl rfl rfl rfl (wl_end rfl (nm_lp ?_))
     intro ax_ hax_
     refine ⟨_, ?hq3m, ⟨k + 1, _, rfl, hax_.sub ⟨rfl, rfl, rfl, rfl, rfl, rfl, rfl, rfl, rfl, rfl, trivial⟩, S5.pick [0] [_] (by decide) ⟨rfl, trivial⟩, ?hq3f0, ?hq3f1⟩⟩
     case hq3f0 => omega
     case hq3f1 => (rw [hes2]; rfl)
     case hq3m => omega
    ·replace hb27 := of_decide_eq_false hb27
     refine ws_exit rfl rfl (nm_blk (nmk [0, 3, 4, 17, 18, 19] rfl (nm_thn (ws_region rfl (wlo 0 1 rfl rfl rfl (wo_run rfl rfl (run_add rfl rfl rfl (by first | omega | (simp only [lens]; omega))) ?_))))))
     refine wlm 1 2 rfl rfl rfl rfl rfl rfl rfl (wl_end rfl (nm_lp ?_))
     intro ax_ hax_
     refine ⟨_, ?hq4m, ⟨i + 1, _, rfl, hax_.sub ⟨rfl, rfl, rfl, rfl, rfl, rfl, trivial⟩, S4.pick [0] [_] (by decide) ⟨rfl, trivial⟩, ?hq4f0, ?hq4f1⟩⟩
     case hq4f0 => omega
     case hq4f1 => (obtain rfl : k = (ga (pcsL d) i).length := (by omega); rw [hes2, hes]; rfl)
     case hq4m => omega
  ·replace hb20 := of_decide_eq_false hb20
   have hesd : es = pmap d := by rw [hes, show i = (pcsL d).length by omega]; rfl
   have hpl0 := pcsN_many d d.crs.length
   replace hpl0 : (pcsL d).length ≤ d.crs.length := hpl0
   refine ws_exit rfl rfl (nmk [0, 3, 4] rfl (nm_thn (ws_seqN Planar_n39 Planar_n40 rfl rfl rfl (ws_region rfl (wlm 0 1 rfl rfl rfl rfl rfl rfl rfl (wlo 1 2 rfl rfl rfl (wo_run rfl rfl (run_len rfl rfl rfl rfl rfl rfl Tryz.underlying103) (wlo 2 3 rfl rfl rfl (wo_make (C := cdInt) vs1.length rfl rfl rfl rfl rfl sl53 (by first | rfl | omega) (by show _ * 8 ≤ _; first | omega | (simp only [lens]; omega)) S3 ?_)))))))))
   intro vr1 w6 S6; clear S3
   refine wla 3 4 rfl rfl rfl rfl rfl rfl rfl (wl_end rfl (nmk [0, 3, 4, 9] rfl (nm_thn (ws_seqN Planar_n41 Planar_n42 rfl rfl rfl (ws_seqN Planar_n43 Planar_n44 rfl rfl rfl (ws_region rfl (wlm 0 1 rfl rfl rfl rfl rfl rfl rfl (wlo 1 2 rfl rfl rfl (wo_ct rfl rfl rfl rfl rfl rfl rfl cf66 S6 (InF.Faces_t d hsb hsc hsi hso hn hab S6.lend) ?_)))))))))
   intro vw7 w7 M2 hle4 S7 hRw7; clear S6
   replace hsb := hsb.mono hle4
   replace hsc := hsc.mono hle4
   replace hsi := hsi.mono hle4
   replace hso := hso.mono hle4
   replace hr1 := hr1.mono hle4
   replace hd1 := hd1.mono hle4
   obtain ⟨A2, c2, vs2, rfl, hr3, hd2⟩ := hRw7
   have hlenfacesL := hd2.1
   refine wlo 2 3 rfl rfl rfl (wo_run rfl rfl (run_len rfl rfl rfl rfl rfl rfl Tryz.underlying65) (wlm 3 4 rfl rfl rfl rfl rfl rfl rfl (wl_end rfl (nmk [0, 3, 4, 9, 39, 40, 41] rfl (nm_thn (ws_blockN Planar_n45 4 rfl rfl rfl ?_))))))
   refine ws_loopE (fun mx_ ax_ wx_ => ∃ (k : Nat) (fs : List Int) (vrf : Value), mx_ = (facesL d).length - k ∧ Env 75 [(0, .pointer (some ⟨gsh, 0, none⟩)), (3, .map (some gm1)), (4, .slice A1 vs1.length c1), (9, vrf), (39, .slice A2 vs2.length c2), (40, .int .i64 (vs2.length : Int)), (41, .int .i64 (k : Int))] ax_ ∧ SH wx_ M2 X [Rs.row cdInt vrf fs, Rs.mp (Value.int .i64) (Value.int .i64) gm1 es] ∧ k ≤ (facesL d).length ∧ fs = fcN d k) rfl ?_ ?_
   ·intro ax_ hax_
    refine ⟨_, ⟨0, _, _, rfl, hax_.sub ⟨rfl, rfl, rfl, rfl, rfl, rfl, rfl, trivial⟩, S7.pick [0, 1] [_, _] (by decide) ⟨rfl, rfl, trivial⟩, ?hq5f0, ?hq5f1⟩⟩
    case hq5f0 => omega
    case hq5f1 => (rw [hlenpcsL]; rfl)
   ·rintro m4 a3 w8 ⟨k, fs, vrf, rfl, he3, S8, hk, hfs⟩
    clear S7
    refine ws_in he3 (c := Planar_n46) rfl ?_
    clear he3 a3
    have hfm := facesL_many d
    have hfl2 : fs.length = (pcsL d).length := by rw [hfs, fcN_len]
    refine ws_seqN Planar_n47 Planar_n48 rfl rfl rfl (ws_region rfl (wlo 0 1 rfl rfl rfl (wo_run rfl rfl (run_lss rfl rfl rfl) (wl_end rfl (nm_thn (ws_seqN Planar_n49 Planar_n50 rfl rfl rfl ?_))))))
    refine ws_condN Planar_n51 Planar_n52 rfl rfl rfl rfl (fun hb42 => ?_) (fun hb42 => ?_)
    ·replace hb42 := of_decide_eq_true hb42
     obtain ⟨hh0, hok⟩ := hd0_ok (d := d) (k := k) (by omega)
     have hfc := fcC_lt hab (k := k) (by omega)
     have hpi := pcI_lt hab hfc
     obtain ⟨hpi1, hpi2, hpi3⟩ := hpi
     rw [← hesd] at hpi3
     have hfb := fcN_bd d k (pcI d (fcC d k))
     rw [← hfs] at hfb
     refine ws_skip rfl (nmk [0, 3, 4, 9, 39, 40, 41] rfl (nm_thn (ws_seqN Planar_n53 Planar_n54 rfl rfl rfl (ws_blockN Planar_n55 5 rfl rfl rfl (ws_seqN Planar_n56 Planar_n57 rfl rfl rfl (ws_region rfl (wlo 0 1 rfl rfl rfl (wo_run rfl rfl (run_indexM (C := (cdV 141)) k rfl rfl rfl sl65 (by first | rfl | omega) hr3 (by first | omega | (simp only [lens]; omega))) ?_))))))))
     obtain ⟨hn2, hr4⟩ := hd2.2 k (by first | omega | (simp only [lens]; omega))
     have rmhr4 : (ga (facesL d) k).length * 16 ≤ 140737488355328 := hr4.room
     refine wlo 1 2 rfl rfl rfl (wo_run rfl rfl (run_load1 rfl rfl Tryz.underlying141 rfl (hr3.cell S8.m (i := k) (by first | omega | (simp only [lens]; omega)) 0 rfl (congrArg (fun n => some (Value.slice _ n _)) hn2))) ?_)
     refine wla 2 3 rfl rfl rfl rfl rfl rfl rfl (wl_end rfl (nmk [0, 3, 4, 9, 39, 40, 41, 11] rfl (nm_thn (ws_region rfl (wlm 0 1 rfl rfl rfl rfl rfl rfl rfl (wlm 1 2 rfl rfl rfl rfl rfl rfl rfl (wlm 2 3 rfl rfl rfl rfl rfl rfl rfl (wlm 3 4 rfl rfl rfl rfl rfl rfl rfl ?_))))))))
     refine wlo 4 5 rfl rfl rfl (wo_run rfl rfl (run_indexM (C := cdDa) 0 rfl rfl rfl sl141 (by first | rfl | omega) hr4 (by first | omega | (simp only [lens]; omega))) ?_)
     refine wlo 5 6 rfl rfl rfl (wo_run rfl rfl (run_loadN (us := [_, _]) rfl rfl Tryz.underlying26 rfl sz26 (hr4.cellsAt S8.m (e := 0) (by first | omega | (simp only [lens]; omega)) (j := 0) ⟨rfl, rfl, trivial⟩)) ?_)
     refine wlo 6 7 rfl rfl rfl (wo_cq rfl rfl rfl rfl rfl rfl rfl cf106 S8 (Head_q d (ga (ga (facesL d) k) 0) (hsb.mono (Hp.le_un _ _)) (hsc.mono (Hp.le_un _ _)) (hsi.mono (Hp.le_un _ _)) (hso.mono (Hp.le_un _ _)) (by first | assumption | omega) hab (by first | assumption | omega) S8.lend) ?_)
     rintro _ w9 S9 rfl; clear S8
     refine wlo 7 8 rfl rfl rfl (wo_run rfl rfl (run_field0 rfl rfl Tryz.underlying190 rfl Tryz.underlying3 rfl rfl) (wlo 8 9 rfl rfl rfl (wo_run rfl rfl (run_lookup (kc := Value.int .i64) (vc := Value.int .i64) (es := es) (k := ((endOf d (ga (ga (facesL d) k) 0).a (ga (ga (facesL d) k) 0).b).1 : Int)) (zv := 0) (i := 1) rfl rfl rfl Tryz.underlying98 mk3 zr3 S9 rfl) (wl_eq 53 (.int .i64 (pcI d (fcC d k) : Int)) rfl (int_eq hpi3) (wlo 9 10 rfl rfl rfl (wo_run rfl rfl (run_indexR (C := cdInt) (i := 0) (pcI d (fcC d k)) rfl rfl rfl sl53 S9 rfl (by first | rfl | omega) (by first | omega | (simp only [lens]; omega))) ?_))))))
     refine wlo 10 11 rfl rfl rfl (wo_run rfl rfl (run_load1 rfl rfl Tryz.underlying3 rfl (S9.rowc (i := 0) (e := pcI d (fcC d k)) (j := 0) rfl (by first | omega | (simp only [lens]; omega)) rfl rfl)) ?_)
     refine wlo 11 12 rfl rfl rfl (wo_run rfl rfl (run_add rfl rfl rfl (by first | omega | (simp only [lens]; omega))) ?_)
     refine wlo 12 13 rfl rfl rfl (wo_run rfl rfl (run_indexR (C := cdInt) (i := 0) (pcI d (fcC d k)) rfl rfl rfl sl53 S9 rfl (by first | rfl | omega) (by first | omega | (simp only [lens]; omega))) ?_)
     refine wlo 13 14 rfl rfl rfl (wo_storeR (C := cdInt) (i := 0) (e := pcI d (fcC d k)) (j := 0) (us := [_]) (H' := [_, _]) ((ga fs (pcI d (fcC d k))) + 1) rfl rfl S9 rfl (by first | omega | (simp only [lens]; omega)) rfl rfl rfl sz3 rfl rfl rfl rfl ?_)
     intro w10 S10; clear S9
     refine wl_end rfl (nm_blk (nmk [0, 3, 4, 9, 39, 40, 41] rfl (nm_thn (ws_region rfl (wlo 0 1 rfl rfl rfl (wo_run rfl rfl (run_add rfl rfl rfl (by first | omega | (simp only [lens]; omega))) ?_))))))
     refine wlm 1 2 rfl rfl rfl rfl rfl rfl rfl (wl_end rfl (nm_lp ?_))
     intro ax_ hax_
     refine ⟨_, ?hq6m, ⟨k + 1, _, _, rfl, hax_.sub ⟨rfl, rfl, rfl, rfl, rfl, rfl, rfl, trivial⟩, S10.pick [0, 1] [_, _] (by decide) ⟨rfl, rfl, trivial⟩, ?hq6f0, ?hq6f1⟩⟩
     case hq6f0 => omega
     case hq6f1 => (rw [hfs]; rfl)
     case hq6m => omega
    ·replace hb42 := of_decide_eq_false hb42
     have hfs3 : fs = fcN d (facesL d).length := by rw [hfs, show k = (facesL d).length by omega]
     refine ws_exit rfl rfl (nmk [4, 9] rfl (nm_thn (ws_seqN Planar_n58 Planar_n59 rfl rfl rfl (ws_seqN Planar_n60 Planar_n61 rfl rfl rfl (ws_region rfl (wlm 0 1 rfl rfl rfl rfl rfl rfl rfl (wlo 1 2 rfl rfl rfl (wo_run rfl rfl (run_len rfl rfl rfl rfl rfl rfl Tryz.underlying103) (wlm 2 3 rfl rfl rfl rfl rfl rfl rfl ?_)))))))))
     refine wl_end rfl (nmk [9, 59, 60, 61] rfl (nm_thn (ws_blockN Planar_n62 6 rfl rfl rfl ?_)))
     refine ws_loopE (fun mx_ ax_ wx_ => ∃ (j : Nat), mx_ = (pcsL d).length - j ∧ Env 75 [(9, vrf), (59, .slice A1 vs1.length c1), (60, .int .i64 (vs1.length : Int)), (61, .int .i64 (j : Int))] ax_ ∧ SH wx_ M2 X [Rs.row cdInt vrf fs] ∧ j ≤ (pcsL d).length ∧ (∀ q, q < j → ga fs q = ((ga (pcsL d) q).length : Int) + 2)) rfl ?_ ?_
     ·intro ax_ hax_
      refine ⟨_, ⟨0, rfl, hax_.sub ⟨rfl, rfl, rfl, rfl, trivial⟩, S8.pick [0] [_] (by decide) ⟨rfl, trivial⟩, ?hq7f0, ?hq7f1⟩⟩
      case hq7f0 => omega
      case hq7f1 => (intro q hq; omega)
     ·rintro m5 a4 w11 ⟨j, rfl, he4, S11, hj, hall⟩
      clear S8
      refine ws_in he4 (c := Planar_n63) rfl ?_
      clear he4 a4
      have hpl := pcsN_many d d.crs.length
      replace hpl : (pcsL d).length ≤ d.crs.length := hpl
      have hfl2 : fs.length = (pcsL d).length := by rw [hfs3, fcN_len]
      refine ws_seqN Planar_n64 Planar_n65 rfl rfl rfl (ws_region rfl (wlo 0 1 rfl rfl rfl (wo_run rfl rfl (run_lss rfl rfl rfl) (wl_end rfl (nm_thn (ws_seqN Planar_n66 Planar_n67 rfl rfl rfl ?_))))))
      refine ws_condN Planar_n68 Planar_n69 rfl rfl rfl rfl (fun hb62 => ?_) (fun hb62 => ?_)
      ·replace hb62 := of_decide_eq_true hb62
       have hpb := pcsL_bd hab (i := j) (by omega)
       refine ws_skip rfl (nmk [9, 59, 60, 61] rfl (nm_thn (ws_seqN Planar_n70 Planar_n71 rfl rfl rfl (ws_blockN Planar_n72 7 rfl rfl rfl (ws_seqN Planar_n73 Planar_n74 rfl rfl rfl (ws_region rfl (wlm 0 1 rfl rfl rfl rfl rfl rfl rfl (wlo 1 2 rfl rfl rfl (wo_run rfl rfl (run_indexM (C := (cdV 53)) j rfl rfl rfl sl103 (by first | rfl | omega) hr1 (by first | omega | (simp only [lens]; omega))) ?_)))))))))
       obtain ⟨hn3, hr5⟩ := hd1.2 j (by first | omega | (simp only [lens]; omega))
       have rmhr5 : (ga (pcsL d) j).length * 8 ≤ 140737488355328 := hr5.room
       refine wlo 2 3 rfl rfl rfl (wo_run rfl rfl (run_load1 rfl rfl Tryz.underlying53 rfl (hr1.cell S11.m (i := j) (by first | omega | (simp only [lens]; omega)) 0 rfl (congrArg (fun n => some (Value.slice _ n _)) hn3))) ?_)
       refine wla 3 4 rfl rfl rfl rfl rfl rfl rfl (wla 4 5 rfl rfl rfl rfl rfl rfl rfl (wl_end rfl (nmk [9, 59, 60, 61, 12, 13] rfl (nm_thn (ws_seqN Planar_n75 Planar_n76 rfl rfl rfl (ws_region rfl (wlm 0 1 rfl rfl rfl rfl rfl rfl rfl (wlm 1 2 rfl rfl rfl rfl rfl rfl rfl ?_))))))))
       refine wlo 2 3 rfl rfl rfl (wo_run rfl rfl (run_indexR (C := cdInt) (i := 0) j rfl rfl rfl sl53 S11 rfl (by first | rfl | omega) (by first | omega | (simp only [lens]; omega))) ?_)
       refine wlo 3 4 rfl rfl rfl (wo_run rfl rfl (run_load1 rfl rfl Tryz.underlying3 rfl (S11.rowc (i := 0) (e := j) (j := 0) rfl (by first | omega | (simp only [lens]; omega)) rfl rfl)) ?_)
       refine wlm 4 5 rfl rfl rfl rfl rfl rfl rfl (wlo 5 6 rfl rfl rfl (wo_run rfl rfl (run_len rfl rfl rfl rfl rfl rfl Tryz.underlying53) (wlo 6 7 rfl rfl rfl (wo_run rfl rfl (run_add rfl rfl rfl (by first | omega | (simp only [lens]; omega))) ?_))))
       refine wlo 7 8 rfl rfl rfl (wo_run rfl rfl (run_neq rfl rfl rfl) (wl_end rfl (nmk [9, 59, 60, 61, 73] rfl (nm_thn ?_))))
       refine ws_condN Planar_n77 Planar_n78 rfl rfl rfl rfl (fun hb73 => ?_) (fun hb73 => ?_)
       ·replace hb73 := of_decide_eq_true hb73
        refine ws_seqN Planar_n79 Planar_n80 rfl rfl rfl (ws_region rfl (wla 0 1 rfl rfl rfl rfl rfl rfl rfl (wl_end rfl (nmk [2] rfl (nm_thn (ws_ret hC [_] rfl rfl ⟨rfl, trivial⟩ ?_))))))
        refine ⟨_, rfl, _, hle1.trans hle4, (S11.pick [] [] (by decide) trivial), ?_⟩
        refine congrArg Value.bool (planP_f (i := j) (by omega) ?_).symm
        rw [← hfs3]; omega
       ·replace hb73 := of_decide_eq_false hb73
        refine ws_skip rfl (nm_blk (nmk [9, 59, 60, 61] rfl (nm_thn (ws_region rfl (wlo 0 1 rfl rfl rfl (wo_run rfl rfl (run_add rfl rfl rfl (by first | omega | (simp only [lens]; omega))) ?_))))))
        refine wlm 1 2 rfl rfl rfl rfl rfl rfl rfl (wl_end rfl (nm_lp ?_))
        intro ax_ hax_
        refine ⟨_, ?hq8m, ⟨j + 1, rfl, hax_.sub ⟨rfl, rfl, rfl, rfl, trivial⟩, S11.pick [0] [_] (by decide) ⟨rfl, trivial⟩, ?hq8f0, ?hq8f1⟩⟩
        case hq8f0 => omega
        case hq8f1 => (intro q hq; by_cases h : q = j; (subst h; omega); exact hall q (by omega))
        case hq8m => omega
      ·replace hb62 := of_decide_eq_false hb62
       refine ws_exit rfl rfl (nm_sub [] trivial (nm_thn (ws_seqN Planar_n81 Planar_n82 rfl rfl rfl (ws_region rfl (wla 0 1 rfl rfl rfl rfl rfl rfl rfl (wl_end rfl (nm_thn (ws_ret hC [_] rfl rfl ⟨rfl, trivial⟩ ?_))))))))
       refine ⟨_, rfl, _, hle1.trans hle4, (S11.pick [] [] (by decide) trivial), ?_⟩
       exact congrArg Value.bool (planP_t (d := d) (fun q hq => by rw [← hfs3]; exact hall q (by omega))).symm
end Go.Proofs.YthppkofceancjaaGreat
namespace Go.Proofs.YthppkofceancjaaGreat
open Go.ChangeShapes Go.WideShapes Go.ChangeAt Go.RowKit
def roundG (e1 e2 : Nat → Nat) (ws : List Int) : Nat → List Int
 | 0 => ws
 | k + 1 => stepW (roundG e1 e2 ws k) (e1 k) (e2 k)
def cn (P : Nat → Bool) : Nat → Nat
 | 0 => 0
 | k + 1 => cn P k + (if P k = true then 1 else 0)
theorem cn_le (P : Nat → Bool) (k : Nat) : cn P k ≤ k := by
 induction k with
 | zero => exact Nat.le_refl _
 | succ k ih => rw [cn]; split <;> omega
theorem cn_mono {P Q : Nat → Bool} (k : Nat) (h : ∀ x, x < k → P x = true → Q x = true) : cn P k ≤ cn Q k := by
 induction k with
 | zero => exact Nat.le_refl _
 | succ k ih =>
  have := ih (fun x hx => h x (by omega))
  rw [cn, cn]
  by_cases hp : P k = true
  ·rw [if_pos hp, if_pos (h k (by omega) hp)]; omega
  ·rw [if_neg hp]; omega
theorem cn_lt {P Q : Nat → Bool} (k : Nat) (h : ∀ x, x < k → P x = true → Q x = true) {x : Nat} (hx : x < k) (hq : Q x = true) (hp : P x = false) : cn P k < cn Q k := by
 induction k with
 | zero => omega
 | succ k ih =>
  rw [cn, cn]
  by_cases e : x = k
  ·subst e
   have := cn_mono x (P := P) (Q := Q) (fun y hy => h y (by omega))
   rw [if_pos hq, if_neg (by rw [hp]; exact Bool.false_ne_true)]; omega
  ·have := ih (fun y hy => h y (by omega)) (by omega)
   by_cases hp' : P k = true
   ·rw [if_pos hp', if_pos (h k (by omega) hp')]; omega
   ·rw [if_neg hp']; omega
theorem cn_all {P : Nat → Bool} (k : Nat) (h : k ≤ cn P k) : ∀ x, x < k → P x = true := by
 induction k with
 | zero => intro x hx; omega
 | succ k ih =>
  rw [cn] at h
  have hl := cn_le P k
  by_cases hp : P k = true
  ·intro x hx
   by_cases e : x = k
   ·subst e; exact hp
   ·rw [if_pos hp] at h; exact ih (by omega) x (by omega)
  ·rw [if_neg hp] at h; omega
theorem least {P : Nat → Prop} (y : Nat) (h : P y) : ∃ z, P z ∧ ∀ u, P u → z ≤ u := by
 induction y using Nat.strongRecOn with
 | _ y ih =>
  by_cases hs : ∃ u, u < y ∧ P u
  ·obtain ⟨u, hu, hp⟩ := hs
   exact ih u hu hp
  ·exact ⟨y, h, fun u hu => by
    rcases Nat.lt_or_ge u y with h1 | h1
    ·exact absurd ⟨u, h1, hu⟩ hs
    ·exact h1⟩
/-- Labels lie in their class; m is the least of each class. -/
def LabOk (N : Nat) (cl : Nat → Nat) (ws : List Int) : Prop := ws.length = N ∧ ∀ x, x < N → ∃ z : Nat, z < N ∧ ga ws x = (z : Int) ∧ cl z = cl x
theorem stepW_ok {N : Nat} {cl : Nat → Nat} {ws : List Int} (h : LabOk N cl ws) {x y : Nat} (hx : x < N) (hy : y < N) (hc : cl x = cl y) : LabOk N cl (stepW ws x y) := by
 refine ⟨by rw [stepW_len]; exact h.1, fun z hz => ?_⟩
 have hl := h.1
 unfold stepW
 split
 ·rw [ga_set _ _ _ _ (by omega)]
  split
  ·rename_i e; subst e
   obtain ⟨u, h1, h2, h3⟩ := h.2 x hx
   exact ⟨u, h1, h2, h3.trans hc⟩
  ·exact h.2 z hz
 ·rw [ga_set _ _ _ _ (by omega)]
  split
  ·rename_i e; subst e
   obtain ⟨u, h1, h2, h3⟩ := h.2 y hy
   exact ⟨u, h1, h2, h3.trans hc.symm⟩
  ·exact h.2 z hz
/-- What a step does to those that have the least label. -/
theorem stepW_good {N : Nat} {cl : Nat → Nat} {m : Nat → Nat} (hm : ∀ x, x < N → ∀ y, y < N → cl y = cl x → m x ≤ y) (hmc : ∀ x y, x < N → y < N → cl x = cl y → m x = m y) {ws : List Int} (h : LabOk N cl ws) {x y : Nat} (hx : x < N) (hy : y < N) (hc : cl x = cl y) :
  (∀ z, z < N → ga ws z = (m z : Int) → ga (stepW ws x y) z = (m z : Int)) ∧ (ga ws x = (m x : Int) ∨ ga ws y = (m y : Int) → ga (stepW ws x y) x = (m x : Int) ∧ ga (stepW ws x y) y = (m y : Int)) := by
 have hl := h.1
 have hmm := hmc x y hx hy hc
 obtain ⟨u, u1, u2, u3⟩ := h.2 x hx
 obtain ⟨v, v1, v2, v3⟩ := h.2 y hy
 have b1 := hm x hx u u1 u3
 have b2 := hm y hy v v1 v3
 unfold stepW
 by_cases hlt : ga ws x < ga ws y
 ·rw [if_pos hlt]
  simp only [ga_set _ _ _ _ (show y < ws.length by omega)]
  refine ⟨fun z hz hg => ?_, fun hg => ?_⟩
  ·split
   ·rename_i e; subst e; omega
   ·exact hg
  ·simp only [if_true, ite_self]
   have e0 : ga ws x = (m x : Int) := by rcases hg with hg | hg <;> omega
   omega
 ·rw [if_neg hlt]
  simp only [ga_set _ _ _ _ (show x < ws.length by omega)]
  refine ⟨fun z hz hg => ?_, fun hg => ?_⟩
  ·split
   ·rename_i e; subst e; omega
   ·exact hg
  ·simp only [if_true, ite_self]
   have e0 : ga ws y = (m y : Int) := by rcases hg with hg | hg <;> omega
   omega
theorem labels {N K : Nat} (e1 e2 : Nat → Nat) (he : ∀ k, k < K → e1 k < N ∧ e2 k < N) (cl : Nat → Nat) (hin : ∀ k, k < K → cl (e1 k) = cl (e2 k))
  (hcon : ∀ Z : Nat → Prop, (∀ k, k < K → (Z (e1 k) ↔ Z (e2 k))) → ∀ x y, x < N → y < N → cl x = cl y → Z x → Z y)
  (ws : Nat → List Int) (hlen : (ws 0).length = N) (h0 : ∀ x : Nat, x < N → ga (ws 0) x = (x : Int)) (hs : ∀ j, ws (j + 1) = roundG e1 e2 (ws j) K) :
  ∀ x, x < N → ∃ z : Nat, z < N ∧ ga (ws N) x = (z : Int) ∧ cl z = cl x ∧ ∀ y, y < N → cl y = cl x → z ≤ y := by
 have hex : ∀ x : Nat, ∃ z : Nat, x < N → (z < N ∧ cl z = cl x) ∧ ∀ u, u < N ∧ cl u = cl x → z ≤ u := fun x => by
  by_cases hx : x < N
  ·obtain ⟨z, h1, h2⟩ := least (P := fun z => z < N ∧ cl z = cl x) x ⟨hx, rfl⟩
   exact ⟨z, fun _ => ⟨h1, h2⟩⟩
  ·exact ⟨0, fun h => absurd h hx⟩
 obtain ⟨m, hm0⟩ := Classical.axiomOfChoice hex
 have hm : ∀ x, x < N → ∀ y, y < N → cl y = cl x → m x ≤ y := fun x hx y hy e => (hm0 x hx).2 y ⟨hy, e⟩
 have hmc : ∀ x y, x < N → y < N → cl x = cl y → m x = m y := fun x y hx hy e => by
  have h1 := hm0 x hx
  have h2 := hm0 y hy
  have := h1.2 (m y) ⟨h2.1.1, h2.1.2.trans e.symm⟩
  have := h2.2 (m x) ⟨h1.1.1, h1.1.2.trans e⟩
  omega
 have hround : ∀ w, LabOk N cl w → ∀ k, k ≤ K → LabOk N cl (roundG e1 e2 w k) ∧ (∀ z, z < N → ga w z = (m z : Int) → ga (roundG e1 e2 w k) z = (m z : Int)) ∧
   ∀ j, j < k → (ga w (e1 j) = (m (e1 j) : Int) ∨ ga w (e2 j) = (m (e2 j) : Int)) → ga (roundG e1 e2 w k) (e1 j) = (m (e1 j) : Int) ∧ ga (roundG e1 e2 w k) (e2 j) = (m (e2 j) : Int) := fun w hw k => by
  induction k with
  | zero => exact fun _ => ⟨hw, fun z _ h => h, fun j hj => by omega⟩
  | succ k ih =>
   intro hk
   obtain ⟨a1, a2, a3⟩ := ih (by omega)
   obtain ⟨p1, p2⟩ := he k (by omega)
   have hc := hin k (by omega)
   obtain ⟨g1, g2⟩ := stepW_good hm hmc a1 p1 p2 hc
   refine ⟨stepW_ok a1 p1 p2 hc, fun z hz h => g1 z hz (a2 z hz h), fun j hj hg => ?_⟩
   obtain ⟨q1, q2⟩ := he j (by omega)
   by_cases e : j = k
   ·subst e
    exact g2 (hg.elim (fun h => .inl (a2 _ q1 h)) (fun h => .inr (a2 _ q2 h)))
   ·obtain ⟨r1, r2⟩ := a3 j (by omega) hg
    exact ⟨g1 _ q1 r1, g1 _ q2 r2⟩
 have hok : ∀ j, LabOk N cl (ws j) := fun j => by
  induction j with
  | zero => exact ⟨hlen, fun x hx => ⟨x, hx, h0 x hx, rfl⟩⟩
  | succ j ih => rw [hs]; exact (hround _ ih K (Nat.le_refl _)).1
 have hpers : ∀ j z, z < N → ga (ws j) z = (m z : Int) → ga (ws (j + 1)) z = (m z : Int) := fun j z hz h => by rw [hs]; exact (hround _ (hok j) K (Nat.le_refl _)).2.1 z hz h
 have hroot : ∀ j x, x < N → ga (ws j) (m x) = (m (m x) : Int) := fun j x hx => by
  have h1 := (hm0 x hx).1
  have e : m (m x) = m x := hmc _ _ h1.1 hx h1.2
  induction j with
  | zero => rw [h0 _ h1.1, e]
  | succ j ih => exact hpers j _ h1.1 ih
 have hgrow : ∀ j, (∀ x, x < N → ga (ws j) x = (m x : Int)) ∨ j ≤ cn (fun x => decide (ga (ws j) x = (m x : Int))) N := fun j => by
  induction j with
  | zero => exact .inr (Nat.zero_le _)
  | succ j ih =>
   rcases ih with ih | ih
   ·exact .inl fun x hx => hpers j x hx (ih x hx)
   ·by_cases hnew : ∃ x, x < N ∧ ga (ws (j + 1)) x = (m x : Int) ∧ ga (ws j) x ≠ (m x : Int)
    ·obtain ⟨x, hx, h1, h2⟩ := hnew
     right
     have := cn_lt (P := fun x => decide (ga (ws j) x = (m x : Int))) (Q := fun x => decide (ga (ws (j + 1)) x = (m x : Int))) N (fun z hz h => decide_eq_true (hpers j z hz (of_decide_eq_true h))) hx (decide_eq_true h1) (decide_eq_false h2)
     omega
    ·left
     have hsame : ∀ x, x < N → ga (ws (j + 1)) x = (m x : Int) → ga (ws j) x = (m x : Int) := fun x hx h => Classical.byContradiction fun h' => hnew ⟨x, hx, h, h'⟩
     have hcl := hcon (fun x => ga (ws j) x = (m x : Int)) (fun k hk => by
      obtain ⟨q1, q2⟩ := he k hk
      have h3 := (hround _ (hok j) K (Nat.le_refl _)).2.2 k hk
      rw [← hs] at h3
      exact ⟨fun h => hsame _ q2 (h3 (.inl h)).2, fun h => hsame _ q1 (h3 (.inr h)).1⟩)
     intro x hx
     have h1 := (hm0 x hx).1
     exact hpers j x hx (hcl (m x) x h1.1 hx h1.2 (hroot j x hx))
 intro x hx
 have hall : ga (ws N) x = (m x : Int) := by
  rcases hgrow N with h | h
  ·exact h x hx
  ·exact of_decide_eq_true (cn_all N h x hx)
 have h1 := hm0 x hx
 exact ⟨m x, h1.1.1, hall, h1.1.2, fun y hy e => h1.2 y ⟨hy, e⟩⟩
end Go.Proofs.YthppkofceancjaaGreat
namespace Go.Proofs.YthppkofceancjaaGreat
open Go.ChangeShapes Go.WideShapes Go.ChangeAt Go.RowKit
theorem edge_nb {d : Dg} (h : arcsB d = true) {x s : Nat} (hx : x < d.crs.length) (hs : s < 4) : ∃ k, k < 2 * d.crs.length ∧ ((endC d k false = x ∧ endC d k true = nbC d x s) ∨ (endC d k true = x ∧ endC d k false = nbC d x s)) := by
 have ha := arcAt_bd h hx hs
 have e : (((arcAt d x s).toNat - 1 + 1 : Nat) : Int) = arcAt d x s := by omega
 refine ⟨(arcAt d x s).toNat - 1, by omega, ?_⟩
 unfold endC nbC
 rw [e]
 cases hb : entryB d x s
 ·right
  exact ⟨by rw [endOf_back h hx hs (b := true) hb], rfl⟩
 ·left
  exact ⟨by rw [endOf_back h hx hs (b := false) hb], rfl⟩
theorem nb_edge {d : Dg} (h : arcsB d = true) {k : Nat} (hk : k < 2 * d.crs.length) : ∃ s, s < 4 ∧ nbC d (endC d k false) s = endC d k true := by
 have ha : 1 ≤ ((k + 1 : Nat) : Int) ∧ ((k + 1 : Nat) : Int) ≤ 2 * (d.crs.length : Int) := by omega
 obtain ⟨_, h2, _⟩ := endD h ha false
 obtain ⟨h3, h4⟩ := endOf_there h ha false
 refine ⟨(endOf d ((k + 1 : Nat) : Int) false).2, h2, ?_⟩
 unfold nbC endC
 rw [h3, h4]
 rfl
theorem pcI_nb {d : Dg} (h : arcsB d = true) {x s : Nat} (hx : x < d.crs.length) (hs : s < 4) : pcI d (nbC d x s) = pcI d x := by
 obtain ⟨h1, h2, _⟩ := pcI_lt h hx
 exact (pcI_at h h1 ((pcs h).clo _ h1 _ h2 s hs)).2
theorem iniW_ga (n k : Nat) (hk : k ≤ n) (x : Nat) (hx : x < k) : ga (iniW n k) x = (x : Int) := by
 induction k with
 | zero => omega
 | succ k ih =>
  rw [iniW, ga_set _ _ _ _ (by rw [iniW_len]; omega)]
  split
  ·rename_i e; subst e; rfl
  ·exact ih (by omega) (by omega)
theorem roundG_W (d : Dg) (ws : List Int) (k : Nat) : roundW d ws k = roundG (fun j => endC d j false) (fun j => endC d j true) ws k := by
 induction k with
 | zero => rfl
 | succ k ih => rw [roundW, roundG, ih]
theorem rc_lt {d : Dg} (h : arcsB d = true) {x y : Nat} (hr : Rc d x y) (hx : x < d.crs.length) : y < d.crs.length := by
 induction hr with
 | refl => exact hx
 | step _ hk ih => exact nbC_lt h ih hk
theorem pieces_join {d : Dg} (h : arcsB d = true) (Z : Nat → Prop) (hZ : ∀ x s, x < d.crs.length → s < 4 → (Z x ↔ Z (nbC d x s))) {x y : Nat} (hx : x < d.crs.length) (hy : y < d.crs.length) (e : pcI d x = pcI d y) : Z x → Z y := by
 have hrc : ∀ c z, c < d.crs.length → Rc d c z → (Z c ↔ Z z) := fun c z hc hr => by
  induction hr with
  | refl => exact Iff.rfl
  | step hr' hk ih => exact ih.trans (hZ _ _ (rc_lt h hr' hc) hk)
 obtain ⟨h1, h2, _⟩ := pcI_lt h hx
 obtain ⟨_, h2', _⟩ := pcI_lt h hy
 rw [← e] at h2'
 obtain ⟨_, c0, hc0, _, hel⟩ := (pcs h).el _ h1
 obtain ⟨u, eu, _, ru⟩ := hel _ h2
 obtain ⟨v, ev, _, rv⟩ := hel _ h2'
 obtain rfl : x = u := by omega
 obtain rfl : y = v := by omega
 exact fun hz => (hrc _ _ hc0 rv).1 ((hrc _ _ hc0 ru).2 hz)
/-- Each crossing's label is the least crossing of its piece. -/
theorem whoL_law {d : Dg} (h : arcsB d = true) : ∀ x, x < d.crs.length → ∃ z : Nat, z < d.crs.length ∧ ga (whoL d) x = (z : Int) ∧ pcI d z = pcI d x ∧ ∀ y, y < d.crs.length → pcI d y = pcI d x → z ≤ y :=
 labels (N := d.crs.length) (K := 2 * d.crs.length) (fun j => endC d j false) (fun j => endC d j true) (fun k hk => ⟨endC_lt h hk false, endC_lt h hk true⟩) (pcI d)
  (fun k hk => by
   obtain ⟨s, hs, e⟩ := nb_edge h hk
   rw [← e, pcI_nb h (endC_lt h hk false) hs])
  (fun Z hZ x y hx hy e => pieces_join h Z (fun u s hu hs => by
   obtain ⟨k, hk, hh⟩ := edge_nb h hu hs
   have := hZ k hk
   rcases hh with ⟨h1, h2⟩ | ⟨h1, h2⟩
   ·rw [h1, h2] at this; exact this
   ·rw [h1, h2] at this; exact this.symm) hx hy e)
  (rndsW d) (rndsW_len d 0) (fun x hx => iniW_ga _ _ (Nat.le_refl _) x hx) (fun j => by rw [rndsW, roundG_W])
theorem who_root {d : Dg} (h : arcsB d = true) {x z : Nat} (hx : x < d.crs.length) (hz : ga (whoL d) x = (z : Int)) : z < d.crs.length ∧ pcI d z = pcI d x ∧ ga (whoL d) z = (z : Int) := by
 obtain ⟨u, h1, h2, h3, h4⟩ := whoL_law h x hx
 obtain rfl : z = u := by omega
 obtain ⟨v, g1, g2, g3, g4⟩ := whoL_law h z h1
 have a1 := g4 z h1 rfl
 have a2 := h4 v g1 (g3.trans h3)
 obtain rfl : v = z := by omega
 exact ⟨h1, h3, g2⟩
theorem who_iff {d : Dg} (h : arcsB d = true) {p : Nat} (hp : p < d.crs.length) (hr : ga (whoL d) p = (p : Int)) {x : Nat} (hx : x < d.crs.length) : ga (whoL d) x = (p : Int) ↔ pcI d x = pcI d p := by
 constructor
 ·intro e
  exact (who_root h hx e).2.1.symm
 ·intro e
  obtain ⟨u, h1, h2, h3, h4⟩ := whoL_law h x hx
  obtain ⟨v, g1, g2, g3, g4⟩ := whoL_law h p hp
  obtain rfl : v = p := by omega
  have a1 := h4 v hp e.symm
  have a2 := g4 u h1 (h3.trans e)
  rw [h2]
  omega
theorem cn_congr {P Q : Nat → Bool} (k : Nat) (h : ∀ x, x < k → P x = Q x) : cn P k = cn Q k := by
 induction k with
 | zero => rfl
 | succ k ih => rw [cn, cn, ih (fun x hx => h x (by omega)), h k (by omega)]
theorem cn_filter (P : Nat → Bool) (k : Nat) : cn P k = ((List.range k).filter P).length := by
 induction k with
 | zero => rfl
 | succ k ih =>
  rw [cn, ih, List.range_succ, List.filter_append, List.length_append]
  by_cases hp : P k = true <;> simp [hp]
theorem negW_cn (ws : List Int) (p : Int) (k : Nat) : negW ws p k = -(cn (fun x => decide (ga ws x = p)) k : Int) := by
 induction k with
 | zero => rfl
 | succ k ih =>
  rw [negW, cn, ih]
  by_cases e : ga ws k = p
  ·rw [if_pos e, if_pos (decide_eq_true e)]; omega
  ·rw [if_neg e, if_neg (by simpa using e)]; omega
theorem facW_cn (d : Dg) (ws : List Int) (p m : Int) (k : Nat) : facW d ws p m k = m + (cn (fun x => decide (ga ws (fcC d x) = p)) k : Int) := by
 induction k with
 | zero => rw [facW, cn]; omega
 | succ k ih =>
  rw [facW, cn, ih]
  by_cases e : ga ws (fcC d k) = p
  ·rw [if_pos e, if_pos (decide_eq_true e)]; omega
  ·rw [if_neg e, if_neg (by simpa using e)]; omega
theorem fcN_cn (d : Dg) (i : Nat) (hi : i < (pcsL d).length) (k : Nat) : ga (fcN d k) i = (cn (fun x => decide (pcI d (fcC d x) = i)) k : Int) := by
 induction k with
 | zero => rw [fcN, ga_rep _ _ _ hi]; rfl
 | succ k ih =>
  rw [fcN, cn]
  by_cases e : pcI d (fcC d k) = i
  ·rw [if_pos (decide_eq_true e), e, ga_set _ _ _ _ (by rw [fcN_len]; exact hi), if_pos rfl, ih]; omega
  ·rw [if_neg (by simpa using e), ga_set_ne _ _ _ _ e, ih]; omega
theorem piece_cn {d : Dg} (h : arcsB d = true) {i : Nat} (hi : i < (pcsL d).length) : (ga (pcsL d) i).length = cn (fun x => decide (pcI d x = i)) d.crs.length := by
 rw [cn_filter]
 obtain ⟨h1, c0, _, _, h2⟩ := (pcs h).el i hi
 have hn : ((List.range d.crs.length).filter (fun x => decide (pcI d x = i))).Nodup := List.Nodup.sublist (List.filter_sublist) List.nodup_range
 apply Nat.le_antisymm
 ·have h3 := nodup_le (ys := ((List.range d.crs.length).filter (fun x => decide (pcI d x = i))).map fun x : Nat => (x : Int)) h1 (fun y hy => by
   obtain ⟨z, rfl, hz, _⟩ := h2 y hy
   exact List.mem_map.2 ⟨z, List.mem_filter.2 ⟨List.mem_range.2 hz, decide_eq_true (pcI_at h hi hy).2⟩, rfl⟩)
  rw [List.length_map] at h3
  exact h3
 ·have hn' : (((List.range d.crs.length).filter (fun x => decide (pcI d x = i))).map fun x : Nat => (x : Int)).Nodup := by
   rw [List.nodup_iff_pairwise_ne, List.pairwise_map]
   exact List.Pairwise.imp (fun hab e => hab (by omega)) hn
  have h3 := nodup_le (ys := ga (pcsL d) i) hn' (fun y hy => by
   obtain ⟨z, hz, rfl⟩ := List.mem_map.1 hy
   obtain ⟨hz1, hz2⟩ := List.mem_filter.1 hz
   obtain ⟨_, g2, _⟩ := pcI_lt h (List.mem_range.1 hz1)
   rw [of_decide_eq_true hz2] at g2
   exact g2)
  rw [List.length_map] at h3
  exact h3
theorem root_count {d : Dg} (h : arcsB d = true) {p : Nat} (hp : p < d.crs.length) (hr : ga (whoL d) p = (p : Int)) : pcI d p < (pcsL d).length ∧
  (facW d (whoL d) p (negW (whoL d) p d.crs.length) (facesL d).length = 2 ↔ ga (fcN d (facesL d).length) (pcI d p) = ((ga (pcsL d) (pcI d p)).length : Int) + 2) := by
 obtain ⟨h1, _, _⟩ := pcI_lt h hp
 refine ⟨h1, ?_⟩
 rw [facW_cn, negW_cn, fcN_cn d _ h1, piece_cn h h1]
 have e1 : cn (fun x => decide (ga (whoL d) x = (p : Int))) d.crs.length = cn (fun x => decide (pcI d x = pcI d p)) d.crs.length := cn_congr _ fun x hx => decide_eq_decide.2 (who_iff h hp hr hx)
 have e2 : cn (fun x => decide (ga (whoL d) (fcC d x) = (p : Int))) (facesL d).length = cn (fun x => decide (pcI d (fcC d x) = pcI d p)) (facesL d).length := cn_congr _ fun x hx => decide_eq_decide.2 (who_iff h hp hr (fcC_lt h hx))
 rw [e1, e2]
 omega
theorem planar_law {d : Dg} (h : arcsB d = true) : planIs d = planP d := by
 rw [Bool.eq_iff_iff]
 constructor
 ·intro hp
  apply planP_t
  intro i hi
  obtain ⟨_, c0, hc0, hm, _⟩ := (pcs h).el i hi
  have e0 := (pcI_at h hi hm).2
  obtain ⟨z, _, hz, _⟩ := whoL_law h c0 hc0
  obtain ⟨r1, r2, r3⟩ := who_root h hc0 hz
  have hq := List.all_eq_true.1 hp z (List.mem_range.2 r1)
  unfold rootOk at hq
  rw [Bool.or_eq_true] at hq
  rcases hq with hq | hq
  ·exact absurd r3 (of_decide_eq_true hq)
  ·have := (root_count h r1 r3).2.1 (of_decide_eq_true hq)
   rw [r2, e0] at this
   exact this
 ·intro hp
  apply planIs_t
  intro p hpn
  unfold rootOk
  rw [Bool.or_eq_true]
  by_cases hr : ga (whoL d) p = (p : Int)
  ·right
   obtain ⟨h1, h2⟩ := root_count h hpn hr
   have hq := List.all_eq_true.1 hp _ (List.mem_range.2 h1)
   exact decide_eq_true (h2.2 (of_decide_eq_true hq))
  ·left
   exact decide_eq_true hr
end Go.Proofs.YthppkofceancjaaGreat
namespace Go.Proofs.YthppkofceancjaaGreat
open Go.ChangeShapes Go.WideShapes Go.ChangeAt Go.RowKit
theorem SH.pubBx {w : World} {M : Hp} {X : Fr} {H H' : List Rs} {i g : Nat} {T : TypeId} {l : List Value} (S : SH w M X H) (hi : nth H i = some (Rs.box g T l)) (hH : H.set i Rs.emp = H') : ∃ M', M.le M' ∧ SH w M' X H' ∧ BxM M' g T l := by
 obtain ⟨h1, h2, h3⟩ := S.pub hi hH
 have h4 : hp w g = some (.cells l.toArray T (0, 0)) := S.get hi
 exact ⟨_, h1, h2, (h3 g (by simp [Rs.box])).trans h4⟩
theorem mayO {d : Dg} (h : mayB d = true) : d.crs.length ≤ 16 ∧ arcsB d = true ∧ 0 ≤ d.loops ∧ d.loops ≤ 16 := by
 rw [mayB_arcs, Bool.and_eq_true, decide_eq_true_iff] at h
 exact ⟨h.1.1, h.2, h.1.2.1, h.1.2.2.1⟩
def ShM (N : Hp) (d : Dg) (g : Nat) (cA iA oA : Option Addr) (cc ic oc : Nat) : Prop := BxM N g 70 [.slice cA d.crs.length cc, .int .i64 d.loops, .slice iA (tabL d false (4 * d.crs.length)).length ic, .slice oA (tabL d true (4 * d.crs.length)).length oc] ∧ RdA cdCr N cA cc d.crs ∧ RdA cdPl N iA ic (tabL d false (4 * d.crs.length)) ∧ RdA cdPl N oA oc (tabL d true (4 * d.crs.length))
def NewT (d : Dg) (v : Value) (N : Hp) : Prop :=
 (mayB d = false ∧ v = .tuple [.pointer none, .bool false].toArray) ∨
 (mayB d = true ∧ ∃ g cA iA oA cc ic oc, v = .tuple [.pointer (some ⟨g, 0, none⟩), .bool true].toArray ∧ ShM N d g cA iA oA cc ic oc)
theorem New_t {w : World} {M : Hp} {X : Fr} (d : Dg) {A : Option Addr} {c : Nat} (h : RdA cdCr (M.un X.h) A c d.crs) (S : SH w M X []) : Ct Tryz.prog 64 [.agg [.slice A d.crs.length c, .int .i64 d.loops].toArray] w M X (NewT d) := by
 refine (New_o d h S).mono ?_
 rintro e w' ⟨v, rfl, N, S1, ⟨hm, rfl, rfl⟩ | ⟨hm, g, vc, vi, vo, rfl, rfl, hv⟩⟩
 ·exact ⟨_, rfl, M, Hp.le_refl _, S1, .inl ⟨hm, rfl⟩⟩
 ·obtain ⟨hn, _⟩ := mayO hm
  have t1 := tabL_len d false (4 * d.crs.length)
  have t2 := tabL_len d true (4 * d.crs.length)
  clear hv
  obtain ⟨M1, l1, S2, ⟨cA, cc, rfl, r1⟩⟩ := S1.pubrow (i := 1) rfl rfl (by show _ * 40 ≤ _; omega)
  obtain ⟨M2, l2, S3, ⟨iA, ic, rfl, r2⟩⟩ := S2.pubrow (C := cdPl) (xs := tabL d false (4 * d.crs.length)) (i := 2) rfl rfl (by show _ * 16 ≤ _; omega)
  obtain ⟨M3, l3, S4, ⟨oA, oc, rfl, r3⟩⟩ := S3.pubrow (C := cdPl) (xs := tabL d true (4 * d.crs.length)) (i := 3) rfl rfl (by show _ * 16 ≤ _; omega)
  obtain ⟨M4, l4, S5, b⟩ := S4.pubBx (i := 0) rfl rfl
  exact ⟨_, rfl, M4, (l1.trans l2).trans (l3.trans l4), S5.pick [] [] (by decide) trivial, .inr ⟨hm, g, cA, iA, oA, cc, ic, oc, rfl, b, ((r1.mono l2).mono l3).mono l4, (r2.mono l3).mono l4, r3.mono l4⟩⟩
def DgR (d : Dg) (u : Value) (M : Hp) : Prop := ∃ A c, u = .agg [.slice A d.crs.length c, .int .i64 d.loops].toArray ∧ RdA cdCr M A c d.crs
noncomputable def DiagramOf_n0 : Code := Tryz.f9.body.getD .skip
noncomputable def DiagramOf_n1 : Code := cL DiagramOf_n0
noncomputable def DiagramOf_n2 : Code := cR DiagramOf_n0
noncomputable def DiagramOf_n3 : Code := cL DiagramOf_n2
noncomputable def DiagramOf_n4 : Code := cR DiagramOf_n2
noncomputable def DiagramOf_n5 : Code := cL DiagramOf_n4
noncomputable def DiagramOf_n6 : Code := cR DiagramOf_n4
set_option maxRecDepth 10000 in
theorem DiagramOf_t {w : World} {M : Hp} {X : Fr} (d : Dg) {dcrsA : Option Addr} {dcrsc : Nat} (hdcrs : RdA cdCr (M.un X.h) dcrsA dcrsc d.crs) (S : SH w M X []) : Ct Tryz.prog 9 [.agg [.slice dcrsA d.crs.length dcrsc, .int .i64 d.loops].toArray] w M X (DgR d) := by
 unfold Ct
 have rmhdcrs : d.crs.length * 40 ≤ 140737488355328 := hdcrs.room
 have hroom : d.crs.length * 40 ≤ 140737488355328 := hdcrs.room
 refine calls_in (b := DiagramOf_n0) Tryz.func9 rfl Tryz.ntmps9 rfl (fun C hC => (ws_sub [(0, _)] ⟨rfl, trivial⟩ (ws_seqN DiagramOf_n1 DiagramOf_n2 rfl rfl rfl (ws_region rfl (wlo 0 1 rfl rfl rfl (wo_box (l := [_, _]) rfl rfl rfl rfl rfl S ?_))))))
 intro gb1 w1 S1; clear S
 refine wlo 1 2 rfl rfl rfl (wo_alloc (l := [_, _]) rfl rfl rfl zr24 rfl S1 ?_)
 intro gb2 w2 S2; clear S1
 refine wl_end rfl (nmk [1, 2] rfl (nm_thn (ws_seqN DiagramOf_n3 DiagramOf_n4 rfl rfl rfl (ws_region rfl (wlo 0 1 rfl rfl rfl (wo_run rfl rfl (run_fieldAddr rfl rfl Tryz.underlying24 rfl (ce22) (nf22)) (wlo 1 2 rfl rfl rfl (wo_run rfl rfl (run_load1 rfl rfl Tryz.underlying22 rfl (S2.boxc (i := 1) rfl rfl)) ?_))))))))
 have S3 := S2.nilrow cdCr; clear S2
 refine wlo 2 3 rfl rfl rfl (wo_appendM (C := cdCr) (i := 0) rfl rfl rfl rfl rfl rfl rfl rfl sl22 S3 rfl hdcrs S3.um (by have h : _ * 40 ≤ _ := hdcrs.room; show (0 + _) * 40 ≤ _; first | omega | (simp only [lens]; omega)) ?_)
 intro vr2 w3 S4; clear S3
 change SH _ _ _ [Rs.row cdCr vr2 d.crs, _, _] at S4
 refine wlo 3 4 rfl rfl rfl (wo_run rfl rfl (run_fieldAddr rfl rfl Tryz.underlying24 rfl (ce22) (nf22)) (wlo 4 5 rfl rfl rfl (wo_storeB (i := 2) (us := [_]) (l' := [_, _]) (H' := [_, _, _]) rfl rfl S4 rfl rfl rfl (S4.cells1 (i := 0) rfl) sz22 rfl (ones_cons (S4.one (i := 0) rfl) rfl) rfl rfl ?_)))
 intro w4 S5; clear S4
 refine wl_end rfl (nmk [1, 2] rfl (nm_thn (ws_seqN DiagramOf_n5 DiagramOf_n6 rfl rfl rfl (ws_region rfl (wlo 0 1 rfl rfl rfl (wo_run rfl rfl (run_loadN (us := [_, _]) rfl rfl Tryz.underlying24 rfl sz24 (S5.boxcs (i := 2) rfl ⟨rfl, rfl, trivial⟩)) (wlo 1 2 rfl rfl rfl (wo_storeB (i := 1) (us := [_, _]) (l' := [_, _]) (H' := [_, _, _]) rfl rfl S5 rfl rfl rfl rfl sz24 rfl (ones_cons (S5.one (i := 0) rfl) (ones_cons rfl rfl)) rfl rfl ?_))))))))
 intro w5 S6; clear S5
 refine wl_end rfl (nmk [2] rfl (nm_thn ?_))
 obtain ⟨M1, hle1, S7, ⟨A1, c1, e1, hr1⟩⟩ := S6.pubrow (i := 0) (H' := [_, _, _]) rfl rfl (by show _ * 40 ≤ _; first | omega | (simp only [lens]; omega))
 clear S6; subst e1
 replace hdcrs := hdcrs.mono (Hp.un_mono hle1 S7.mx)
 refine ws_ret hC [_] rfl rfl ⟨⟨_, rfl, loadVarN (us := [_, _]) Tryz.underlying24 rfl sz24 (S7.boxcs (i := 1) rfl ⟨rfl, rfl, trivial⟩)⟩, trivial⟩ ?_
 refine ⟨_, rfl, _, hle1, (S7.pick [] [] (by decide) trivial), ?_⟩
 exact ⟨_, _, rfl, hr1⟩
end Go.Proofs.YthppkofceancjaaGreat
namespace Go.Proofs.YthppkofceancjaaGreat
open Go.ChangeShapes Go.WideShapes Go.ChangeAt Go.RowKit
/-- What forbids that a diagram is opened to wind. -/
def errO (d : Dg) : Int := if mayB d = true then (if planP d = true then 0 else 5) else 7
theorem errO_ok {d : Dg} (h : errO d = 0) : mayB d = true ∧ planP d = true := by
 unfold errO at h
 split at h
 ·split at h
  ·exact ⟨by assumption, by assumption⟩
  ·cases h
 ·cases h
def OpenT (d : Dg) (v : Value) (N : Hp) : Prop :=
 (errO d ≠ 0 ∧ v = .tuple [.pointer none, .int .i64 (errO d)].toArray) ∨
 (errO d = 0 ∧ ∃ g cA iA oA cc ic oc, v = .tuple [.pointer (some ⟨g, 0, none⟩), .int .i64 0].toArray ∧ ShM N d g cA iA oA cc ic oc)
noncomputable def Open_n0 : Code := Tryz.f82.body.getD .skip
noncomputable def Open_n1 : Code := cL Open_n0
noncomputable def Open_n2 : Code := cR Open_n0
noncomputable def Open_n3 : Code := cL Open_n2
noncomputable def Open_n4 : Code := cR Open_n2
noncomputable def Open_n5 : Code := cL Open_n4
noncomputable def Open_n6 : Code := cR Open_n4
noncomputable def Open_n7 : Code := cL Open_n5
noncomputable def Open_n8 : Code := cL Open_n7
noncomputable def Open_n9 : Code := cR Open_n7
noncomputable def Open_n10 : Code := cL Open_n9
noncomputable def Open_n11 : Code := cR Open_n9
noncomputable def Open_n12 : Code := cL Open_n10
noncomputable def Open_n13 : Code := cR Open_n10
noncomputable def Open_n14 : Code := cL Open_n11
noncomputable def Open_n15 : Code := cR Open_n11
noncomputable def Open_n16 : Code := cL Open_n15
noncomputable def Open_n17 : Code := cR Open_n15
noncomputable def Open_n18 : Code := cL Open_n16
noncomputable def Open_n19 : Code := cR Open_n16
noncomputable def Open_n20 : Code := cL Open_n6
noncomputable def Open_n21 : Code := cR Open_n6
set_option maxRecDepth 10000 in
theorem Open_t {w : World} {M : Hp} {X : Fr} (d : Dg) {dcrsA : Option Addr} {dcrsc : Nat} (hdcrs : RdA cdCr (M.un X.h) dcrsA dcrsc d.crs) (S : SH w M X []) : Ct Tryz.prog 82 [.agg [.slice dcrsA d.crs.length dcrsc, .int .i64 d.loops].toArray] w M X (OpenT d) := by
 unfold Ct
 have rmhdcrs : d.crs.length * 40 ≤ 140737488355328 := hdcrs.room
 refine calls_in (b := Open_n0) Tryz.func82 rfl Tryz.ntmps82 rfl (fun C hC => (ws_sub [(0, _)] ⟨rfl, trivial⟩ (ws_seqN Open_n1 Open_n2 rfl rfl rfl (ws_region rfl (wlo 0 1 rfl rfl rfl (wo_box (l := [_, _]) rfl rfl rfl rfl rfl S ?_))))))
 intro gb1 w1 S1; clear S
 refine wla 1 2 rfl rfl rfl rfl rfl rfl rfl (wla 2 3 rfl rfl rfl rfl rfl rfl rfl (wl_end rfl (nmk [1] rfl (nm_thn (ws_seqN Open_n3 Open_n4 rfl rfl rfl (ws_region rfl (wlo 0 1 rfl rfl rfl (wo_run rfl rfl (run_loadN (us := [_, _]) rfl rfl Tryz.underlying24 rfl sz24 (S1.boxcs (i := 0) rfl ⟨rfl, rfl, trivial⟩)) (wlo 1 2 rfl rfl rfl (wo_ct rfl rfl rfl rfl rfl rfl rfl cf64 S1 (New_t d (hdcrs.mono S1.un_XH) S1.lend) ?_))))))))))
 intro vw2 w2 M1 hle1 S2 hRw2; clear S1
 replace hdcrs := hdcrs.mono (Hp.un_mono hle1 S2.mx)
 rcases hRw2 with ⟨hmay8, rfl⟩ | ⟨hmay8, g1, cA8, iA8, oA8, cc8, ic8, oc8, rfl, hsb8, hsc8, hsi8, hso8⟩
 ·refine wlm 2 3 rfl rfl rfl rfl rfl rfl rfl (wlo 3 4 rfl rfl rfl (wo_run rfl rfl (run_extract rfl rfl rfl) (wlo 4 5 rfl rfl rfl (wo_run rfl rfl (run_extract rfl rfl rfl) (wla 5 6 rfl rfl rfl rfl rfl rfl rfl (wla 6 7 rfl rfl rfl rfl rfl rfl rfl (wl_end rfl (nmk [4, 5] rfl (nm_thn (ws_seqN Open_n5 Open_n6 rfl rfl rfl ?_))))))))))
  refine ws_blockN Open_n7 0 rfl rfl rfl (ws_seqN Open_n8 Open_n9 rfl rfl rfl (ws_region rfl (wlm 0 1 rfl rfl rfl rfl rfl rfl rfl (wlo 1 2 rfl rfl rfl (wo_run rfl rfl (run_not rfl rfl) (wla 2 3 rfl rfl rfl rfl rfl rfl rfl (wl_end rfl (nmk [4, 11] rfl (nm_thn ?_)))))))))
  refine ws_condTN Open_n10 rfl rfl rfl (ws_seqN Open_n12 Open_n13 rfl rfl rfl (ws_region rfl (wla 0 1 rfl rfl rfl rfl rfl rfl rfl (wla 1 2 rfl rfl rfl rfl rfl rfl rfl (wl_end rfl (nmk [2, 3] rfl (nm_thn (ws_ret hC [_, _] rfl rfl ⟨rfl, rfl, trivial⟩ ?_))))))))
  refine ⟨_, rfl, _, hle1, (S2.pick [] [] (by decide) trivial), ?_⟩
  have e0 : errO d = 7 := by unfold errO; rw [if_neg (by rw [hmay8]; exact Bool.false_ne_true)]
  exact .inl ⟨by rw [e0]; decide, by rw [e0]; rfl⟩
 ·obtain ⟨hn, hab, hlo0, hlo1⟩ := mayO hmay8
  refine wlm 2 3 rfl rfl rfl rfl rfl rfl rfl (wlo 3 4 rfl rfl rfl (wo_run rfl rfl (run_extract rfl rfl rfl) (wlo 4 5 rfl rfl rfl (wo_run rfl rfl (run_extract rfl rfl rfl) (wla 5 6 rfl rfl rfl rfl rfl rfl rfl (wla 6 7 rfl rfl rfl rfl rfl rfl rfl (wl_end rfl (nmk [4, 5] rfl (nm_thn (ws_seqN Open_n5 Open_n6 rfl rfl rfl ?_))))))))))
  refine ws_blockN Open_n7 0 rfl rfl rfl (ws_seqN Open_n8 Open_n9 rfl rfl rfl (ws_region rfl (wlm 0 1 rfl rfl rfl rfl rfl rfl rfl (wlo 1 2 rfl rfl rfl (wo_run rfl rfl (run_not rfl rfl) (wla 2 3 rfl rfl rfl rfl rfl rfl rfl (wl_end rfl (nmk [4, 11] rfl (nm_thn ?_)))))))))
  refine ws_condFN Open_n11 rfl rfl rfl (ws_seqN Open_n14 Open_n15 rfl rfl rfl (ws_region rfl (wlm 0 1 rfl rfl rfl rfl rfl rfl rfl (wlo 1 2 rfl rfl rfl (wo_ct rfl rfl rfl rfl rfl rfl rfl cf65 S2 (Planar_t d hsb8 hsc8 hsi8 hso8 hn hab S2.lend) ?_)))))
  intro vw3 w3 M2 hle2 S3 hRw3; clear S2
  replace hdcrs := hdcrs.mono (Hp.un_mono hle2 S3.mx)
  replace hsb8 := hsb8.mono hle2
  replace hsc8 := hsc8.mono hle2
  replace hsi8 := hsi8.mono hle2
  replace hso8 := hso8.mono hle2
  obtain rfl := hRw3
  refine wlo 2 3 rfl rfl rfl (wo_run rfl rfl (run_not rfl rfl) (wla 3 4 rfl rfl rfl rfl rfl rfl rfl (wl_end rfl (nmk [4, 14] rfl (nm_thn ?_)))))
  refine ws_condN Open_n16 Open_n17 rfl rfl rfl rfl (fun hb14 => ?_) (fun hb14 => ?_)
  ·simp only [Bool.and_eq_true, Bool.or_eq_true, Bool.and_eq_false_iff, Bool.or_eq_false_iff, decide_eq_true_eq, decide_eq_false_iff_not, Bool.not_eq_true', Bool.not_eq_false'] at hb14
   refine ws_seqN Open_n18 Open_n19 rfl rfl rfl (ws_region rfl (wla 0 1 rfl rfl rfl rfl rfl rfl rfl (wla 1 2 rfl rfl rfl rfl rfl rfl rfl (wl_end rfl (nmk [2, 3] rfl (nm_thn (ws_ret hC [_, _] rfl rfl ⟨rfl, rfl, trivial⟩ ?_)))))))
   refine ⟨_, rfl, _, hle1.trans hle2, (S3.pick [] [] (by decide) trivial), ?_⟩
   have e0 : errO d = 5 := by unfold errO; rw [if_pos hmay8, if_neg (by simp [*])]
   exact .inl ⟨by rw [e0]; decide, by rw [e0]; rfl⟩
  ·simp only [Bool.and_eq_true, Bool.or_eq_true, Bool.and_eq_false_iff, Bool.or_eq_false_iff, decide_eq_true_eq, decide_eq_false_iff_not, Bool.not_eq_true', Bool.not_eq_false'] at hb14
   refine ws_skip rfl (nm_blk (nmk [4] rfl (nm_thn (ws_seqN Open_n20 Open_n21 rfl rfl rfl (ws_region rfl (wlm 0 1 rfl rfl rfl rfl rfl rfl rfl (wla 1 2 rfl rfl rfl rfl rfl rfl rfl (wla 2 3 rfl rfl rfl rfl rfl rfl rfl ?_))))))))
   refine wl_end rfl (nmk [2, 3] rfl (nm_thn (ws_ret hC [_, _] rfl rfl ⟨rfl, rfl, trivial⟩ ?_)))
   refine ⟨_, rfl, _, hle1.trans hle2, (S3.pick [] [] (by decide) trivial), ?_⟩
   have e0 : errO d = 0 := by unfold errO; rw [if_pos hmay8, if_pos (by simpa using hb14)]
   exact .inr ⟨e0, _, _, _, _, _, _, _, rfl, hsb8, hsc8, hsi8, hso8⟩
noncomputable def PlanarMay_n0 : Code := Tryz.f49.body.getD .skip
noncomputable def PlanarMay_n1 : Code := cL PlanarMay_n0
noncomputable def PlanarMay_n2 : Code := cR PlanarMay_n0
noncomputable def PlanarMay_n3 : Code := cL PlanarMay_n2
noncomputable def PlanarMay_n4 : Code := cR PlanarMay_n2
noncomputable def PlanarMay_n5 : Code := cL PlanarMay_n3
noncomputable def PlanarMay_n6 : Code := cR PlanarMay_n3
noncomputable def PlanarMay_n7 : Code := cL PlanarMay_n6
noncomputable def PlanarMay_n8 : Code := cR PlanarMay_n6
noncomputable def PlanarMay_n9 : Code := cL PlanarMay_n7
noncomputable def PlanarMay_n10 : Code := cR PlanarMay_n7
noncomputable def PlanarMay_n11 : Code := cL PlanarMay_n4
noncomputable def PlanarMay_n12 : Code := cR PlanarMay_n4
noncomputable def PlanarMay_n13 : Code := cL PlanarMay_n11
noncomputable def PlanarMay_n14 : Code := cR PlanarMay_n11
noncomputable def PlanarMay_n15 : Code := cL PlanarMay_n14
noncomputable def PlanarMay_n16 : Code := cR PlanarMay_n14
noncomputable def PlanarMay_n17 : Code := cL PlanarMay_n15
noncomputable def PlanarMay_n18 : Code := cR PlanarMay_n15
noncomputable def PlanarMay_n19 : Code := cL PlanarMay_n12
noncomputable def PlanarMay_n20 : Code := cR PlanarMay_n12
set_option maxRecDepth 10000 in
theorem PlanarMay_t {w : World} {M : Hp} {X : Fr} (d : Dg) {dcrsA : Option Addr} {dcrsc : Nat} (hdcrs : RdA cdCr (M.un X.h) dcrsA dcrsc d.crs) (S : SH w M X []) : Ct Tryz.prog 49 [.agg [.slice dcrsA d.crs.length dcrsc, .int .i64 d.loops].toArray] w M X (fun u _ => u = .int .i64 (errO d)) := by
 unfold Ct
 have rmhdcrs : d.crs.length * 40 ≤ 140737488355328 := hdcrs.room
 refine calls_in (b := PlanarMay_n0) Tryz.func49 rfl Tryz.ntmps49 rfl (fun C hC => (ws_sub [(0, _)] ⟨rfl, trivial⟩ (ws_seqN PlanarMay_n1 PlanarMay_n2 rfl rfl rfl (ws_region rfl (wlo 0 1 rfl rfl rfl (wo_box (l := [_, _]) rfl rfl rfl rfl rfl S ?_))))))
 intro gb1 w1 S1; clear S
 refine wla 1 2 rfl rfl rfl rfl rfl rfl rfl (wl_end rfl (nmk [1] rfl (nm_thn (ws_seqN PlanarMay_n3 PlanarMay_n4 rfl rfl rfl (ws_seqN PlanarMay_n5 PlanarMay_n6 rfl rfl rfl (ws_region rfl (wlo 0 1 rfl rfl rfl (wo_run rfl rfl (run_loadN (us := [_, _]) rfl rfl Tryz.underlying24 rfl sz24 (S1.boxcs (i := 0) rfl ⟨rfl, rfl, trivial⟩)) (wlo 1 2 rfl rfl rfl (wo_cq rfl rfl rfl rfl rfl rfl rfl cf31 S1 (DiagramMay_q d (hdcrs.mono S1.un_XH) S1.lend) ?_))))))))))
 rintro _ w2 S2 rfl; clear S1
 refine wlo 2 3 rfl rfl rfl (wo_run rfl rfl (run_not rfl rfl) (wl_end rfl (nmk [1, 5] rfl (nm_thn ?_))))
 refine ws_condN PlanarMay_n7 PlanarMay_n8 rfl rfl rfl rfl (fun hb5 => ?_) (fun hb5 => ?_)
 ·simp only [Bool.and_eq_true, Bool.or_eq_true, Bool.and_eq_false_iff, Bool.or_eq_false_iff, decide_eq_true_eq, decide_eq_false_iff_not, Bool.not_eq_true', Bool.not_eq_false'] at hb5
  refine ws_seqN PlanarMay_n9 PlanarMay_n10 rfl rfl rfl (ws_region rfl (wla 0 1 rfl rfl rfl rfl rfl rfl rfl (wl_end rfl (nmk [2] rfl (nm_thn (ws_ret hC [_] rfl rfl ⟨rfl, trivial⟩ ?_))))))
  refine ⟨_, rfl, _, Hp.le_refl _, (S2.pick [] [] (by decide) trivial), ?_⟩
  have e0 : errO d = 7 := by unfold errO; rw [if_neg (by simp_all)]
  rw [e0]
  rfl
 ·simp only [Bool.and_eq_true, Bool.or_eq_true, Bool.and_eq_false_iff, Bool.or_eq_false_iff, decide_eq_true_eq, decide_eq_false_iff_not, Bool.not_eq_true', Bool.not_eq_false'] at hb5
  have hm : mayB d = true := by simpa using hb5
  obtain ⟨hn, hab, _, _⟩ := mayO hm
  refine ws_skip rfl (nmk [1] rfl (nm_thn (ws_seqN PlanarMay_n11 PlanarMay_n12 rfl rfl rfl (ws_seqN PlanarMay_n13 PlanarMay_n14 rfl rfl rfl (ws_region rfl (wlo 0 1 rfl rfl rfl (wo_run rfl rfl (run_loadN (us := [_, _]) rfl rfl Tryz.underlying24 rfl sz24 (S2.boxcs (i := 0) rfl ⟨rfl, rfl, trivial⟩)) (wlo 1 2 rfl rfl rfl (wo_ct rfl rfl rfl rfl rfl rfl rfl cf32 S2 (PlanarIs_t d (hdcrs.mono S2.un_XH) (hn) (hab) S2.lend) ?_)))))))))
  intro vw3 w3 M1 hle1 S3 hRw3; clear S2
  replace hdcrs := hdcrs.mono (Hp.un_mono hle1 S3.mx)
  obtain rfl := hRw3
  refine wlo 2 3 rfl rfl rfl (wo_run rfl rfl (run_not rfl rfl) (wl_end rfl (nmk [8] rfl (nm_thn ?_))))
  refine ws_condN PlanarMay_n15 PlanarMay_n16 rfl rfl rfl rfl (fun hb8 => ?_) (fun hb8 => ?_)
  ·simp only [Bool.and_eq_true, Bool.or_eq_true, Bool.and_eq_false_iff, Bool.or_eq_false_iff, decide_eq_true_eq, decide_eq_false_iff_not, Bool.not_eq_true', Bool.not_eq_false'] at hb8
   refine ws_seqN PlanarMay_n17 PlanarMay_n18 rfl rfl rfl (ws_region rfl (wla 0 1 rfl rfl rfl rfl rfl rfl rfl (wl_end rfl (nmk [2] rfl (nm_thn (ws_ret hC [_] rfl rfl ⟨rfl, trivial⟩ ?_))))))
   refine ⟨_, rfl, _, hle1, (S3.pick [] [] (by decide) trivial), ?_⟩
   have e1 := planar_law hab
   have e0 : errO d = 5 := by unfold errO; rw [if_pos hm, if_neg (by rw [← e1]; simp [*])]
   rw [e0]
   rfl
  ·simp only [Bool.and_eq_true, Bool.or_eq_true, Bool.and_eq_false_iff, Bool.or_eq_false_iff, decide_eq_true_eq, decide_eq_false_iff_not, Bool.not_eq_true', Bool.not_eq_false'] at hb8
   refine ws_skip rfl (nm_sub [] trivial (nm_thn (ws_seqN PlanarMay_n19 PlanarMay_n20 rfl rfl rfl (ws_region rfl (wla 0 1 rfl rfl rfl rfl rfl rfl rfl (wl_end rfl (nm_thn (ws_ret hC [_] rfl rfl ⟨rfl, trivial⟩ ?_))))))))
   refine ⟨_, rfl, _, hle1, (S3.pick [] [] (by decide) trivial), ?_⟩
   have e1 := planar_law hab
   have e0 : errO d = 0 := by unfold errO; rw [if_pos hm, if_pos (by rw [← e1]; simpa using hb8)]
   rw [e0]
   rfl
end Go.Proofs.YthppkofceancjaaGreat
namespace Go.Proofs.YthppkofceancjaaGreat
open Go.ChangeShapes Go.WideShapes Go.ChangeAt Go.RowKit
section
variable {P : Program} {o : Oper} {L : List (Nat × Value)} {w : World} {a b : Int}
theorem run_min {ca : Call} {ops : List Operand} {ts : List TypeId} (hop : o.op = .call ca) (hca : ca.callee = .builtin .min) (hxs : ca.args = ops.toArray) (hts : ca.argTypes = ts.toArray) (hx : oevs L ops = some [.int .i64 a, .int .i64 b]) : Run P o L w (.int .i64 (min a b)) w := by
 intro n c he
 have e : (if b < a then b else a) = min a b := by
  by_cases h : b < a
  ·rw [if_pos h]; omega
  ·rw [if_neg h]; omega
 unfold execOp
 simp only [hop, resolve, hca, hxs, hts, List.map_toArray, he.evals hx, Sem.run_bind, Sem.run_pure, Result.andThen_ok, invoke, builtin, Builtin.min_, List.foldlM_cons, List.foldlM_nil, Builtin.min2, e]
end
def relN (cl : List Int) (f t : Int) : Nat → List Int
 | 0 => cl
 | a + 1 => if ga (relN cl f t a) a = f then (relN cl f t a).set a t else relN cl f t a
theorem relN_len (cl : List Int) (f t : Int) (a : Nat) : (relN cl f t a).length = cl.length := by
 induction a with
 | zero => rfl
 | succ a ih => rw [relN]; split <;> (try rw [List.length_set]) <;> exact ih
theorem relN_ga (cl : List Int) (f t : Int) (a : Nat) (ha : a ≤ cl.length) : ∀ x, ga (relN cl f t a) x = if x < a ∧ ga cl x = f then t else ga cl x := by
 induction a with
 | zero => intro x; rw [if_neg (by omega)]; rfl
 | succ a ih =>
  have ih := ih (by omega)
  have ha0 : ga (relN cl f t a) a = ga cl a := by rw [ih, if_neg (by omega)]
  intro x
  rw [relN, ha0]
  split
  ·rename_i e
   rw [ga_set _ _ _ _ (by rw [relN_len]; omega)]
   split
   ·rename_i e2; subst e2
    rw [if_pos ⟨by omega, e⟩]
   ·rw [ih]
    by_cases h9 : x < a ∧ ga cl x = f
    ·rw [if_pos h9, if_pos ⟨by omega, h9.2⟩]
    ·rw [if_neg h9, if_neg (fun h => h9 ⟨by omega, h.2⟩)]
  ·rename_i e
   rw [ih]
   by_cases h9 : x < a ∧ ga cl x = f
   ·rw [if_pos h9, if_pos ⟨by omega, h9.2⟩]
   ·rw [if_neg h9, if_neg (fun (h : x < a + 1 ∧ ga cl x = f) => by
     by_cases h8 : x = a
     ·subst h8; exact e h.2
     ·exact h9 ⟨by omega, h.2⟩)]
/-- A class list: each label is the least label of its class, and lies in it. -/
def ClsOk (N : Nat) (cl : List Int) : Prop := cl.length = N ∧ ∀ x, x < N → 0 ≤ ga cl x ∧ ga cl x ≤ x ∧ ga cl (ga cl x).toNat = ga cl x
theorem ok_step {N : Nat} {cl cl' : List Int} {f t : Int} (hok : ClsOk N cl) (hl : cl'.length = N) (hg : ∀ x, x < N → ga cl' x = if ga cl x = f then t else ga cl x) (hft : t ≤ f) (h0 : 0 ≤ t) (hti : ga cl t.toNat = t) : ClsOk N cl' := by
 refine ⟨hl, fun x hx => ?_⟩
 obtain ⟨x1, x2, x3⟩ := hok.2 x hx
 have e := hg x hx
 by_cases hf : ga cl x = f
 ·rw [if_pos hf] at e
  rw [e]
  refine ⟨h0, by omega, ?_⟩
  rw [hg _ (by omega)]
  split
  ·rfl
  ·exact hti
 ·rw [if_neg hf] at e
  rw [e]
  refine ⟨x1, x2, ?_⟩
  rw [hg _ (by omega), x3, if_neg hf]
theorem roundG_len (e1 e2 : Nat → Nat) (ws : List Int) (k : Nat) : (roundG e1 e2 ws k).length = ws.length := by
 induction k with
 | zero => rfl
 | succ k ih => rw [roundG, stepW_len, ih]
noncomputable def level_n0 : Code := Tryz.f76.body.getD .skip
noncomputable def level_n1 : Code := cL level_n0
noncomputable def level_n2 : Code := cR level_n0
noncomputable def level_n3 : Code := cL level_n2
noncomputable def level_n4 : Code := cR level_n2
set_option maxRecDepth 10000 in
theorem level_w {w : World} {M : Hp} {X : Fr} (vws : Value) (ws : List Int) (i : Int) (j : Int) (hi : 0 ≤ i ∧ i < (ws.length : Int)) (hj : 0 ≤ j ∧ j < (ws.length : Int)) (S : SH w M X [Rs.row cdInt vws ws]) : C1 Tryz.prog 76 [vws, .int .i64 i, .int .i64 j] w M X (fun u M' r' => u = tup [] ∧ M' = M ∧ r' = Rs.row cdInt vws (stepW ws i.toNat j.toNat)) := by
 unfold C1
 refine calls_in (b := level_n0) Tryz.func76 rfl Tryz.ntmps76 rfl (fun C hC => (ws_sub [(0, _), (1, _), (2, _)] ⟨rfl, rfl, rfl, trivial⟩ (ws_seqN level_n1 level_n2 rfl rfl rfl (ws_draw rfl (by kernel_rfl) S 9 rfl ?_))))
 clear S
 refine wap 0 8 rfl (by kernel_rfl) rfl rfl rfl (fun w1 => run_move rfl rfl) ?_
 refine wap 1 7 rfl (by kernel_rfl) rfl rfl rfl (fun w2 => run_move rfl rfl) ?_
 refine wat 2 6 rfl (by kernel_rfl) rfl rfl rfl (fun M3 N3 w3 hle3 S3 => .inl (run_indexR (C := cdInt) (i := 0) i.toNat rfl rfl rfl sl53 S3.suf rfl (by first | rfl | omega) (by first | omega | (simp only [lens]; omega)))) ?_
 refine wat 3 5 rfl (by kernel_rfl) rfl rfl rfl (fun M4 N4 w4 hle4 S4 => .inl (run_load1 rfl rfl Tryz.underlying3 rfl (S4.suf.rowc (i := 0) (e := i.toNat) (j := 0) rfl (by first | omega | (simp only [lens]; omega)) rfl rfl))) ?_
 refine wap 4 4 rfl (by kernel_rfl) rfl rfl rfl (fun w5 => run_move rfl rfl) ?_
 refine wap 5 3 rfl (by kernel_rfl) rfl rfl rfl (fun w6 => run_move rfl rfl) ?_
 refine wat 6 2 rfl (by kernel_rfl) rfl rfl rfl (fun M7 N7 w7 hle7 S7 => .inl (run_indexR (C := cdInt) (i := 0) j.toNat rfl rfl rfl sl53 S7.suf rfl (by first | rfl | omega) (by first | omega | (simp only [lens]; omega)))) ?_
 refine wat 7 1 rfl (by kernel_rfl) rfl rfl rfl (fun M8 N8 w8 hle8 S8 => .inl (run_load1 rfl rfl Tryz.underlying3 rfl (S8.suf.rowc (i := 0) (e := j.toNat) (j := 0) rfl (by first | omega | (simp only [lens]; omega)) rfl rfl))) ?_
 refine wap 8 0 rfl (by kernel_rfl) rfl rfl rfl (fun w9 => run_lss rfl rfl rfl) ?_
 refine wa_end (by kernel_rfl) (fun w10 S10 => ?_)
 refine nmk [0, 1, 2, 14] rfl (nm_thn ?_)
 refine ws_condN level_n3 level_n4 rfl rfl rfl rfl (fun hb14 => ?_) (fun hb14 => ?_)
 ·replace hb14 := of_decide_eq_true hb14
  refine ws_region rfl (wlm 0 1 rfl rfl rfl rfl rfl rfl rfl (wlm 1 2 rfl rfl rfl rfl rfl rfl rfl (wlm 2 3 rfl rfl rfl rfl rfl rfl rfl (wlm 3 4 rfl rfl rfl rfl rfl rfl rfl (wlo 4 5 rfl rfl rfl (wo_run rfl rfl (run_indexR (C := cdInt) (i := 0) i.toNat rfl rfl rfl sl53 S10 rfl (by first | rfl | omega) (by first | omega | (simp only [lens]; omega))) ?_))))))
  refine wlo 5 6 rfl rfl rfl (wo_run rfl rfl (run_load1 rfl rfl Tryz.underlying3 rfl (S10.rowc (i := 0) (e := i.toNat) (j := 0) rfl (by first | omega | (simp only [lens]; omega)) rfl rfl)) ?_)
  refine wlo 6 7 rfl rfl rfl (wo_run rfl rfl (run_indexR (C := cdInt) (i := 0) j.toNat rfl rfl rfl sl53 S10 rfl (by first | rfl | omega) (by first | omega | (simp only [lens]; omega))) ?_)
  refine wlo 7 8 rfl rfl rfl (wo_storeR (C := cdInt) (i := 0) (e := j.toNat) (j := 0) (us := [_]) (H' := [_]) (ga ws i.toNat) rfl rfl S10 rfl (by first | omega | (simp only [lens]; omega)) rfl rfl rfl sz3 rfl rfl rfl rfl ?_)
  intro w11 S11; clear S10
  refine wl_end rfl (nm_end hC [] rfl trivial ?_)
  exact ⟨_, rfl, _, _, Hp.le_refl _, S11.pick [0] [_] (by decide) ⟨rfl, trivial⟩, ⟨rfl, rfl, by unfold stepW; first | rw [if_pos (by assumption)] | rw [if_neg (by assumption)]⟩⟩
 ·replace hb14 := of_decide_eq_false hb14
  refine ws_region rfl (wlm 0 1 rfl rfl rfl rfl rfl rfl rfl (wlm 1 2 rfl rfl rfl rfl rfl rfl rfl (wlm 2 3 rfl rfl rfl rfl rfl rfl rfl (wlm 3 4 rfl rfl rfl rfl rfl rfl rfl (wlo 4 5 rfl rfl rfl (wo_run rfl rfl (run_indexR (C := cdInt) (i := 0) j.toNat rfl rfl rfl sl53 S10 rfl (by first | rfl | omega) (by first | omega | (simp only [lens]; omega))) ?_))))))
  refine wlo 5 6 rfl rfl rfl (wo_run rfl rfl (run_load1 rfl rfl Tryz.underlying3 rfl (S10.rowc (i := 0) (e := j.toNat) (j := 0) rfl (by first | omega | (simp only [lens]; omega)) rfl rfl)) ?_)
  refine wlo 6 7 rfl rfl rfl (wo_run rfl rfl (run_indexR (C := cdInt) (i := 0) i.toNat rfl rfl rfl sl53 S10 rfl (by first | rfl | omega) (by first | omega | (simp only [lens]; omega))) ?_)
  refine wlo 7 8 rfl rfl rfl (wo_storeR (C := cdInt) (i := 0) (e := i.toNat) (j := 0) (us := [_]) (H' := [_]) (ga ws j.toNat) rfl rfl S10 rfl (by first | omega | (simp only [lens]; omega)) rfl rfl rfl sz3 rfl rfl rfl rfl ?_)
  intro w12 S12; clear S10
  refine wl_end rfl (nm_end hC [] rfl trivial ?_)
  exact ⟨_, rfl, _, _, Hp.le_refl _, S12.pick [0] [_] (by decide) ⟨rfl, trivial⟩, ⟨rfl, rfl, by unfold stepW; first | rw [if_pos (by assumption)] | rw [if_neg (by assumption)]⟩⟩
end Go.Proofs.YthppkofceancjaaGreat
namespace Go.Proofs.YthppkofceancjaaGreat
open Go.ChangeShapes Go.WideShapes Go.ChangeAt Go.RowKit
noncomputable def Next_n0 : Code := Tryz.f172.body.getD .skip
noncomputable def Next_n1 : Code := cL Next_n0
noncomputable def Next_n2 : Code := cR Next_n0
noncomputable def Next_n3 : Code := cL Next_n2
noncomputable def Next_n4 : Code := cR Next_n2
noncomputable def Next_n5 : Code := cL Next_n4
noncomputable def Next_n6 : Code := cR Next_n4
set_option maxRecDepth 10000 in
theorem Next_q {w : World} {M : Hp} {X : Fr} (d : Dg) {gsh : Nat} {cA iA oA : Option Addr} {cc ic oc : Nat} (a : Int) (hsb : BxM (M.un X.h) gsh 70 [.slice cA d.crs.length cc, .int .i64 d.loops, .slice iA (tabL d false (4 * d.crs.length)).length ic, .slice oA (tabL d true (4 * d.crs.length)).length oc]) (hsc : RdA cdCr (M.un X.h) cA cc d.crs) (hsi : RdA cdPl (M.un X.h) iA ic (tabL d false (4 * d.crs.length))) (hso : RdA cdPl (M.un X.h) oA oc (tabL d true (4 * d.crs.length))) (hn : d.crs.length ≤ 16) (hab : arcsB d = true) (hx : 1 ≤ a ∧ a ≤ 2 * (d.crs.length : Int)) (S : SH w M X []) : Cq Tryz.prog 172 [.pointer (some ⟨gsh, 0, none⟩), .int .i64 a] w M X (fun u => u = .int .i64 (nextA d a)) := by
 unfold Cq
 obtain ⟨hE1, hE2, hE3, hE4, hE5⟩ := endD hab hx false
 have htf := tabL_len d false (4 * d.crs.length)
 have hx1 := hx.1
 have hx2 := hx.2
 refine calls_in (b := Next_n0) Tryz.func172 rfl Tryz.ntmps172 rfl (fun C hC => (ws_sub [(0, _), (1, _)] ⟨rfl, rfl, trivial⟩ (ws_seqN Next_n1 Next_n2 rfl rfl rfl (ws_region rfl (wla 0 1 rfl rfl rfl rfl rfl rfl rfl (wl_end rfl (nmk [0, 1] rfl (nm_thn (ws_seqN Next_n3 Next_n4 rfl rfl rfl ?_)))))))))
 refine ws_region rfl (wlm 0 1 rfl rfl rfl rfl rfl rfl rfl (wlo 1 2 rfl rfl rfl (wo_run rfl rfl (run_nilCheck rfl rfl) (wlo 2 3 rfl rfl rfl (wo_run rfl rfl (run_fieldAddr rfl rfl Tryz.underlying70 rfl (ce68) (nf68)) (wlo 3 4 rfl rfl rfl (wo_run rfl rfl (run_load1 rfl rfl Tryz.underlying68 rfl (hsb.cell S.um rfl)) (wlm 4 5 rfl rfl rfl rfl rfl rfl rfl (wlo 5 6 rfl rfl rfl (wo_run rfl rfl (run_indexM (C := cdPl) a.toNat rfl rfl rfl sl68 (by first | rfl | omega) hsi (by first | omega | (simp only [lens]; omega))) ?_))))))))))
 refine wlo 6 7 rfl rfl rfl (wo_run rfl rfl (run_loadN (us := [_, _]) rfl rfl Tryz.underlying190 rfl sz190 (hsi.cellsAt S.um (e := a.toNat) (by first | omega | (simp only [lens]; omega)) (j := 0) ⟨rfl, rfl, trivial⟩)) ?_)
 refine wlo 7 8 rfl rfl rfl (wo_alloc (l := [_, _]) rfl rfl rfl zr190 rfl S ?_)
 intro gb1 w1 S1; clear S
 refine wlo 8 9 rfl rfl rfl (wo_storeB (i := 0) (us := [_, _]) (l' := [_, _]) (H' := [_]) rfl rfl S1 rfl rfl rfl rfl sz190 rfl rfl rfl rfl ?_)
 intro w2 S2; clear S1
 refine wl_end rfl (nmk [0, 5] rfl (nm_thn (ws_seqN Next_n5 Next_n6 rfl rfl rfl ?_)))
 rw [hE3] at S2
 refine ws_region rfl (wlm 0 1 rfl rfl rfl rfl rfl rfl rfl (wlo 1 2 rfl rfl rfl (wo_run rfl rfl (run_fieldAddr rfl rfl Tryz.underlying190 rfl (ce3) (nf3)) (wlo 2 3 rfl rfl rfl (wo_run rfl rfl (run_load1 rfl rfl Tryz.underlying3 rfl (S2.boxc (i := 0) rfl rfl)) (wlo 3 4 rfl rfl rfl (wo_run rfl rfl (run_fieldAddr rfl rfl Tryz.underlying190 rfl (ce3) (nf3)) (wlo 4 5 rfl rfl rfl (wo_run rfl rfl (run_load1 rfl rfl Tryz.underlying3 rfl (S2.boxc (i := 0) rfl rfl)) (wlo 5 6 rfl rfl rfl (wo_run rfl rfl (run_add rfl rfl rfl (by first | omega | (simp only [lens]; omega))) ?_)))))))))))
 refine wlo 6 7 rfl rfl rfl (wo_run rfl rfl (run_rem rfl rfl rfl (by first | omega | (simp only [lens]; omega))) ?_)
 refine wl_eq 19 (.int .i64 ((((endOf d a false).2 + 2) % 4 : Nat) : Int)) rfl (int_eq (by omega)) ?_
 have hlt4 : ((endOf d a false).2 + 2) % 4 < 4 := Nat.mod_lt _ (by decide)
 refine wlo 7 8 rfl rfl rfl (wo_run rfl rfl (run_build (l := [_, _]) rfl rfl st190 rfl rfl) (wlo 8 9 rfl rfl rfl (wo_cq rfl rfl rfl rfl rfl rfl rfl cf129 S2 (At_q d ((endOf d a false).1) (((endOf d a false).2 + 2) % 4) (hsb.mono S2.un_XH) (hsc.mono S2.un_XH) (hsi.mono S2.un_XH) (hso.mono S2.un_XH) (by omega) (by omega) S2.lend) ?_)))
 rintro _ w3 S3 rfl; clear S2
 refine wla 9 10 rfl rfl rfl rfl rfl rfl rfl (wl_end rfl (nmk [4] rfl (nm_thn (ws_ret hC [_] rfl rfl ⟨rfl, trivial⟩ ?_))))
 exact ⟨_, rfl, (S3.pick [] [] (by decide) trivial), rfl⟩
theorem rings_many (nx : Nat → Nat) (N A : Nat) : (ringsF nx N A).2.length ≤ A := by
 induction A with
 | zero => simp [ringsF]
 | succ A ih =>
  unfold ringsF
  dsimp only
  split
  ·omega
  ·rw [List.length_append]
   show _ + 1 ≤ _
   omega
noncomputable def Rings_n0 : Code := Tryz.f171.body.getD .skip
noncomputable def Rings_n1 : Code := cL Rings_n0
noncomputable def Rings_n2 : Code := cR Rings_n0
noncomputable def Rings_n3 : Code := cL Rings_n2
noncomputable def Rings_n4 : Code := cR Rings_n2
noncomputable def Rings_n5 : Code := cL Rings_n4
noncomputable def Rings_n6 : Code := cR Rings_n4
noncomputable def Rings_n7 : Code := cL Rings_n6
noncomputable def Rings_n8 : Code := cR Rings_n6
noncomputable def Rings_n9 : Code := cL Rings_n7
noncomputable def Rings_n10 : Code := cR Rings_n7
noncomputable def Rings_n11 : Code := cL Rings_n10
noncomputable def Rings_n12 : Code := cL Rings_n11
noncomputable def Rings_n13 : Code := cL Rings_n12
noncomputable def Rings_n14 : Code := cR Rings_n12
noncomputable def Rings_n15 : Code := cL Rings_n13
noncomputable def Rings_n16 : Code := cR Rings_n13
noncomputable def Rings_n17 : Code := cL Rings_n16
noncomputable def Rings_n18 : Code := cR Rings_n16
noncomputable def Rings_n19 : Code := cL Rings_n14
noncomputable def Rings_n20 : Code := cR Rings_n14
noncomputable def Rings_n21 : Code := cL Rings_n19
noncomputable def Rings_n22 : Code := cL Rings_n21
noncomputable def Rings_n23 : Code := cR Rings_n21
noncomputable def Rings_n24 : Code := cL Rings_n22
noncomputable def Rings_n25 : Code := cR Rings_n22
noncomputable def Rings_n26 : Code := cL Rings_n25
noncomputable def Rings_n27 : Code := cR Rings_n25
noncomputable def Rings_n28 : Code := cL Rings_n23
noncomputable def Rings_n29 : Code := cR Rings_n23
noncomputable def Rings_n30 : Code := cL Rings_n29
noncomputable def Rings_n31 : Code := cR Rings_n29
noncomputable def Rings_n32 : Code := cL Rings_n30
noncomputable def Rings_n33 : Code := cR Rings_n30
noncomputable def Rings_n34 : Code := cL Rings_n33
noncomputable def Rings_n35 : Code := cL Rings_n34
noncomputable def Rings_n36 : Code := cL Rings_n35
noncomputable def Rings_n37 : Code := cR Rings_n35
noncomputable def Rings_n38 : Code := cL Rings_n36
noncomputable def Rings_n39 : Code := cR Rings_n36
noncomputable def Rings_n40 : Code := cL Rings_n39
noncomputable def Rings_n41 : Code := cR Rings_n39
noncomputable def Rings_n42 : Code := cL Rings_n37
noncomputable def Rings_n43 : Code := cR Rings_n37
noncomputable def Rings_n44 : Code := cL Rings_n42
noncomputable def Rings_n45 : Code := cL Rings_n44
noncomputable def Rings_n46 : Code := cR Rings_n44
noncomputable def Rings_n47 : Code := cL Rings_n8
noncomputable def Rings_n48 : Code := cR Rings_n8
set_option maxHeartbeats 1000000 in
set_option maxRecDepth 10000 in
theorem Rings_t {w : World} {M : Hp} {X : Fr} (d : Dg) {gsh : Nat} {cA iA oA : Option Addr} {cc ic oc : Nat} (fv : FuncId) (bnd cap : List Value) (nx : Nat → Nat) (hsb : BxM (M.un X.h) gsh 70 [.slice cA d.crs.length cc, .int .i64 d.loops, .slice iA (tabL d false (4 * d.crs.length)).length ic, .slice oA (tabL d true (4 * d.crs.length)).length oc]) (hsc : RdA cdCr (M.un X.h) cA cc d.crs) (hsi : RdA cdPl (M.un X.h) iA ic (tabL d false (4 * d.crs.length))) (hso : RdA cdPl (M.un X.h) oA oc (tabL d true (4 * d.crs.length))) (hen : ∀ args w, (callFunc fv args).run Tryz.prog w = .ok (.enter fv args) w) (hnx : ∀ x, 1 ≤ x → x ≤ 2 * d.crs.length → 1 ≤ nx x ∧ nx x ≤ 2 * d.crs.length) (hf : ∀ (w : World) (N : Hp) (Y : Fr), (M.un X.h).le (N.un Y.h) → SH w N Y [] → ∀ x : Nat, 1 ≤ x → x ≤ 2 * d.crs.length → Cq Tryz.prog fv (bnd ++ ([.int .i64 (x : Int)] ++ cap)) w N Y (fun u => u = .int .i64 (nx x : Int))) (hn : d.crs.length ≤ 16) (S : SH w M X []) : Ct Tryz.prog 171 [.pointer (some ⟨gsh, 0, none⟩), .func (.func fv) bnd.toArray cap.toArray] w M X (fun u N => ∃ A c vs, u = .slice A vs.length c ∧ RdA (cdV 53) N A c vs ∧ Rd2 cdInt N vs (ringsF nx (2 * d.crs.length + 1) (2 * d.crs.length)).2) := by
 unfold Ct
 refine calls_in (b := Rings_n0) Tryz.func171 rfl Tryz.ntmps171 rfl (fun C hC => (ws_sub [(0, _), (1, _)] ⟨rfl, rfl, trivial⟩ (ws_seqN Rings_n1 Rings_n2 rfl rfl rfl (ws_region rfl (wla 0 1 rfl rfl rfl rfl rfl rfl rfl (wl_end rfl (nmk [0, 1] rfl (nm_thn (ws_seqN Rings_n3 Rings_n4 rfl rfl rfl ?_)))))))))
 refine ws_region rfl (wlm 0 1 rfl rfl rfl rfl rfl rfl rfl (wlo 1 2 rfl rfl rfl (wo_cq rfl rfl rfl rfl rfl rfl rfl cf111 S (Arcs_q d  (hsb.mono S.un_XH) (hsc.mono S.un_XH) (hsi.mono S.un_XH) (hso.mono S.un_XH) (by omega) S.lend) ?_)))
 rintro _ w1 S1 rfl; clear S
 refine wlo 2 3 rfl rfl rfl (wo_run rfl rfl (run_add rfl rfl rfl (by first | omega | (simp only [lens]; omega))) ?_)
 refine wlo 3 4 rfl rfl rfl (wo_make (C := cdBool) ((2 * (d.crs.length : Int)).toNat + 1) rfl rfl rfl rfl rfl sl130 (by first | rfl | omega) (by show _ * 1 ≤ _; first | omega | (simp only [lens]; omega)) S1 ?_)
 intro vr1 w2 S2; clear S1
 refine wla 4 5 rfl rfl rfl rfl rfl rfl rfl (wl_end rfl (nmk [0, 1, 5] rfl (nm_thn (ws_seqN Rings_n5 Rings_n6 rfl rfl rfl (ws_region rfl (wla 0 1 rfl rfl rfl rfl rfl rfl rfl (wl_end rfl (nm_thn ?_))))))))
 refine ws_seqN Rings_n7 Rings_n8 rfl rfl rfl (ws_seqN Rings_n9 Rings_n10 rfl rfl rfl (ws_region rfl (wla 0 1 rfl rfl rfl rfl rfl rfl rfl (wl_end rfl (nm_thn (ws_blockN Rings_n11 0 rfl rfl rfl ?_))))))
 have S3 := S2.nilrow (cdV 53); clear S2
 refine ws_loopE (fun mx_ ax_ wx_ => ∃ (A : Nat) (seen : List Bool) (outc : List (List Int)) (vs : List SlV) (vrs : Value) (vro : Value) (M1 : Hp), M.le M1 ∧ mx_ = 2 * d.crs.length - A ∧ Env 45 [(0, .pointer (some ⟨gsh, 0, none⟩)), (1, .func (.func fv) bnd.toArray cap.toArray), (5, vrs), (6, vro), (7, .int .i64 ((A + 1 : Nat) : Int))] ax_ ∧ SH wx_ M1 X [Rs.row (cdV 53) vro vs, Rs.row cdBool vrs seen] ∧ A ≤ 2 * d.crs.length ∧ ringsF nx (2 * d.crs.length + 1) A = (seen, outc) ∧ Rd2 cdInt M1 vs outc) rfl ?_ ?_
 ·intro ax_ hax_
  refine ⟨_, ⟨0, _, [], _, _, _, _, Hp.le_refl _, rfl, hax_.sub ⟨rfl, rfl, rfl, rfl, rfl, trivial⟩, S3.pick [0, 1] [_, _] (by decide) ⟨rfl, rfl, trivial⟩, ?hq1f0, ?hq1f1, ?hq1f2⟩⟩
  case hq1f0 => omega
  case hq1f1 => rfl
  case hq1f2 => exact Rd2.nil_
 ·rintro m1 a1 w3 ⟨A, seen, outc, vs, vrs, vro, M1, hle1, rfl, he1, S4, hA, hfn, hdo⟩
  clear S3
  refine ws_in he1 (c := Rings_n12) rfl ?_
  clear he1 a1
  replace hsb := hsb.mono (Hp.un_mono hle1 S4.mx)
  replace hsc := hsc.mono (Hp.un_mono hle1 S4.mx)
  replace hsi := hsi.mono (Hp.un_mono hle1 S4.mx)
  replace hso := hso.mono (Hp.un_mono hle1 S4.mx)
  have hvs := hdo.1
  have hmany := rings_many nx (2 * d.crs.length + 1) A
  rw [hfn] at hmany
  replace hmany : outc.length ≤ A := hmany
  have hsl : seen.length = 2 * d.crs.length + 1 := by have h9 := ringsF_len nx (2 * d.crs.length + 1) A; rw [hfn] at h9; exact h9
  refine ws_seqN Rings_n13 Rings_n14 rfl rfl rfl (ws_seqN Rings_n15 Rings_n16 rfl rfl rfl (ws_region rfl (wlm 0 1 rfl rfl rfl rfl rfl rfl rfl (wlm 1 2 rfl rfl rfl rfl rfl rfl rfl (wlo 2 3 rfl rfl rfl (wo_cq rfl rfl rfl rfl rfl rfl rfl cf111 S4 (Arcs_q d  (hsb.mono S4.un_XH) (hsc.mono S4.un_XH) (hsi.mono S4.un_XH) (hso.mono S4.un_XH) (by omega) S4.lend) ?_))))))
  rintro _ w4 S5 rfl; clear S4
  refine wlo 3 4 rfl rfl rfl (wo_run rfl rfl (run_leq rfl rfl rfl) (wl_end rfl (nmk [0, 1, 5, 6, 7, 17] rfl (nm_thn ?_))))
  refine ws_condN Rings_n17 Rings_n18 rfl rfl rfl rfl (fun hb17 => ?_) (fun hb17 => ?_)
  ·replace hb17 := of_decide_eq_true hb17
   refine ws_skip rfl (nmk [0, 1, 5, 6, 7] rfl (nm_thn (ws_seqN Rings_n19 Rings_n20 rfl rfl rfl (ws_blockN Rings_n21 1 rfl rfl rfl (ws_seqN Rings_n22 Rings_n23 rfl rfl rfl (ws_seqN Rings_n24 Rings_n25 rfl rfl rfl (ws_region rfl (wlm 0 1 rfl rfl rfl rfl rfl rfl rfl ?_))))))))
   refine wlm 1 2 rfl rfl rfl rfl rfl rfl rfl (wlo 2 3 rfl rfl rfl (wo_run rfl rfl (run_indexR (C := cdBool) (i := 1) (A + 1) rfl rfl rfl sl130 S5 rfl (by first | rfl | omega) (by first | omega | (simp only [lens]; omega))) ?_))
   refine wlo 3 4 rfl rfl rfl (wo_run rfl rfl (run_load1 rfl rfl Tryz.underlying4 rfl (S5.rowc (i := 1) (e := A + 1) (j := 0) rfl (by first | omega | (simp only [lens]; omega)) rfl rfl)) ?_)
   refine wl_end rfl (nmk [0, 1, 5, 6, 7, 23] rfl (nm_thn ?_))
   refine ws_condN Rings_n26 Rings_n27 rfl rfl rfl rfl (fun hb23 => ?_) (fun hb23 => ?_)
   ·refine ws_exit rfl rfl (nmk [0, 1, 5, 6, 7] rfl (nm_thn (ws_region rfl (wlm 0 1 rfl rfl rfl rfl rfl rfl rfl (wlo 1 2 rfl rfl rfl (wo_run rfl rfl (run_add rfl rfl rfl (by first | omega | (simp only [lens]; omega))) ?_))))))
    refine wla 2 3 rfl rfl rfl rfl rfl rfl rfl (wl_end rfl (nm_lp ?_))
    intro ax_ hax_
    refine ⟨_, ?hq2m, ⟨A + 1, _, outc, _, _, _, _, (hle1), rfl, hax_.sub ⟨rfl, rfl, rfl, rfl, rfl, trivial⟩, S5.pick [0, 1] [_, _] (by decide) ⟨rfl, rfl, trivial⟩, ?hq2f0, ?hq2f1, ?hq2f2⟩⟩
    case hq2f0 => omega
    case hq2f1 => first | exact (ringsF_skip (by rw [hfn]; exact hb23)).trans hfn | (rw [ringsF_ring (by rw [hfn]; simpa using hb23), hfn]; dsimp only; rw [hrg, ringF_stop (by simpa using hb29)])
    case hq2f2 => exact hdo
    case hq2m => omega
   ·refine ws_skip rfl (nmk [0, 1, 5, 6, 7] rfl (nm_thn (ws_seqN Rings_n28 Rings_n29 rfl rfl rfl (ws_region rfl (wla 0 1 rfl rfl rfl rfl rfl rfl rfl (wl_end rfl (nm_thn (ws_seqN Rings_n30 Rings_n31 rfl rfl rfl ?_))))))))
    refine ws_seqN Rings_n32 Rings_n33 rfl rfl rfl (ws_region rfl (wlm 0 1 rfl rfl rfl rfl rfl rfl rfl (wla 1 2 rfl rfl rfl rfl rfl rfl rfl (wl_end rfl (nmk [0, 1, 5, 6, 7, 8, 9] rfl (nm_thn (ws_blockN Rings_n34 2 rfl rfl rfl ?_)))))))
    have S6 := S5.nilrow cdInt; clear S5
    refine ws_loopE (fun mx_ ax_ wx_ => ∃ (seen2 : List Bool) (x : Nat) (acc : List Int) (vrs2 : Value) (vring : Value), mx_ = free seen2 ∧ Env 45 [(0, .pointer (some ⟨gsh, 0, none⟩)), (1, .func (.func fv) bnd.toArray cap.toArray), (5, vrs2), (6, vro), (7, .int .i64 ((A + 1 : Nat) : Int)), (8, vring), (9, .int .i64 (x : Int))] ax_ ∧ SH wx_ M1 X [Rs.row cdInt vring acc, Rs.row (cdV 53) vro vs, Rs.row cdBool vrs2 seen2] ∧ ringF nx seen (A + 1) [] = ringF nx seen2 x acc ∧ (1 ≤ x ∧ x ≤ 2 * d.crs.length) ∧ seen2.length = 2 * d.crs.length + 1 ∧ acc.length + free seen2 ≤ 100) rfl ?_ ?_
    ·intro ax_ hax_
     refine ⟨_, ⟨seen, A + 1, [], _, _, rfl, hax_.sub ⟨rfl, rfl, rfl, rfl, rfl, rfl, rfl, trivial⟩, S6.pick [0, 1, 2] [_, _, _] (by decide) ⟨rfl, rfl, rfl, trivial⟩, ?hq3f0, ?hq3f1, ?hq3f2, ?hq3f3⟩⟩
     case hq3f0 => rfl
     case hq3f1 => omega
     case hq3f2 => exact hsl
     case hq3f3 => (have h8 : free seen ≤ seen.length := List.countP_le_length; simp only [List.length_nil]; omega)
    ·rintro m2 a2 w5 ⟨seen2, x, acc, vrs2, vring, rfl, he2, S7, hrg, hx, hs2, hroom⟩
     clear S6
     refine ws_in he2 (c := Rings_n35) rfl ?_
     clear he2 a2
     refine ws_seqN Rings_n36 Rings_n37 rfl rfl rfl (ws_seqN Rings_n38 Rings_n39 rfl rfl rfl (ws_region rfl (wlm 0 1 rfl rfl rfl rfl rfl rfl rfl (wlm 1 2 rfl rfl rfl rfl rfl rfl rfl (wlo 2 3 rfl rfl rfl (wo_run rfl rfl (run_indexR (C := cdBool) (i := 2) x rfl rfl rfl sl130 S7 rfl (by first | rfl | omega) (by first | omega | (simp only [lens]; omega))) ?_))))))
     refine wlo 3 4 rfl rfl rfl (wo_run rfl rfl (run_load1 rfl rfl Tryz.underlying4 rfl (S7.rowc (i := 2) (e := x) (j := 0) rfl (by first | omega | (simp only [lens]; omega)) rfl rfl)) ?_)
     refine wlo 4 5 rfl rfl rfl (wo_run rfl rfl (run_not rfl rfl) (wl_end rfl (nmk [0, 1, 5, 6, 7, 8, 9, 29] rfl (nm_thn ?_))))
     refine ws_condN Rings_n40 Rings_n41 rfl rfl rfl rfl (fun hb29 => ?_) (fun hb29 => ?_)
     ·simp only [Bool.and_eq_true, Bool.or_eq_true, Bool.and_eq_false_iff, Bool.or_eq_false_iff, decide_eq_true_eq, decide_eq_false_iff_not, Bool.not_eq_true', Bool.not_eq_false'] at hb29
      refine ws_skip rfl (nmk [0, 1, 5, 6, 7, 8, 9] rfl (nm_thn (ws_seqN Rings_n42 Rings_n43 rfl rfl rfl (ws_blockN Rings_n44 3 rfl rfl rfl (ws_seqN Rings_n45 Rings_n46 rfl rfl rfl (ws_region rfl (wlm 0 1 rfl rfl rfl rfl rfl rfl rfl (wlm 1 2 rfl rfl rfl rfl rfl rfl rfl ?_))))))))
      refine wlo 2 3 rfl rfl rfl (wo_run rfl rfl (run_indexR (C := cdBool) (i := 2) x rfl rfl rfl sl130 S7 rfl (by first | rfl | omega) (by first | omega | (simp only [lens]; omega))) ?_)
      refine wlo 3 4 rfl rfl rfl (wo_storeR (C := cdBool) (i := 2) (e := x) (j := 0) (us := [_]) (H' := [_, _, _]) true rfl rfl S7 rfl (by first | omega | (simp only [lens]; omega)) rfl rfl rfl sz4 rfl rfl rfl rfl ?_)
      intro w6 S8; clear S7
      refine wl_end rfl (nmk [0, 1, 5, 6, 7, 8, 9] rfl (nm_thn (ws_region rfl (wlm 0 1 rfl rfl rfl rfl rfl rfl rfl (wlm 1 2 rfl rfl rfl rfl rfl rfl rfl (wlo 2 3 rfl rfl rfl (wo_buildSlice1 (C := cdInt) (l := [_]) rfl rfl rfl rfl sl53 rfl rfl rfl rfl S8 ?_)))))))
      intro gb1 w7 S9; clear S8
      refine wlo 3 4 rfl rfl rfl (wo_append1 (C := cdInt) (i := 1) (q := 0) (x : Int) rfl rfl rfl rfl rfl rfl rfl rfl sl53 S9 rfl rfl rfl (by show (_ + 1) * 8 ≤ _; first | omega | (simp only [lens]; omega)) ?_)
      intro vring1 w8 S10; clear S9
      have S11 := S10.pick [1, 2, 3] [_, _, _] (by decide) ⟨rfl, rfl, rfl, trivial⟩; clear S10
      refine wla 4 5 rfl rfl rfl rfl rfl rfl rfl (wl_end rfl (nm_blk (nmk [0, 1, 5, 6, 7, 8, 9] rfl (nm_thn (ws_region rfl (wlm 0 1 rfl rfl rfl rfl rfl rfl rfl (wlm 1 2 rfl rfl rfl rfl rfl rfl rfl (wlo 2 3 rfl rfl rfl (wo_cqB rfl rfl rfl rfl rfl rfl rfl hen S11 (hf _ _ _ ((Hp.un_mono (hle1) S11.mx).trans S11.un_XH) S11.lend x hx.1 hx.2) ?_)))))))))
      rintro _ w9 S12 rfl; clear S11
      refine wla 3 4 rfl rfl rfl rfl rfl rfl rfl (wl_end rfl (nm_lp ?_))
      have hga : ga seen2 x = false := by simpa using hb29
      have hfr := free_set (seen := seen2) (x := x) (by omega) hga
      intro ax_ hax_
      refine ⟨_, ?hq4m, ⟨seen2.set x true, nx x, acc ++ [(x : Int)], _, _, rfl, hax_.sub ⟨rfl, rfl, rfl, rfl, rfl, rfl, rfl, trivial⟩, S12.pick [0, 1, 2] [_, _, _] (by decide) ⟨rfl, rfl, rfl, trivial⟩, ?hq4f0, ?hq4f1, ?hq4f2, ?hq4f3⟩⟩
      case hq4f0 => (rw [hrg]; exact ringF_go (by omega) hga)
      case hq4f1 => exact hnx x hx.1 hx.2
      case hq4f2 => (rw [List.length_set]; exact hs2)
      case hq4f3 => (simp only [List.length_append, List.length_cons, List.length_nil]; omega)
      case hq4m => omega
     ·simp only [Bool.and_eq_true, Bool.or_eq_true, Bool.and_eq_false_iff, Bool.or_eq_false_iff, decide_eq_true_eq, decide_eq_false_iff_not, Bool.not_eq_true', Bool.not_eq_false'] at hb29
      refine ws_exit rfl rfl (nmk [0, 1, 5, 6, 7, 8] rfl (nm_thn (ws_region rfl (wlm 0 1 rfl rfl rfl rfl rfl rfl rfl (wlm 1 2 rfl rfl rfl rfl rfl rfl rfl ?_)))))
      obtain ⟨M2, hle3, S13, ⟨A1, c1, e1, hr1⟩⟩ := S7.pubrow (i := 0) (H' := [_, _, _]) rfl rfl (by show _ * 8 ≤ _; first | omega | (simp only [lens]; omega))
      clear S7; subst e1
      replace hsb := hsb.mono (Hp.un_mono hle3 S13.mx)
      replace hsc := hsc.mono (Hp.un_mono hle3 S13.mx)
      replace hsi := hsi.mono (Hp.un_mono hle3 S13.mx)
      replace hso := hso.mono (Hp.un_mono hle3 S13.mx)
      replace hdo := hdo.mono hle3
      refine wlo 2 3 rfl rfl rfl (wo_buildSlice1 (C := (cdV 53)) (l := [_]) rfl rfl rfl rfl sl103 rfl rfl rfl rfl S13 ?_)
      intro gb2 w10 S14; clear S13
      refine wlo 3 4 rfl rfl rfl (wo_append1 (C := (cdV 53)) (i := 2) (q := 0) (⟨A1, acc.length, c1⟩ : SlV) rfl rfl rfl rfl rfl rfl rfl rfl sl103 S14 rfl rfl rfl (by show (_ + 1) * 24 ≤ _; first | omega | (simp only [lens]; omega)) ?_)
      intro vro1 w11 S15; clear S14
      have S16 := S15.pick [1, 2, 3] [_, _, _] (by decide) ⟨rfl, rfl, rfl, trivial⟩; clear S15
      have hd1 := hdo.snoc (c := c1) hr1
      refine wla 4 5 rfl rfl rfl rfl rfl rfl rfl (wl_end rfl (nm_blk (nmk [0, 1, 5, 6, 7] rfl (nm_thn (ws_region rfl (wlm 0 1 rfl rfl rfl rfl rfl rfl rfl (wlo 1 2 rfl rfl rfl (wo_run rfl rfl (run_add rfl rfl rfl (by first | omega | (simp only [lens]; omega))) ?_))))))))
      refine wla 2 3 rfl rfl rfl rfl rfl rfl rfl (wl_end rfl (nm_lp ?_))
      intro ax_ hax_
      refine ⟨_, ?hq5m, ⟨A + 1, _, (outc ++ [acc]), _, _, _, _, (hle1.trans hle3), rfl, hax_.sub ⟨rfl, rfl, rfl, rfl, rfl, trivial⟩, S16.pick [1, 2] [_, _] (by decide) ⟨rfl, rfl, trivial⟩, ?hq5f0, ?hq5f1, ?hq5f2⟩⟩
      case hq5f0 => omega
      case hq5f1 => first | exact (ringsF_skip (by rw [hfn]; exact hb23)).trans hfn | (rw [ringsF_ring (by rw [hfn]; simpa using hb23), hfn]; dsimp only; rw [hrg, ringF_stop (by simpa using hb29)])
      case hq5f2 => exact hd1
      case hq5m => omega
  ·replace hb17 := of_decide_eq_false hb17
   refine ws_exit rfl rfl (nmk [6] rfl (nm_thn (ws_seqN Rings_n47 Rings_n48 rfl rfl rfl (ws_region rfl (wlm 0 1 rfl rfl rfl rfl rfl rfl rfl (wla 1 2 rfl rfl rfl rfl rfl rfl rfl (wl_end rfl (nmk [4] rfl ?_))))))))
   refine nm_thn ?_
   obtain ⟨M3, hle4, S17, ⟨A2, c2, e2, hr2⟩⟩ := S5.pubrow (i := 0) (H' := [_, _]) rfl rfl (by show _ * 24 ≤ _; first | omega | (simp only [lens]; omega))
   clear S5; subst e2
   replace hsb := hsb.mono (Hp.un_mono hle4 S17.mx)
   replace hsc := hsc.mono (Hp.un_mono hle4 S17.mx)
   replace hsi := hsi.mono (Hp.un_mono hle4 S17.mx)
   replace hso := hso.mono (Hp.un_mono hle4 S17.mx)
   replace hdo := hdo.mono hle4
   refine ws_ret hC [_] rfl rfl ⟨rfl, trivial⟩ ?_
   refine ⟨_, rfl, _, hle1.trans hle4, (S17.pick [] [] (by decide) trivial), ?_⟩
   obtain rfl : A = 2 * d.crs.length := by omega
   rw [hfn]
   exact ⟨_, _, _, rfl, hr2, hdo⟩
theorem Next_U {w : World} {M N : Hp} {Y : Fr} {d : Dg} {gsh : Nat} {cA iA oA : Option Addr} {cc ic oc : Nat} (hsb : BxM M gsh 70 [.slice cA d.crs.length cc, .int .i64 d.loops, .slice iA (tabL d false (4 * d.crs.length)).length ic, .slice oA (tabL d true (4 * d.crs.length)).length oc]) (hsc : RdA cdCr M cA cc d.crs) (hsi : RdA cdPl M iA ic (tabL d false (4 * d.crs.length))) (hso : RdA cdPl M oA oc (tabL d true (4 * d.crs.length))) (hn : d.crs.length ≤ 16) (hab : arcsB d = true) {x : Nat} (h1 : 1 ≤ x) (h2 : x ≤ 2 * d.crs.length) (S : SH w N Y []) (hl : M.le (N.un Y.h)) :
  Cq Tryz.prog 172 ([.pointer (some ⟨gsh, 0, none⟩)] ++ ([.int .i64 (x : Int)] ++ [])) w N Y (fun u => u = .int .i64 (nextN d x : Int)) := by
 have e := (nextN_eq hab h1 h2).1
 rw [← e]
 exact Next_q d (x : Int) (hsb.mono hl) (hsc.mono hl) (hsi.mono hl) (hso.mono hl) hn hab (by omega) S
noncomputable def Strands_n0 : Code := Tryz.f134.body.getD .skip
noncomputable def Strands_n1 : Code := cL Strands_n0
noncomputable def Strands_n2 : Code := cR Strands_n0
noncomputable def Strands_n3 : Code := cL Strands_n2
noncomputable def Strands_n4 : Code := cR Strands_n2
set_option maxRecDepth 10000 in
theorem Strands_t {w : World} {M : Hp} {X : Fr} (d : Dg) {gsh : Nat} {cA iA oA : Option Addr} {cc ic oc : Nat} (hsb : BxM (M.un X.h) gsh 70 [.slice cA d.crs.length cc, .int .i64 d.loops, .slice iA (tabL d false (4 * d.crs.length)).length ic, .slice oA (tabL d true (4 * d.crs.length)).length oc]) (hsc : RdA cdCr (M.un X.h) cA cc d.crs) (hsi : RdA cdPl (M.un X.h) iA ic (tabL d false (4 * d.crs.length))) (hso : RdA cdPl (M.un X.h) oA oc (tabL d true (4 * d.crs.length))) (hn : d.crs.length ≤ 16) (hab : arcsB d = true) (S : SH w M X []) : Ct Tryz.prog 134 [.pointer (some ⟨gsh, 0, none⟩)] w M X (fun u N => ∃ A c vs, u = .slice A vs.length c ∧ RdA (cdV 53) N A c vs ∧ Rd2 cdInt N vs (strandsL d)) := by
 unfold Ct
 refine calls_in (b := Strands_n0) Tryz.func134 rfl Tryz.ntmps134 rfl (fun C hC => (ws_sub [(0, _)] ⟨rfl, trivial⟩ (ws_seqN Strands_n1 Strands_n2 rfl rfl rfl (ws_region rfl (wla 0 1 rfl rfl rfl rfl rfl rfl rfl (wl_end rfl (nmk [0] rfl (nm_thn (ws_seqN Strands_n3 Strands_n4 rfl rfl rfl ?_)))))))))
 refine ws_region rfl (wlm 0 1 rfl rfl rfl rfl rfl rfl rfl (wlm 1 2 rfl rfl rfl rfl rfl rfl rfl (wlo 2 3 rfl rfl rfl (wo_run rfl rfl (run_makeFuncB (us := [_]) (vs := []) rfl rfl rfl rfl rfl) (wlo 3 4 rfl rfl rfl (wo_ct rfl rfl rfl rfl rfl rfl rfl cf171 S (Rings_t d 172 [.pointer (some ⟨gsh, 0, none⟩)] [] (nextN d) (hsb.mono S.un_XH) (hsc.mono S.un_XH) (hsi.mono S.un_XH) (hso.mono S.un_XH) cf172 (fun x h1 h2 => (nextN_eq hab h1 h2).2) (fun w9 N9 Y9 hl9 S9 x9 h1 h2 => Next_U ((hsb.mono S.un_XH)) ((hsc.mono S.un_XH)) ((hsi.mono S.un_XH)) ((hso.mono S.un_XH)) hn hab h1 h2 S9 hl9) hn S.lend) ?_))))))
 intro vw1 w1 M1 hle1 S1 hRw1; clear S
 replace hsb := hsb.mono (Hp.un_mono hle1 S1.mx)
 replace hsc := hsc.mono (Hp.un_mono hle1 S1.mx)
 replace hsi := hsi.mono (Hp.un_mono hle1 S1.mx)
 replace hso := hso.mono (Hp.un_mono hle1 S1.mx)
 obtain ⟨A1, c1, vs1, rfl, hr1, hd1⟩ := hRw1
 refine wla 4 5 rfl rfl rfl rfl rfl rfl rfl (wl_end rfl (nmk [2] rfl (nm_thn (ws_ret hC [_] rfl rfl ⟨rfl, trivial⟩ ?_))))
 refine ⟨_, rfl, _, hle1, (S1.pick [] [] (by decide) trivial), ?_⟩
 exact ⟨_, _, _, rfl, hr1, hd1⟩
end Go.Proofs.YthppkofceancjaaGreat
