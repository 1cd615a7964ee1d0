/- Part 5 of the proof of the law CodeReads: the walks through its functions and the plain laws that they need. -/
import Derived.Test.YtklcecpjgingpaaDoorCdZ4
import Derived.Shelf.Strings.SlTrimAscii
import Derived.Shelf.Unicode.DecodeAny
import Derived.Lib.LaidU8
set_option linter.unusedSimpArgs false
set_option linter.unusedVariables false
namespace Go.Proofs.YtklcecpjgingpaaDoor
open Go.ChangeShapes Go.WideShapes Go.ChangeAt Go.RowKit
theorem crR_bd {s : List UInt8} {k : Nat} (hk : k ≤ s.length) : k ≤ (crR s k).2 ∧ (crR s k).2 ≤ s.length := by
 unfold crR
 cases h : crossI s k with
 | none => exact ⟨Nat.le_refl _, hk⟩
 | some q =>
  obtain ⟨w, _, _, h3, h4⟩ := crossI_inv (x := q.1) (e := q.2) h
  exact ⟨by show k ≤ q.2; omega, h4⟩
theorem crR_k {s : List UInt8} {k : Nat} (h : (crR s k).2 = k) : crossI s k = none := by
 unfold crR at h
 cases hI : crossI s k with
 | none => rfl
 | some q =>
  rw [hI] at h
  obtain ⟨w, h1, _, h3, _⟩ := crossI_inv (x := q.1) (e := q.2) hI
  have h2 := List.length_pos_iff.2 (crossW_bl h1).1
  have h' : q.2 = k := h
  omega
theorem crR_s {s : List UInt8} {k : Nat} (h : ¬ (crR s k).2 = k) : crossI s k = some (crR s k) := by
 unfold crR at h ⊢
 cases hI : crossI s k with
 | none => rw [hI] at h; exact absurd rfl h
 | some q => rfl
section
variable {s : List UInt8} {f k : Nat} {d : Dg}
theorem rdR_b (hk : k < s.length) (hf : s.length ≤ k + f) (hb : blA s k = true) : rdR s f k d = rdR s (f - 1) (k + 1) d := by
 obtain ⟨g, rfl⟩ : ∃ g, f = g + 1 := ⟨f - 1, by omega⟩
 conv => lhs; unfold rdR
 rw [if_pos hk, if_pos hb]; rfl
theorem rdR_o (hk : k < s.length) (hf : s.length ≤ k + f) (hb : blA s k = false) (h : ga s k = 79) (h2 : blA s (k + 1) = true) : rdR s f k d = rdR s (f - 1) (k + 1) ⟨d.crs, d.loops + 1⟩ := by
 obtain ⟨g, rfl⟩ : ∃ g, f = g + 1 := ⟨f - 1, by omega⟩
 conv => lhs; unfold rdR
 rw [if_pos hk, if_neg (by rw [hb]; decide), if_pos ⟨h, h2⟩]; rfl
theorem rdR_x (hk : k < s.length) (hf : s.length ≤ k + f) (hb : blA s k = false) (hn : ¬ (ga s k = 79 ∧ blA s (k + 1) = true)) (he : ¬ (crR s k).2 = k) (hbe : blA s (crR s k).2 = true) : rdR s f k d = rdR s (f - 1) (crR s k).2 ⟨d.crs ++ [(crR s k).1], d.loops⟩ := by
 obtain ⟨g, rfl⟩ : ∃ g, f = g + 1 := ⟨f - 1, by omega⟩
 conv => lhs; unfold rdR
 rw [if_pos hk, if_neg (by rw [hb]; decide), if_neg hn, crR_s he]
 dsimp only
 rw [if_pos hbe]; rfl
theorem rdR_n (hk : k < s.length) (hf : s.length ≤ k + f) (hb : blA s k = false) (hn : ¬ (ga s k = 79 ∧ blA s (k + 1) = true)) (h : (crR s k).2 = k ∨ blA s (crR s k).2 = false) : rdR s f k d = none := by
 obtain ⟨g, rfl⟩ : ∃ g, f = g + 1 := ⟨f - 1, by omega⟩
 unfold rdR
 rw [if_pos hk, if_neg (by rw [hb]; decide), if_neg hn]
 by_cases he : (crR s k).2 = k
 ·rw [crR_k he]
 ·rw [crR_s he]
  dsimp only
  rcases h with h | h
  ·exact absurd h he
  ·rw [if_neg (by rw [h]; decide)]
theorem rdR_e (hk : ¬ k < s.length) : rdR s f k d = some d := by
 cases f <;> (unfold rdR; rw [if_neg hk])
end
def refC (s : List UInt8) : Dg × Int := if 2000 < s.length then (⟨[], 0⟩, 2) else endC (rdR s s.length 0 ⟨[], 0⟩)
theorem refC_eq (s : List UInt8) : refC s = readC s := by unfold refC readC; rw [readC_ref]
def DgT9 (p : Dg × Int) (u : Value) (N : Hp) : Prop := ∃ A c, u = .tuple [.agg [.slice A p.1.crs.length c, .int .i64 p.1.loops].toArray, .int .i64 p.2].toArray ∧ RdA cdCr N A c p.1.crs
theorem DgT9.of {p q : Dg × Int} {u : Value} {N : Hp} (h : DgT9 p u N) (e : q = p) : DgT9 q u N := by rw [e]; exact h
noncomputable def ReadDiagram_n0 : Code := Tryd.f9.body.getD .skip
noncomputable def ReadDiagram_n1 : Code := cL ReadDiagram_n0
noncomputable def ReadDiagram_n2 : Code := cR ReadDiagram_n0
noncomputable def ReadDiagram_n3 : Code := cL ReadDiagram_n2
noncomputable def ReadDiagram_n4 : Code := cR ReadDiagram_n2
noncomputable def ReadDiagram_n5 : Code := cL ReadDiagram_n3
noncomputable def ReadDiagram_n6 : Code := cR ReadDiagram_n3
noncomputable def ReadDiagram_n7 : Code := cL ReadDiagram_n6
noncomputable def ReadDiagram_n8 : Code := cR ReadDiagram_n6
noncomputable def ReadDiagram_n9 : Code := cL ReadDiagram_n7
noncomputable def ReadDiagram_n10 : Code := cR ReadDiagram_n7
noncomputable def ReadDiagram_n11 : Code := cL ReadDiagram_n4
noncomputable def ReadDiagram_n12 : Code := cR ReadDiagram_n4
noncomputable def ReadDiagram_n13 : Code := cL ReadDiagram_n12
noncomputable def ReadDiagram_n14 : Code := cR ReadDiagram_n12
noncomputable def ReadDiagram_n15 : Code := cL ReadDiagram_n14
noncomputable def ReadDiagram_n16 : Code := cR ReadDiagram_n14
noncomputable def ReadDiagram_n17 : Code := cL ReadDiagram_n15
noncomputable def ReadDiagram_n18 : Code := cL ReadDiagram_n17
noncomputable def ReadDiagram_n19 : Code := cL ReadDiagram_n18
noncomputable def ReadDiagram_n20 : Code := cR ReadDiagram_n18
noncomputable def ReadDiagram_n21 : Code := cL ReadDiagram_n19
noncomputable def ReadDiagram_n22 : Code := cR ReadDiagram_n19
noncomputable def ReadDiagram_n23 : Code := cL ReadDiagram_n22
noncomputable def ReadDiagram_n24 : Code := cR ReadDiagram_n22
noncomputable def ReadDiagram_n25 : Code := cL ReadDiagram_n20
noncomputable def ReadDiagram_n26 : Code := cL ReadDiagram_n25
noncomputable def ReadDiagram_n27 : Code := cR ReadDiagram_n25
noncomputable def ReadDiagram_n28 : Code := cL ReadDiagram_n26
noncomputable def ReadDiagram_n29 : Code := cR ReadDiagram_n26
noncomputable def ReadDiagram_n30 : Code := cL ReadDiagram_n29
noncomputable def ReadDiagram_n31 : Code := cR ReadDiagram_n29
noncomputable def ReadDiagram_n32 : Code := cL ReadDiagram_n30
noncomputable def ReadDiagram_n33 : Code := cR ReadDiagram_n30
noncomputable def ReadDiagram_n34 : Code := cL ReadDiagram_n27
noncomputable def ReadDiagram_n35 : Code := cR ReadDiagram_n27
noncomputable def ReadDiagram_n36 : Code := cL ReadDiagram_n34
noncomputable def ReadDiagram_n37 : Code := cR ReadDiagram_n34
noncomputable def ReadDiagram_n38 : Code := cL ReadDiagram_n37
noncomputable def ReadDiagram_n39 : Code := cR ReadDiagram_n37
noncomputable def ReadDiagram_n40 : Code := cL ReadDiagram_n38
noncomputable def ReadDiagram_n41 : Code := cR ReadDiagram_n38
noncomputable def ReadDiagram_n42 : Code := cL ReadDiagram_n41
noncomputable def ReadDiagram_n43 : Code := cR ReadDiagram_n41
noncomputable def ReadDiagram_n44 : Code := cL ReadDiagram_n35
noncomputable def ReadDiagram_n45 : Code := cR ReadDiagram_n35
noncomputable def ReadDiagram_n46 : Code := cL ReadDiagram_n45
noncomputable def ReadDiagram_n47 : Code := cR ReadDiagram_n45
noncomputable def ReadDiagram_n48 : Code := cL ReadDiagram_n46
noncomputable def ReadDiagram_n49 : Code := cR ReadDiagram_n46
noncomputable def ReadDiagram_n50 : Code := cL ReadDiagram_n49
noncomputable def ReadDiagram_n51 : Code := cR ReadDiagram_n49
noncomputable def ReadDiagram_n52 : Code := cL ReadDiagram_n50
noncomputable def ReadDiagram_n53 : Code := cR ReadDiagram_n50
noncomputable def ReadDiagram_n54 : Code := cL ReadDiagram_n47
noncomputable def ReadDiagram_n55 : Code := cR ReadDiagram_n47
noncomputable def ReadDiagram_n56 : Code := cL ReadDiagram_n16
noncomputable def ReadDiagram_n57 : Code := cR ReadDiagram_n16
noncomputable def ReadDiagram_n58 : Code := cL ReadDiagram_n56
noncomputable def ReadDiagram_n59 : Code := cR ReadDiagram_n56
noncomputable def ReadDiagram_n60 : Code := cL ReadDiagram_n59
noncomputable def ReadDiagram_n61 : Code := cR ReadDiagram_n59
noncomputable def ReadDiagram_n62 : Code := cL ReadDiagram_n60
noncomputable def ReadDiagram_n63 : Code := cR ReadDiagram_n60
noncomputable def ReadDiagram_n64 : Code := cL ReadDiagram_n57
noncomputable def ReadDiagram_n65 : Code := cR ReadDiagram_n57
set_option maxHeartbeats 2000000 in
set_option maxRecDepth 10000 in
theorem ReadDiagram_t {w : World} {M : Hp} {X : Fr} (s : List UInt8) (S : SH w M X []) : Ct Tryd.prog 9 [.string (sB s)] w M X (DgT9 (refC s)) := by
 unfold Ct
 refine calls_in (b := ReadDiagram_n0) Tryd.func9 rfl Tryd.ntmps9 rfl (fun C hC => ?_)
 refine ws_sub [(0, _)] ⟨rfl, trivial⟩ ?_
 refine ws_seqN ReadDiagram_n1 ReadDiagram_n2 rfl rfl rfl ?_
 refine ws_region rfl ?_
 refine wlo 0 1 rfl rfl rfl (wo_alloc (l := [_, _]) rfl rfl rfl zr30 rfl S ?_)
 intro gb1 w1 S1; clear S
 refine wla 1 2 rfl rfl rfl rfl rfl rfl rfl ?_
 refine wl_end rfl ?_
 refine nm_sub [(0, _), (2, _)] ⟨rfl, rfl, trivial⟩ ?_
 refine nm_thn ?_
 refine ws_seqN ReadDiagram_n3 ReadDiagram_n4 rfl rfl rfl ?_
 refine ws_seqN ReadDiagram_n5 ReadDiagram_n6 rfl rfl rfl ?_
 refine ws_region rfl ?_
 refine wlm 0 1 rfl rfl rfl rfl rfl rfl rfl ?_
 refine wlo 1 2 rfl rfl rfl (wo_run rfl rfl (run_lenS rfl rfl rfl rfl rfl rfl Tryd.underlying9) ?_)
 refine wlo 2 3 rfl rfl rfl (wo_run rfl rfl (run_gtr rfl rfl rfl) ?_)
 refine wl_end rfl ?_
 refine nm_sub [(0, _), (2, _), (10, _)] ⟨rfl, rfl, rfl, trivial⟩ ?_
 refine nm_thn ?_
 refine ws_condN ReadDiagram_n7 ReadDiagram_n8 rfl rfl rfl rfl (fun hb10 => ?_) (fun hb10 => ?_)
 ·replace hb10 := of_decide_eq_true hb10
  refine ws_seqN ReadDiagram_n9 ReadDiagram_n10 rfl rfl rfl ?_
  refine ws_region rfl ?_
  refine wlo 0 1 rfl rfl rfl (wo_run rfl rfl (run_build (l := [_, _]) rfl rfl st30 rfl rfl) ?_)
  refine wlo 1 2 rfl rfl rfl (wo_storeB (i := 0) (us := [_, _]) (l' := [_, _]) (H' := [_]) rfl rfl S1 rfl rfl rfl rfl sz30 rfl rfl rfl rfl ?_)
  intro w2 S2; clear S1
  refine wla 2 3 rfl rfl rfl rfl rfl rfl rfl ?_
  refine wl_end rfl ?_
  refine nm_sub [(2, _), (3, _)] ⟨rfl, rfl, trivial⟩ ?_
  refine nm_thn ?_
  refine ws_ret hC [_, _] rfl rfl ⟨⟨_, rfl, loadVarN (us := [_, _]) Tryd.underlying30 rfl sz30 (S2.boxcs (i := 0) rfl ⟨rfl, rfl, trivial⟩)⟩, rfl, trivial⟩ ?_
  refine ⟨_, rfl, _, Hp.le_refl _, (S2.pick [] [] (by decide) trivial), ?_⟩
  refine DgT9.of (p := (⟨[], 0⟩, 2)) ⟨_, _, rfl, RdA.nil_⟩ ?_
  unfold refC
  rw [if_pos (by omega)]
 ·replace hb10 := of_decide_eq_false hb10
  refine ws_skip rfl ?_
  refine nm_sub [(0, _), (2, _)] ⟨rfl, rfl, trivial⟩ ?_
  refine nm_thn ?_
  refine ws_seqN ReadDiagram_n11 ReadDiagram_n12 rfl rfl rfl ?_
  refine ws_region rfl ?_
  refine wlo 0 1 rfl rfl rfl (wo_alloc (l := [_, _]) rfl rfl rfl zr30 rfl S1 ?_)
  intro gb2 w3 S3; clear S1
  refine wl_end rfl ?_
  refine nm_thn ?_
  refine ws_seqN ReadDiagram_n13 ReadDiagram_n14 rfl rfl rfl ?_
  refine ws_region rfl ?_
  refine wla 0 1 rfl rfl rfl rfl rfl rfl rfl ?_
  refine wl_end rfl ?_
  refine nm_thn ?_
  refine ws_seqN ReadDiagram_n15 ReadDiagram_n16 rfl rfl rfl ?_
  refine ws_blockN ReadDiagram_n17 0 rfl rfl rfl ?_
  have S4 := S3.nilrow cdCr; clear S3
  refine ws_loopE (fun mx_ ax_ wx_ => ∃ (k : Nat) (f : Nat) (acc : List Cr) (lp : Int) (vro : Value) (M1 : Hp), M.le M1 ∧ mx_ = s.length - k ∧ Env 65 [(0, .string (sB s)), (2, .pointer (some ⟨gb1, 0, none⟩)), (4, .pointer (some ⟨gb2, 0, none⟩)), (5, .int .i64 (k : Int))] ax_ ∧ SH wx_ M1 X [Rs.row cdCr vro acc, Rs.box gb2 30 [vro, .int .i64 lp], Rs.box gb1 30 [.slice none 0 0, .int .i64 0]] ∧ rdR s f k ⟨acc, lp⟩ = rdR s s.length 0 ⟨[], 0⟩ ∧ s.length ≤ k + f ∧ k ≤ s.length ∧ acc.length ≤ k ∧ (0 ≤ lp ∧ lp ≤ k)) rfl ?_ ?_
  ·intro ax_ hax_
   refine ⟨_, ⟨0, s.length, _, _, _, _, Hp.le_refl _, rfl, hax_.sub ⟨rfl, rfl, rfl, rfl, trivial⟩, S4.pick [0, 1, 2] [_, _, _] (by decide) ⟨rfl, rfl, rfl, trivial⟩, ?hq1f0, ?hq1f1, ?hq1f2, ?hq1f3, ?hq1f4⟩⟩
   case hq1f0 => rfl
   case hq1f1 => omega
   case hq1f2 => omega
   case hq1f3 => (show 0 ≤ _; omega)
   case hq1f4 => omega
  ·rintro m1 a1 w4 ⟨k, f, acc, lp, vro, M1, hle1, rfl, he1, S5, hrn, hf, hks, hal, hlp⟩
   clear S4
   refine ws_in he1 (c := ReadDiagram_n18) rfl ?_
   clear he1 a1
   refine ws_seqN ReadDiagram_n19 ReadDiagram_n20 rfl rfl rfl ?_
   refine ws_seqN ReadDiagram_n21 ReadDiagram_n22 rfl rfl rfl ?_
   refine ws_region rfl ?_
   refine wlm 0 1 rfl rfl rfl rfl rfl rfl rfl ?_
   refine wlm 1 2 rfl rfl rfl rfl rfl rfl rfl ?_
   refine wlo 2 3 rfl rfl rfl (wo_run rfl rfl (run_lenS rfl rfl rfl rfl rfl rfl Tryd.underlying9) ?_)
   refine wlo 3 4 rfl rfl rfl (wo_run rfl rfl (run_lss rfl rfl rfl) ?_)
   refine wl_end rfl ?_
   refine nm_sub [(0, _), (2, _), (4, _), (5, _), (15, _)] ⟨rfl, rfl, rfl, rfl, rfl, trivial⟩ ?_
   refine nm_thn ?_
   refine ws_condN ReadDiagram_n23 ReadDiagram_n24 rfl rfl rfl rfl (fun hb15 => ?_) (fun hb15 => ?_)
   ·replace hb15 := of_decide_eq_true hb15
    refine ws_skip rfl ?_
    refine nm_sub [(0, _), (2, _), (4, _), (5, _)] ⟨rfl, rfl, rfl, rfl, trivial⟩ ?_
    refine nm_thn ?_
    refine ws_blockN ReadDiagram_n25 1 rfl rfl rfl ?_
    refine ws_seqN ReadDiagram_n26 ReadDiagram_n27 rfl rfl rfl ?_
    refine ws_seqN ReadDiagram_n28 ReadDiagram_n29 rfl rfl rfl ?_
    refine ws_region rfl ?_
    refine wlm 0 1 rfl rfl rfl rfl rfl rfl rfl ?_
    refine wlm 1 2 rfl rfl rfl rfl rfl rfl rfl ?_
    refine wlo 2 3 rfl rfl rfl (wo_cq rfl rfl rfl rfl rfl rfl rfl cf23 S5 (blankAt_q s k S5.lend) ?_)
    rintro _ w5 S6 rfl; clear S5
    refine wl_end rfl ?_
    refine nm_sub [(0, _), (2, _), (4, _), (5, _), (18, _)] ⟨rfl, rfl, rfl, rfl, rfl, trivial⟩ ?_
    refine nm_thn ?_
    refine ws_condN ReadDiagram_n30 ReadDiagram_n31 rfl rfl rfl rfl (fun hb18 => ?_) (fun hb18 => ?_)
    ·refine ws_seqN ReadDiagram_n32 ReadDiagram_n33 rfl rfl rfl ?_
     refine ws_region rfl ?_
     refine wlm 0 1 rfl rfl rfl rfl rfl rfl rfl ?_
     refine wlo 1 2 rfl rfl rfl (wo_run rfl rfl (run_add rfl rfl rfl (by first | omega | (simp only [lens]; omega))) ?_)
     refine wla 2 3 rfl rfl rfl rfl rfl rfl rfl ?_
     refine wl_end rfl ?_
     refine nm_sub [(0, _), (2, _), (4, _), (5, _)] ⟨rfl, rfl, rfl, rfl, trivial⟩ ?_
     refine nm_thn ?_
     refine ws_exit rfl rfl ?_
     refine nm_lp ?_
     intro ax_ hax_
     refine ⟨_, ?hq2m, ⟨k + 1, (f - 1), _, _, _, _, (hle1), rfl, hax_.sub ⟨rfl, rfl, rfl, rfl, trivial⟩, S6.pick [0, 1, 2] [_, _, _] (by decide) ⟨rfl, rfl, rfl, trivial⟩, ?hq2f0, ?hq2f1, ?hq2f2, ?hq2f3, ?hq2f4⟩⟩
     case hq2f0 => (rw [← hrn]; first | exact (rdR_b (s := s) (f := f) (k := k) (d := ⟨acc, lp⟩) (by omega) hf (by assumption)).symm | exact (rdR_o (s := s) (f := f) (k := k) (d := ⟨acc, lp⟩) (by omega) hf (by assumption) (by assumption) (by assumption)).symm | exact (rdR_x (s := s) (f := f) (k := k) (d := ⟨acc, lp⟩) (by omega) hf (by assumption) (by rintro ⟨a9, b9⟩; first | exact absurd a9 (by assumption) | (rw [hb30] at b9; cases b9)) (by omega) (by assumption)).symm)
     case hq2f1 => omega
     case hq2f2 => omega
     case hq2f3 => first | omega | (rw [List.length_append]; simp only [List.length_cons, List.length_nil]; omega)
     case hq2f4 => omega
     case hq2m => omega
    ·refine ws_skip rfl ?_
     refine nm_sub [(0, _), (2, _), (4, _), (5, _)] ⟨rfl, rfl, rfl, rfl, trivial⟩ ?_
     refine nm_thn ?_
     refine ws_seqN ReadDiagram_n34 ReadDiagram_n35 rfl rfl rfl ?_
     refine ws_seqN ReadDiagram_n36 ReadDiagram_n37 rfl rfl rfl ?_
     refine ws_region rfl ?_
     refine wlm 0 1 rfl rfl rfl rfl rfl rfl rfl ?_
     refine wlm 1 2 rfl rfl rfl rfl rfl rfl rfl ?_
     refine wlo 2 3 rfl rfl rfl (wo_run rfl rfl (run_indexS k rfl rfl rfl Tryd.underlying9 ((by first | omega | (simp only [lens]; omega)))) ?_)
     refine wlo 3 4 rfl rfl rfl (wo_run rfl rfl (run_eqlB (p := (ga s k)) (q := 79) rfl rfl rfl) ?_)
     refine wlm 4 5 rfl rfl rfl rfl rfl rfl rfl ?_
     refine wl_split (t := 25) rfl (fun hg25 => ?_) (fun hg25 => ?_)
     ·replace hg25 := of_decide_eq_true hg25
      refine wl_opG (k := 5) (k' := 6) rfl rfl ⟨_, _, _, rfl, rfl, rfl, rfl⟩ rfl (wo_run rfl rfl (run_move rfl rfl) ?_)
      refine wl_opG (k := 6) (k' := 7) rfl rfl ⟨_, _, _, rfl, rfl, rfl, rfl⟩ rfl (wo_run rfl rfl (run_move rfl rfl) ?_)
      refine wl_opG (k := 7) (k' := 8) rfl rfl ⟨_, _, _, rfl, rfl, rfl, rfl⟩ rfl (wo_run rfl rfl (run_add rfl rfl rfl (by first | omega | (simp only [lens]; omega))) ?_)
      refine wl_opG (k := 8) (k' := 9) rfl rfl ⟨_, _, _, rfl, rfl, rfl, rfl⟩ rfl (wo_cq rfl rfl rfl rfl rfl rfl rfl cf23 S6 (blankAt_q s (k + 1) S6.lend) ?_)
      rintro _ w6 S7 rfl; clear S6
      refine wlo 9 10 rfl rfl rfl (wo_run rfl rfl (run_pickT rfl rfl rfl) ?_)
      refine wl_end rfl ?_
      refine nm_sub [(0, _), (2, _), (4, _), (5, _), (30, _)] ⟨rfl, rfl, rfl, rfl, rfl, trivial⟩ ?_
      refine nm_thn ?_
      refine ws_condN ReadDiagram_n38 ReadDiagram_n39 rfl rfl rfl rfl (fun hb30 => ?_) (fun hb30 => ?_)
      ·refine ws_seqN ReadDiagram_n40 ReadDiagram_n41 rfl rfl rfl ?_
       refine ws_region rfl ?_
       refine wlo 0 1 rfl rfl rfl (wo_run rfl rfl (run_fieldAddr rfl rfl Tryd.underlying30 rfl (ce3) (nf3)) ?_)
       refine wlo 1 2 rfl rfl rfl (wo_run rfl rfl (run_load1 rfl rfl Tryd.underlying3 rfl (S7.boxc (i := 1) rfl rfl)) ?_)
       refine wlo 2 3 rfl rfl rfl (wo_run rfl rfl (run_add rfl rfl rfl (by first | omega | (simp only [lens]; omega))) ?_)
       refine wlo 3 4 rfl rfl rfl (wo_run rfl rfl (run_fieldAddr rfl rfl Tryd.underlying30 rfl (ce3) (nf3)) ?_)
       refine wlo 4 5 rfl rfl rfl (wo_storeB (i := 1) (us := [_]) (l' := [_, _]) (H' := [_, _, _]) rfl rfl S7 rfl rfl rfl rfl sz3 rfl rfl rfl rfl ?_)
       intro w7 S8; clear S7
       refine wl_end rfl ?_
       refine nm_sub [(0, _), (2, _), (4, _), (5, _)] ⟨rfl, rfl, rfl, rfl, trivial⟩ ?_
       refine nm_thn ?_
       refine ws_seqN ReadDiagram_n42 ReadDiagram_n43 rfl rfl rfl ?_
       refine ws_region rfl ?_
       refine wlm 0 1 rfl rfl rfl rfl rfl rfl rfl ?_
       refine wlo 1 2 rfl rfl rfl (wo_run rfl rfl (run_add rfl rfl rfl (by first | omega | (simp only [lens]; omega))) ?_)
       refine wla 2 3 rfl rfl rfl rfl rfl rfl rfl ?_
       refine wl_end rfl ?_
       refine nm_sub [(0, _), (2, _), (4, _), (5, _)] ⟨rfl, rfl, rfl, rfl, trivial⟩ ?_
       refine nm_thn ?_
       refine ws_exit rfl rfl ?_
       refine nm_lp ?_
       intro ax_ hax_
       refine ⟨_, ?hq3m, ⟨k + 1, (f - 1), _, _, _, _, (hle1), rfl, hax_.sub ⟨rfl, rfl, rfl, rfl, trivial⟩, S8.pick [0, 1, 2] [_, _, _] (by decide) ⟨rfl, rfl, rfl, trivial⟩, ?hq3f0, ?hq3f1, ?hq3f2, ?hq3f3, ?hq3f4⟩⟩
       case hq3f0 => (rw [← hrn]; first | exact (rdR_b (s := s) (f := f) (k := k) (d := ⟨acc, lp⟩) (by omega) hf (by assumption)).symm | exact (rdR_o (s := s) (f := f) (k := k) (d := ⟨acc, lp⟩) (by omega) hf (by assumption) (by assumption) (by assumption)).symm | exact (rdR_x (s := s) (f := f) (k := k) (d := ⟨acc, lp⟩) (by omega) hf (by assumption) (by rintro ⟨a9, b9⟩; first | exact absurd a9 (by assumption) | (rw [hb30] at b9; cases b9)) (by omega) (by assumption)).symm)
       case hq3f1 => omega
       case hq3f2 => omega
       case hq3f3 => first | omega | (rw [List.length_append]; simp only [List.length_cons, List.length_nil]; omega)
       case hq3f4 => omega
       case hq3m => omega
      ·refine ws_skip rfl ?_
       refine nm_sub [(0, _), (2, _), (4, _), (5, _)] ⟨rfl, rfl, rfl, rfl, trivial⟩ ?_
       refine nm_thn ?_
       refine ws_seqN ReadDiagram_n44 ReadDiagram_n45 rfl rfl rfl ?_
       refine ws_region rfl ?_
       refine wlm 0 1 rfl rfl rfl rfl rfl rfl rfl ?_
       refine wlm 1 2 rfl rfl rfl rfl rfl rfl rfl ?_
       refine wlo 2 3 rfl rfl rfl (wo_ct rfl rfl rfl rfl rfl rfl rfl cf24 S7 (crossIn_t s k (by omega) (by omega) S7.lend) ?_)
       intro vw8 w8 M2 hle2 S9 hRw8; clear S7
       obtain rfl := hRw8
       obtain ⟨hcb1, hcb2⟩ := crR_bd (s := s) (k := k) (by omega)
       refine wlm 3 4 rfl rfl rfl rfl rfl rfl rfl ?_
       refine wlo 4 5 rfl rfl rfl (wo_run rfl rfl (run_extract rfl rfl rfl) ?_)
       refine wlo 5 6 rfl rfl rfl (wo_run rfl rfl (run_extract rfl rfl rfl) ?_)
       refine wlo 6 7 rfl rfl rfl (wo_alloc (l := [_, _, _, _, _]) rfl rfl rfl zr49 rfl S9 ?_)
       intro gb3 w9 S10; clear S9
       refine wlo 7 8 rfl rfl rfl (wo_storeB (i := 0) (us := [_, _, _, _, _]) (l' := [_, _, _, _, _]) (H' := [_, _, _, _]) rfl rfl S10 rfl rfl rfl rfl sz49 rfl rfl rfl rfl ?_)
       intro w10 S11; clear S10
       refine wla 8 9 rfl rfl rfl rfl rfl rfl rfl ?_
       refine wl_end rfl ?_
       refine nm_sub [(0, _), (2, _), (4, _), (5, _), (6, _), (7, _)] ⟨rfl, rfl, rfl, rfl, rfl, rfl, trivial⟩ ?_
       refine nm_thn ?_
       refine ws_seqN ReadDiagram_n46 ReadDiagram_n47 rfl rfl rfl ?_
       refine ws_seqN ReadDiagram_n48 ReadDiagram_n49 rfl rfl rfl ?_
       refine ws_region rfl ?_
       refine wlm 0 1 rfl rfl rfl rfl rfl rfl rfl ?_
       refine wlm 1 2 rfl rfl rfl rfl rfl rfl rfl ?_
       refine wlo 2 3 rfl rfl rfl (wo_run rfl rfl (run_eql rfl rfl rfl) ?_)
       refine wlm 3 4 rfl rfl rfl rfl rfl rfl rfl ?_
       refine wl_split (t := 46) rfl (fun hg46 => ?_) (fun hg46 => ?_)
       ·replace hg46 := of_decide_eq_true hg46
        refine wl_no (k := 4) (k' := 5) (d := 47) rfl rfl ⟨_, _, _, rfl, rfl, rfl, rfl⟩ rfl rfl ?_
        refine wl_no (k := 5) (k' := 6) (d := 48) rfl rfl ⟨_, _, _, rfl, rfl, rfl, rfl⟩ rfl rfl ?_
        refine wl_no (k := 6) (k' := 7) (d := 49) rfl rfl ⟨_, _, _, rfl, rfl, rfl, rfl⟩ rfl rfl ?_
        refine wl_no (k := 7) (k' := 8) (d := 50) rfl rfl ⟨_, _, _, rfl, rfl, rfl, rfl⟩ rfl rfl ?_
        refine wlo 8 9 rfl rfl rfl (wo_run rfl rfl (run_pickT rfl rfl rfl) ?_)
        refine wl_end rfl ?_
        refine nm_sub [(0, _), (2, _), (4, _), (6, _), (7, _), (51, _)] ⟨rfl, rfl, rfl, rfl, rfl, rfl, trivial⟩ ?_
        refine nm_thn ?_
        refine ws_condTN ReadDiagram_n50 rfl rfl rfl ?_
        refine ws_seqN ReadDiagram_n52 ReadDiagram_n53 rfl rfl rfl ?_
        refine ws_region rfl ?_
        refine wlo 0 1 rfl rfl rfl (wo_run rfl rfl (run_build (l := [_, _]) rfl rfl st30 rfl rfl) ?_)
        refine wlo 1 2 rfl rfl rfl (wo_storeB (i := 3) (us := [_, _]) (l' := [_, _]) (H' := [_, _, _, _]) rfl rfl S11 rfl rfl rfl rfl sz30 rfl rfl rfl rfl ?_)
        intro w11 S12; clear S11
        refine wla 2 3 rfl rfl rfl rfl rfl rfl rfl ?_
        refine wl_end rfl ?_
        refine nm_sub [(2, _), (3, _)] ⟨rfl, rfl, trivial⟩ ?_
        refine nm_thn ?_
        refine ws_ret hC [_, _] rfl rfl ⟨⟨_, rfl, loadVarN (us := [_, _]) Tryd.underlying30 rfl sz30 (S12.boxcs (i := 3) rfl ⟨rfl, rfl, trivial⟩)⟩, rfl, trivial⟩ ?_
        refine ⟨_, rfl, _, hle1.trans hle2, (S12.pick [] [] (by decide) trivial), ?_⟩
        refine DgT9.of (p := (⟨[], 0⟩, 1)) ⟨_, _, rfl, RdA.nil_⟩ ?_
        unfold refC
        rw [if_neg (by omega)]
        rw [← hrn, rdR_n (by omega) hf (by assumption) (by rintro ⟨a9, b9⟩; first | exact absurd a9 (by assumption) | (rw [hb30] at b9; cases b9)) (by first | exact .inl (by omega) | exact .inr (by assumption))]
        rfl
       ·replace hg46 := of_decide_eq_false hg46
        refine wl_opG (k := 4) (k' := 5) rfl rfl ⟨_, _, _, rfl, rfl, rfl, rfl⟩ rfl (wo_run rfl rfl (run_move rfl rfl) ?_)
        refine wl_opG (k := 5) (k' := 6) rfl rfl ⟨_, _, _, rfl, rfl, rfl, rfl⟩ rfl (wo_run rfl rfl (run_move rfl rfl) ?_)
        refine wl_opG (k := 6) (k' := 7) rfl rfl ⟨_, _, _, rfl, rfl, rfl, rfl⟩ rfl (wo_cq rfl rfl rfl rfl rfl rfl rfl cf23 S11 (blankAt_q s ((crR s k).2) S11.lend) ?_)
        rintro _ w12 S13 rfl; clear S11
        refine wl_opG (k := 7) (k' := 8) rfl rfl ⟨_, _, _, rfl, rfl, rfl, rfl⟩ rfl (wo_run rfl rfl (run_not rfl rfl) ?_)
        refine wlo 8 9 rfl rfl rfl (wo_run rfl rfl (run_pickF rfl rfl rfl) ?_)
        refine wl_end rfl ?_
        refine nm_sub [(0, _), (2, _), (4, _), (6, _), (7, _), (51, _)] ⟨rfl, rfl, rfl, rfl, rfl, rfl, trivial⟩ ?_
        refine nm_thn ?_
        refine ws_condN ReadDiagram_n50 ReadDiagram_n51 rfl rfl rfl rfl (fun hb51 => ?_) (fun hb51 => ?_)
        ·simp only [Bool.and_eq_true, Bool.or_eq_true, Bool.and_eq_false_iff, Bool.or_eq_false_iff, decide_eq_true_eq, decide_eq_false_iff_not, Bool.not_eq_true', Bool.not_eq_false'] at hb51
         refine ws_seqN ReadDiagram_n52 ReadDiagram_n53 rfl rfl rfl ?_
         refine ws_region rfl ?_
         refine wlo 0 1 rfl rfl rfl (wo_run rfl rfl (run_build (l := [_, _]) rfl rfl st30 rfl rfl) ?_)
         refine wlo 1 2 rfl rfl rfl (wo_storeB (i := 3) (us := [_, _]) (l' := [_, _]) (H' := [_, _, _, _]) rfl rfl S13 rfl rfl rfl rfl sz30 rfl rfl rfl rfl ?_)
         intro w13 S14; clear S13
         refine wla 2 3 rfl rfl rfl rfl rfl rfl rfl ?_
         refine wl_end rfl ?_
         refine nm_sub [(2, _), (3, _)] ⟨rfl, rfl, trivial⟩ ?_
         refine nm_thn ?_
         refine ws_ret hC [_, _] rfl rfl ⟨⟨_, rfl, loadVarN (us := [_, _]) Tryd.underlying30 rfl sz30 (S14.boxcs (i := 3) rfl ⟨rfl, rfl, trivial⟩)⟩, rfl, trivial⟩ ?_
         refine ⟨_, rfl, _, hle1.trans hle2, (S14.pick [] [] (by decide) trivial), ?_⟩
         refine DgT9.of (p := (⟨[], 0⟩, 1)) ⟨_, _, rfl, RdA.nil_⟩ ?_
         unfold refC
         rw [if_neg (by omega)]
         rw [← hrn, rdR_n (by omega) hf (by assumption) (by rintro ⟨a9, b9⟩; first | exact absurd a9 (by assumption) | (rw [hb30] at b9; cases b9)) (by first | exact .inl (by omega) | exact .inr (by assumption))]
         rfl
        ·simp only [Bool.and_eq_true, Bool.or_eq_true, Bool.and_eq_false_iff, Bool.or_eq_false_iff, decide_eq_true_eq, decide_eq_false_iff_not, Bool.not_eq_true', Bool.not_eq_false'] at hb51
         refine ws_skip rfl ?_
         refine nm_sub [(0, _), (2, _), (4, _), (6, _), (7, _)] ⟨rfl, rfl, rfl, rfl, rfl, trivial⟩ ?_
         refine nm_thn ?_
         refine ws_seqN ReadDiagram_n54 ReadDiagram_n55 rfl rfl rfl ?_
         refine ws_region rfl ?_
         refine wlo 0 1 rfl rfl rfl (wo_run rfl rfl (run_fieldAddr rfl rfl Tryd.underlying30 rfl (ce28) (nf28)) ?_)
         refine wlo 1 2 rfl rfl rfl (wo_run rfl rfl (run_load1 rfl rfl Tryd.underlying28 rfl (S13.boxc (i := 2) rfl rfl)) ?_)
         refine wlo 2 3 rfl rfl rfl (wo_run rfl rfl (run_loadN (us := [_, _, _, _, _]) rfl rfl Tryd.underlying49 rfl sz49 (S13.boxcs (i := 0) rfl ⟨rfl, rfl, rfl, rfl, rfl, trivial⟩)) ?_)
         refine wlo 3 4 rfl rfl rfl (wo_buildSlice1 (C := cdCr) (l := [_, _, _, _, _]) rfl rfl rfl rfl sl28 rfl rfl rfl rfl S13 ?_)
         intro gb4 w14 S15; clear S13
         refine wlo 4 5 rfl rfl rfl (wo_append1 (C := cdCr) (i := 2) (q := 0) (⟨(crR s k).1.a, (crR s k).1.b, (crR s k).1.c, (crR s k).1.d, (crR s k).1.plus⟩ : Cr) rfl rfl rfl rfl rfl rfl rfl rfl sl28 S15 rfl rfl rfl (by show (_ + 1) * 40 ≤ _; first | omega | (simp only [lens]; omega)) ?_)
         intro vro1 w15 S16; clear S15
         have S17 := S16.pick [1, 2, 3, 4] [_, _, _, _] (by decide) ⟨rfl, rfl, rfl, rfl, trivial⟩; clear S16
         refine wlo 5 6 rfl rfl rfl (wo_run rfl rfl (run_fieldAddr rfl rfl Tryd.underlying30 rfl (ce28) (nf28)) ?_)
         refine wlo 6 7 rfl rfl rfl (wo_storeB (i := 2) (us := [_]) (l' := [_, _]) (H' := [_, _, _, _]) rfl rfl S17 rfl rfl rfl (S17.cells1 (i := 1) rfl) sz28 rfl (ones_cons (S17.one (i := 1) rfl) rfl) rfl rfl ?_)
         intro w16 S18; clear S17
         refine wl_end rfl ?_
         refine nm_sub [(0, _), (2, _), (4, _), (7, _)] ⟨rfl, rfl, rfl, rfl, trivial⟩ ?_
         refine nm_thn ?_
         refine ws_region rfl ?_
         refine wlm 0 1 rfl rfl rfl rfl rfl rfl rfl ?_
         refine wla 1 2 rfl rfl rfl rfl rfl rfl rfl ?_
         refine wl_end rfl ?_
         refine nm_blk ?_
         refine nm_lp ?_
         intro ax_ hax_
         refine ⟨_, ?hq4m, ⟨(crR s k).2, (f - 1), _, _, _, _, (hle1.trans hle2), rfl, hax_.sub ⟨rfl, rfl, rfl, rfl, trivial⟩, S18.pick [1, 2, 3] [_, _, _] (by decide) ⟨rfl, rfl, rfl, trivial⟩, ?hq4f0, ?hq4f1, ?hq4f2, ?hq4f3, ?hq4f4⟩⟩
         case hq4f0 => (rw [← hrn]; first | exact (rdR_b (s := s) (f := f) (k := k) (d := ⟨acc, lp⟩) (by omega) hf (by assumption)).symm | exact (rdR_o (s := s) (f := f) (k := k) (d := ⟨acc, lp⟩) (by omega) hf (by assumption) (by assumption) (by assumption)).symm | exact (rdR_x (s := s) (f := f) (k := k) (d := ⟨acc, lp⟩) (by omega) hf (by assumption) (by rintro ⟨a9, b9⟩; first | exact absurd a9 (by assumption) | (rw [hb30] at b9; cases b9)) (by omega) (by assumption)).symm)
         case hq4f1 => omega
         case hq4f2 => omega
         case hq4f3 => first | omega | (rw [List.length_append]; simp only [List.length_cons, List.length_nil]; omega)
         case hq4f4 => omega
         case hq4m => omega
     ·replace hg25 := of_decide_eq_false hg25
      refine wl_no (k := 5) (k' := 6) (d := 26) rfl rfl ⟨_, _, _, rfl, rfl, rfl, rfl⟩ rfl rfl ?_
      refine wl_no (k := 6) (k' := 7) (d := 27) rfl rfl ⟨_, _, _, rfl, rfl, rfl, rfl⟩ rfl rfl ?_
      refine wl_no (k := 7) (k' := 8) (d := 28) rfl rfl ⟨_, _, _, rfl, rfl, rfl, rfl⟩ rfl rfl ?_
      refine wl_no (k := 8) (k' := 9) (d := 29) rfl rfl ⟨_, _, _, rfl, rfl, rfl, rfl⟩ rfl rfl ?_
      refine wlo 9 10 rfl rfl rfl (wo_run rfl rfl (run_pickF rfl rfl rfl) ?_)
      refine wl_end rfl ?_
      refine nm_sub [(0, _), (2, _), (4, _), (5, _), (30, _)] ⟨rfl, rfl, rfl, rfl, rfl, trivial⟩ ?_
      refine nm_thn ?_
      refine ws_condFN ReadDiagram_n39 rfl rfl rfl ?_
      refine ws_skip rfl ?_
      refine nm_sub [(0, _), (2, _), (4, _), (5, _)] ⟨rfl, rfl, rfl, rfl, trivial⟩ ?_
      refine nm_thn ?_
      refine ws_seqN ReadDiagram_n44 ReadDiagram_n45 rfl rfl rfl ?_
      refine ws_region rfl ?_
      refine wlm 0 1 rfl rfl rfl rfl rfl rfl rfl ?_
      refine wlm 1 2 rfl rfl rfl rfl rfl rfl rfl ?_
      refine wlo 2 3 rfl rfl rfl (wo_ct rfl rfl rfl rfl rfl rfl rfl cf24 S6 (crossIn_t s k (by omega) (by omega) S6.lend) ?_)
      intro vw17 w17 M3 hle3 S19 hRw17; clear S6
      obtain rfl := hRw17
      obtain ⟨hcb1, hcb2⟩ := crR_bd (s := s) (k := k) (by omega)
      refine wlm 3 4 rfl rfl rfl rfl rfl rfl rfl ?_
      refine wlo 4 5 rfl rfl rfl (wo_run rfl rfl (run_extract rfl rfl rfl) ?_)
      refine wlo 5 6 rfl rfl rfl (wo_run rfl rfl (run_extract rfl rfl rfl) ?_)
      refine wlo 6 7 rfl rfl rfl (wo_alloc (l := [_, _, _, _, _]) rfl rfl rfl zr49 rfl S19 ?_)
      intro gb5 w18 S20; clear S19
      refine wlo 7 8 rfl rfl rfl (wo_storeB (i := 0) (us := [_, _, _, _, _]) (l' := [_, _, _, _, _]) (H' := [_, _, _, _]) rfl rfl S20 rfl rfl rfl rfl sz49 rfl rfl rfl rfl ?_)
      intro w19 S21; clear S20
      refine wla 8 9 rfl rfl rfl rfl rfl rfl rfl ?_
      refine wl_end rfl ?_
      refine nm_sub [(0, _), (2, _), (4, _), (5, _), (6, _), (7, _)] ⟨rfl, rfl, rfl, rfl, rfl, rfl, trivial⟩ ?_
      refine nm_thn ?_
      refine ws_seqN ReadDiagram_n46 ReadDiagram_n47 rfl rfl rfl ?_
      refine ws_seqN ReadDiagram_n48 ReadDiagram_n49 rfl rfl rfl ?_
      refine ws_region rfl ?_
      refine wlm 0 1 rfl rfl rfl rfl rfl rfl rfl ?_
      refine wlm 1 2 rfl rfl rfl rfl rfl rfl rfl ?_
      refine wlo 2 3 rfl rfl rfl (wo_run rfl rfl (run_eql rfl rfl rfl) ?_)
      refine wlm 3 4 rfl rfl rfl rfl rfl rfl rfl ?_
      refine wl_split (t := 46) rfl (fun hg46 => ?_) (fun hg46 => ?_)
      ·replace hg46 := of_decide_eq_true hg46
       refine wl_no (k := 4) (k' := 5) (d := 47) rfl rfl ⟨_, _, _, rfl, rfl, rfl, rfl⟩ rfl rfl ?_
       refine wl_no (k := 5) (k' := 6) (d := 48) rfl rfl ⟨_, _, _, rfl, rfl, rfl, rfl⟩ rfl rfl ?_
       refine wl_no (k := 6) (k' := 7) (d := 49) rfl rfl ⟨_, _, _, rfl, rfl, rfl, rfl⟩ rfl rfl ?_
       refine wl_no (k := 7) (k' := 8) (d := 50) rfl rfl ⟨_, _, _, rfl, rfl, rfl, rfl⟩ rfl rfl ?_
       refine wlo 8 9 rfl rfl rfl (wo_run rfl rfl (run_pickT rfl rfl rfl) ?_)
       refine wl_end rfl ?_
       refine nm_sub [(0, _), (2, _), (4, _), (6, _), (7, _), (51, _)] ⟨rfl, rfl, rfl, rfl, rfl, rfl, trivial⟩ ?_
       refine nm_thn ?_
       refine ws_condTN ReadDiagram_n50 rfl rfl rfl ?_
       refine ws_seqN ReadDiagram_n52 ReadDiagram_n53 rfl rfl rfl ?_
       refine ws_region rfl ?_
       refine wlo 0 1 rfl rfl rfl (wo_run rfl rfl (run_build (l := [_, _]) rfl rfl st30 rfl rfl) ?_)
       refine wlo 1 2 rfl rfl rfl (wo_storeB (i := 3) (us := [_, _]) (l' := [_, _]) (H' := [_, _, _, _]) rfl rfl S21 rfl rfl rfl rfl sz30 rfl rfl rfl rfl ?_)
       intro w20 S22; clear S21
       refine wla 2 3 rfl rfl rfl rfl rfl rfl rfl ?_
       refine wl_end rfl ?_
       refine nm_sub [(2, _), (3, _)] ⟨rfl, rfl, trivial⟩ ?_
       refine nm_thn ?_
       refine ws_ret hC [_, _] rfl rfl ⟨⟨_, rfl, loadVarN (us := [_, _]) Tryd.underlying30 rfl sz30 (S22.boxcs (i := 3) rfl ⟨rfl, rfl, trivial⟩)⟩, rfl, trivial⟩ ?_
       refine ⟨_, rfl, _, hle1.trans hle3, (S22.pick [] [] (by decide) trivial), ?_⟩
       refine DgT9.of (p := (⟨[], 0⟩, 1)) ⟨_, _, rfl, RdA.nil_⟩ ?_
       unfold refC
       rw [if_neg (by omega)]
       rw [← hrn, rdR_n (by omega) hf (by assumption) (by rintro ⟨a9, b9⟩; first | exact absurd a9 (by assumption) | (rw [hb30] at b9; cases b9)) (by first | exact .inl (by omega) | exact .inr (by assumption))]
       rfl
      ·replace hg46 := of_decide_eq_false hg46
       refine wl_opG (k := 4) (k' := 5) rfl rfl ⟨_, _, _, rfl, rfl, rfl, rfl⟩ rfl (wo_run rfl rfl (run_move rfl rfl) ?_)
       refine wl_opG (k := 5) (k' := 6) rfl rfl ⟨_, _, _, rfl, rfl, rfl, rfl⟩ rfl (wo_run rfl rfl (run_move rfl rfl) ?_)
       refine wl_opG (k := 6) (k' := 7) rfl rfl ⟨_, _, _, rfl, rfl, rfl, rfl⟩ rfl (wo_cq rfl rfl rfl rfl rfl rfl rfl cf23 S21 (blankAt_q s ((crR s k).2) S21.lend) ?_)
       rintro _ w21 S23 rfl; clear S21
       refine wl_opG (k := 7) (k' := 8) rfl rfl ⟨_, _, _, rfl, rfl, rfl, rfl⟩ rfl (wo_run rfl rfl (run_not rfl rfl) ?_)
       refine wlo 8 9 rfl rfl rfl (wo_run rfl rfl (run_pickF rfl rfl rfl) ?_)
       refine wl_end rfl ?_
       refine nm_sub [(0, _), (2, _), (4, _), (6, _), (7, _), (51, _)] ⟨rfl, rfl, rfl, rfl, rfl, rfl, trivial⟩ ?_
       refine nm_thn ?_
       refine ws_condN ReadDiagram_n50 ReadDiagram_n51 rfl rfl rfl rfl (fun hb51 => ?_) (fun hb51 => ?_)
       ·simp only [Bool.and_eq_true, Bool.or_eq_true, Bool.and_eq_false_iff, Bool.or_eq_false_iff, decide_eq_true_eq, decide_eq_false_iff_not, Bool.not_eq_true', Bool.not_eq_false'] at hb51
        refine ws_seqN ReadDiagram_n52 ReadDiagram_n53 rfl rfl rfl ?_
        refine ws_region rfl ?_
        refine wlo 0 1 rfl rfl rfl (wo_run rfl rfl (run_build (l := [_, _]) rfl rfl st30 rfl rfl) ?_)
        refine wlo 1 2 rfl rfl rfl (wo_storeB (i := 3) (us := [_, _]) (l' := [_, _]) (H' := [_, _, _, _]) rfl rfl S23 rfl rfl rfl rfl sz30 rfl rfl rfl rfl ?_)
        intro w22 S24; clear S23
        refine wla 2 3 rfl rfl rfl rfl rfl rfl rfl ?_
        refine wl_end rfl ?_
        refine nm_sub [(2, _), (3, _)] ⟨rfl, rfl, trivial⟩ ?_
        refine nm_thn ?_
        refine ws_ret hC [_, _] rfl rfl ⟨⟨_, rfl, loadVarN (us := [_, _]) Tryd.underlying30 rfl sz30 (S24.boxcs (i := 3) rfl ⟨rfl, rfl, trivial⟩)⟩, rfl, trivial⟩ ?_
        refine ⟨_, rfl, _, hle1.trans hle3, (S24.pick [] [] (by decide) trivial), ?_⟩
        refine DgT9.of (p := (⟨[], 0⟩, 1)) ⟨_, _, rfl, RdA.nil_⟩ ?_
        unfold refC
        rw [if_neg (by omega)]
        rw [← hrn, rdR_n (by omega) hf (by assumption) (by rintro ⟨a9, b9⟩; first | exact absurd a9 (by assumption) | (rw [hb30] at b9; cases b9)) (by first | exact .inl (by omega) | exact .inr (by assumption))]
        rfl
       ·simp only [Bool.and_eq_true, Bool.or_eq_true, Bool.and_eq_false_iff, Bool.or_eq_false_iff, decide_eq_true_eq, decide_eq_false_iff_not, Bool.not_eq_true', Bool.not_eq_false'] at hb51
        refine ws_skip rfl ?_
        refine nm_sub [(0, _), (2, _), (4, _), (6, _), (7, _)] ⟨rfl, rfl, rfl, rfl, rfl, trivial⟩ ?_
        refine nm_thn ?_
        refine ws_seqN ReadDiagram_n54 ReadDiagram_n55 rfl rfl rfl ?_
        refine ws_region rfl ?_
        refine wlo 0 1 rfl rfl rfl (wo_run rfl rfl (run_fieldAddr rfl rfl Tryd.underlying30 rfl (ce28) (nf28)) ?_)
        refine wlo 1 2 rfl rfl rfl (wo_run rfl rfl (run_load1 rfl rfl Tryd.underlying28 rfl (S23.boxc (i := 2) rfl rfl)) ?_)
        refine wlo 2 3 rfl rfl rfl (wo_run rfl rfl (run_loadN (us := [_, _, _, _, _]) rfl rfl Tryd.underlying49 rfl sz49 (S23.boxcs (i := 0) rfl ⟨rfl, rfl, rfl, rfl, rfl, trivial⟩)) ?_)
        refine wlo 3 4 rfl rfl rfl (wo_buildSlice1 (C := cdCr) (l := [_, _, _, _, _]) rfl rfl rfl rfl sl28 rfl rfl rfl rfl S23 ?_)
        intro gb6 w23 S25; clear S23
        refine wlo 4 5 rfl rfl rfl (wo_append1 (C := cdCr) (i := 2) (q := 0) (⟨(crR s k).1.a, (crR s k).1.b, (crR s k).1.c, (crR s k).1.d, (crR s k).1.plus⟩ : Cr) rfl rfl rfl rfl rfl rfl rfl rfl sl28 S25 rfl rfl rfl (by show (_ + 1) * 40 ≤ _; first | omega | (simp only [lens]; omega)) ?_)
        intro vro2 w24 S26; clear S25
        have S27 := S26.pick [1, 2, 3, 4] [_, _, _, _] (by decide) ⟨rfl, rfl, rfl, rfl, trivial⟩; clear S26
        refine wlo 5 6 rfl rfl rfl (wo_run rfl rfl (run_fieldAddr rfl rfl Tryd.underlying30 rfl (ce28) (nf28)) ?_)
        refine wlo 6 7 rfl rfl rfl (wo_storeB (i := 2) (us := [_]) (l' := [_, _]) (H' := [_, _, _, _]) rfl rfl S27 rfl rfl rfl (S27.cells1 (i := 1) rfl) sz28 rfl (ones_cons (S27.one (i := 1) rfl) rfl) rfl rfl ?_)
        intro w25 S28; clear S27
        refine wl_end rfl ?_
        refine nm_sub [(0, _), (2, _), (4, _), (7, _)] ⟨rfl, rfl, rfl, rfl, trivial⟩ ?_
        refine nm_thn ?_
        refine ws_region rfl ?_
        refine wlm 0 1 rfl rfl rfl rfl rfl rfl rfl ?_
        refine wla 1 2 rfl rfl rfl rfl rfl rfl rfl ?_
        refine wl_end rfl ?_
        refine nm_blk ?_
        refine nm_lp ?_
        intro ax_ hax_
        refine ⟨_, ?hq5m, ⟨(crR s k).2, (f - 1), _, _, _, _, (hle1.trans hle3), rfl, hax_.sub ⟨rfl, rfl, rfl, rfl, trivial⟩, S28.pick [1, 2, 3] [_, _, _] (by decide) ⟨rfl, rfl, rfl, trivial⟩, ?hq5f0, ?hq5f1, ?hq5f2, ?hq5f3, ?hq5f4⟩⟩
        case hq5f0 => (rw [← hrn]; first | exact (rdR_b (s := s) (f := f) (k := k) (d := ⟨acc, lp⟩) (by omega) hf (by assumption)).symm | exact (rdR_o (s := s) (f := f) (k := k) (d := ⟨acc, lp⟩) (by omega) hf (by assumption) (by assumption) (by assumption)).symm | exact (rdR_x (s := s) (f := f) (k := k) (d := ⟨acc, lp⟩) (by omega) hf (by assumption) (by rintro ⟨a9, b9⟩; first | exact absurd a9 (by assumption) | (rw [hb30] at b9; cases b9)) (by omega) (by assumption)).symm)
        case hq5f1 => omega
        case hq5f2 => omega
        case hq5f3 => first | omega | (rw [List.length_append]; simp only [List.length_cons, List.length_nil]; omega)
        case hq5f4 => omega
        case hq5m => omega
   ·replace hb15 := of_decide_eq_false hb15
    refine ws_exit rfl rfl ?_
    refine nm_sub [(2, _), (4, _)] ⟨rfl, rfl, trivial⟩ ?_
    refine nm_thn ?_
    refine ws_seqN ReadDiagram_n56 ReadDiagram_n57 rfl rfl rfl ?_
    refine ws_seqN ReadDiagram_n58 ReadDiagram_n59 rfl rfl rfl ?_
    refine ws_region rfl ?_
    refine wlo 0 1 rfl rfl rfl (wo_run rfl rfl (run_loadN (us := [_, _]) rfl rfl Tryd.underlying30 rfl sz30 (S5.boxcs (i := 1) rfl ⟨rfl, rfl, trivial⟩)) ?_)
    obtain ⟨A1, c1, e1, hr1⟩ := S5.lendRd (i := 0) rfl (by show _ * 40 ≤ _; first | omega | (simp only [lens]; omega))
    have hcall1 := DiagramMay_q (⟨acc, lp⟩ : Dg) hr1 S5.lend
    refine wlo 1 2 rfl rfl rfl (wo_cq rfl rfl rfl rfl rfl rfl rfl cf25 S5 (Cq.cast (by simp only [e1]) (hcall1)) ?_)
    rintro _ w26 S29 rfl; clear S5
    refine wlo 2 3 rfl rfl rfl (wo_run rfl rfl (run_not rfl rfl) ?_)
    refine wl_end rfl ?_
    refine nm_sub [(2, _), (4, _), (62, _)] ⟨rfl, rfl, rfl, trivial⟩ ?_
    refine nm_thn ?_
    refine ws_condN ReadDiagram_n60 ReadDiagram_n61 rfl rfl rfl rfl (fun hb62 => ?_) (fun hb62 => ?_)
    ·simp only [Bool.and_eq_true, Bool.or_eq_true, Bool.and_eq_false_iff, Bool.or_eq_false_iff, decide_eq_true_eq, decide_eq_false_iff_not, Bool.not_eq_true', Bool.not_eq_false'] at hb62
     refine ws_seqN ReadDiagram_n62 ReadDiagram_n63 rfl rfl rfl ?_
     refine ws_region rfl ?_
     refine wlo 0 1 rfl rfl rfl (wo_run rfl rfl (run_build (l := [_, _]) rfl rfl st30 rfl rfl) ?_)
     refine wlo 1 2 rfl rfl rfl (wo_storeB (i := 2) (us := [_, _]) (l' := [_, _]) (H' := [_, _, _]) rfl rfl S29 rfl rfl rfl rfl sz30 rfl rfl rfl rfl ?_)
     intro w27 S30; clear S29
     refine wla 2 3 rfl rfl rfl rfl rfl rfl rfl ?_
     refine wl_end rfl ?_
     refine nm_sub [(2, _), (3, _)] ⟨rfl, rfl, trivial⟩ ?_
     refine nm_thn ?_
     refine ws_ret hC [_, _] rfl rfl ⟨⟨_, rfl, loadVarN (us := [_, _]) Tryd.underlying30 rfl sz30 (S30.boxcs (i := 2) rfl ⟨rfl, rfl, trivial⟩)⟩, rfl, trivial⟩ ?_
     refine ⟨_, rfl, _, hle1, (S30.pick [] [] (by decide) trivial), ?_⟩
     refine DgT9.of (p := (⟨[], 0⟩, 7)) ⟨_, _, rfl, RdA.nil_⟩ ?_
     unfold refC
     rw [if_neg (by omega)]
     rw [← hrn, rdR_e (by omega)]
     unfold endC
     dsimp only
     rw [if_neg (by simp_all)]
    ·simp only [Bool.and_eq_true, Bool.or_eq_true, Bool.and_eq_false_iff, Bool.or_eq_false_iff, decide_eq_true_eq, decide_eq_false_iff_not, Bool.not_eq_true', Bool.not_eq_false'] at hb62
     refine ws_skip rfl ?_
     refine nm_sub [(2, _), (4, _)] ⟨rfl, rfl, trivial⟩ ?_
     refine nm_thn ?_
     refine ws_seqN ReadDiagram_n64 ReadDiagram_n65 rfl rfl rfl ?_
     refine ws_region rfl ?_
     refine wlo 0 1 rfl rfl rfl (wo_run rfl rfl (run_loadN (us := [_, _]) rfl rfl Tryd.underlying30 rfl sz30 (S29.boxcs (i := 1) rfl ⟨rfl, rfl, trivial⟩)) ?_)
     refine wlo 1 2 rfl rfl rfl (wo_storeB (i := 2) (us := [_, _]) (l' := [_, _]) (H' := [_, _, _]) rfl rfl S29 rfl rfl rfl rfl sz30 rfl (ones_cons (S29.one (i := 0) rfl) (ones_cons rfl rfl)) rfl rfl ?_)
     intro w28 S31; clear S29
     refine wla 2 3 rfl rfl rfl rfl rfl rfl rfl ?_
     refine wl_end rfl ?_
     refine nm_sub [(2, _), (3, _)] ⟨rfl, rfl, trivial⟩ ?_
     refine nm_thn ?_
     obtain ⟨M4, hle4, S32, ⟨A2, c2, e2, hr2⟩⟩ := S31.pubrow (i := 0) (H' := [_, _, _]) rfl rfl (by show _ * 40 ≤ _; first | omega | (simp only [lens]; omega))
     clear S31; subst e2
     refine ws_ret hC [_, _] rfl rfl ⟨⟨_, rfl, loadVarN (us := [_, _]) Tryd.underlying30 rfl sz30 (S32.boxcs (i := 2) rfl ⟨rfl, rfl, trivial⟩)⟩, rfl, trivial⟩ ?_
     refine ⟨_, rfl, _, hle1.trans hle4, (S32.pick [] [] (by decide) trivial), ?_⟩
     refine DgT9.of (p := (⟨acc, lp⟩, 0)) ⟨_, _, rfl, hr2⟩ ?_
     unfold refC
     rw [if_neg (by omega)]
     rw [← hrn, rdR_e (by omega)]
     unfold endC
     dsimp only
     rw [if_pos (by simp_all)]
end Go.Proofs.YtklcecpjgingpaaDoor
namespace Go.Proofs.YtklcecpjgingpaaDoor
open Go.Shelf Go.ChangeShapes Go.WideShapes Go.ChangeAt Go.RowKit
def hsL_ren : Go.Shelf.Ren := ⟨fun | 100 => 37 | 207 => 51 | n => n, fun | 9 => 9 | 4 => 4 | 3 => 3 | n => n, fun | n => n⟩
theorem hsL : Go.Proofs.Lays.n100 Tryd.prog hsL_ren := {
  mixed := by kernel_rfl
  f100 := Tryd.func37.trans (congrArg some (by kernel_rfl))
  f207 := Tryd.func51.trans (congrArg some (by kernel_rfl))
  t3 := Tryd.underlying3
  a3 := Tryd.isAgg3
  z3 := Tryd.sizeOf3
  v3 := Tryd.zeroValue3
  t4 := Tryd.underlying4
  a4 := Tryd.isAgg4
  z4 := Tryd.sizeOf4
  v4 := Tryd.zeroValue4
  t9 := Tryd.underlying9
  a9 := Tryd.isAgg9
  z9 := Tryd.sizeOf9
  v9 := Tryd.zeroValue9 }
def trimL_ren : Go.Shelf.Ren := ⟨fun | 160 => 52 | 232 => 64 | 231 => 63 | 227 => 65 | 234 => 67 | 233 => 66 | 236 => 69 | 235 => 68 | 228 => 84 | 271 => 86 | 151 => 85 | 197 => 36 | 120 => 98 | 152 => 97 | 260 => 50 | 137 => 101 | 119 => 102 | 224 => 75 | 225 => 74 | 217 => 73 | 266 => 88 | n => n, fun | 9 => 9 | 4 => 4 | 3 => 3 | 5 => 5 | 117 => 102 | 116 => 101 | 0 => 0 | 124 => 105 | 21 => 21 | 105 => 67 | 46 => 95 | 119 => 94 | 139 => 98 | 138 => 97 | n => n, fun | 3 => 0 | 4 => 1 | n => n⟩
theorem trimL : Go.Proofs.Lays.n160 Tryd.prog trimL_ren := {
  mixed := by kernel_rfl
  f119 := Tryd.func102.trans (congrArg some (by kernel_rfl))
  f120 := Tryd.func98.trans (congrArg some (by kernel_rfl))
  f137 := Tryd.func101.trans (congrArg some (by kernel_rfl))
  f151 := Tryd.func85.trans (congrArg some (by kernel_rfl))
  f152 := Tryd.func97.trans (congrArg some (by kernel_rfl))
  f160 := Tryd.func52.trans (congrArg some (by kernel_rfl))
  f197 := Tryd.func36.trans (congrArg some (by kernel_rfl))
  f217 := Tryd.func73.trans (congrArg some (by kernel_rfl))
  f224 := Tryd.func75.trans (congrArg some (by kernel_rfl))
  f225 := Tryd.func74.trans (congrArg some (by kernel_rfl))
  f227 := Tryd.func65.trans (congrArg some (by kernel_rfl))
  f228 := Tryd.func84.trans (congrArg some (by kernel_rfl))
  f231 := Tryd.func63.trans (congrArg some (by kernel_rfl))
  f232 := Tryd.func64.trans (congrArg some (by kernel_rfl))
  f233 := Tryd.func66.trans (congrArg some (by kernel_rfl))
  f234 := Tryd.func67.trans (congrArg some (by kernel_rfl))
  f235 := Tryd.func68.trans (congrArg some (by kernel_rfl))
  f236 := Tryd.func69.trans (congrArg some (by kernel_rfl))
  f260 := Tryd.func50.trans (congrArg some (by kernel_rfl))
  f266 := Tryd.func88.trans (congrArg some (by kernel_rfl))
  f271 := Tryd.func86.trans (congrArg some (by kernel_rfl))
  t0 := Tryd.underlying0
  a0 := Tryd.isAgg0
  z0 := Tryd.sizeOf0
  v0 := Tryd.zeroValue0
  t3 := Tryd.underlying3
  a3 := Tryd.isAgg3
  z3 := Tryd.sizeOf3
  v3 := Tryd.zeroValue3
  t4 := Tryd.underlying4
  a4 := Tryd.isAgg4
  z4 := Tryd.sizeOf4
  v4 := Tryd.zeroValue4
  t5 := Tryd.underlying5
  a5 := Tryd.isAgg5
  z5 := Tryd.sizeOf5
  v5 := Tryd.zeroValue5
  t9 := Tryd.underlying9
  a9 := Tryd.isAgg9
  z9 := Tryd.sizeOf9
  v9 := Tryd.zeroValue9
  t21 := Tryd.underlying21
  a21 := Tryd.isAgg21
  z21 := Tryd.sizeOf21
  v21 := Tryd.zeroValue21
  t46 := Tryd.underlying95
  a46 := Tryd.isAgg95
  z46 := Tryd.sizeOf95
  v46 := Tryd.zeroValue95
  t105 := Tryd.underlying67
  a105 := Tryd.isAgg67
  z105 := Tryd.sizeOf67
  v105 := Tryd.zeroValue67
  t116 := Tryd.underlying101
  a116 := Tryd.isAgg101
  z116 := Tryd.sizeOf101
  t117 := Tryd.underlying102
  a117 := Tryd.isAgg102
  z117 := Tryd.sizeOf102
  v117 := Tryd.zeroValue102
  t119 := Tryd.underlying94
  a119 := Tryd.isAgg94
  z119 := Tryd.sizeOf94
  t124 := Tryd.underlying105
  a124 := Tryd.isAgg105
  z124 := Tryd.sizeOf105
  v124 := Tryd.zeroValue105
  t138 := Tryd.underlying97
  a138 := Tryd.isAgg97
  z138 := Tryd.sizeOf97
  v138 := Tryd.zeroValue97
  t139 := Tryd.underlying98
  a139 := Tryd.isAgg98
  z139 := Tryd.sizeOf98
  v139 := Tryd.zeroValue98
  g3 := by kernel_rfl
  g4 := by kernel_rfl }
def decL_ren : Go.Shelf.Ren := ⟨fun | 197 => 36 | 260 => 50 | n => n, fun | 9 => 9 | 21 => 21 | 3 => 3 | 4 => 4 | 5 => 5 | 105 => 67 | 119 => 94 | 0 => 0 | 46 => 95 | 139 => 98 | 138 => 97 | n => n, fun | 3 => 0 | 4 => 1 | n => n⟩
theorem decL : Go.Proofs.Lays.n197 Tryd.prog decL_ren := {
  mixed := by kernel_rfl
  f197 := Tryd.func36.trans (congrArg some (by kernel_rfl))
  f260 := Tryd.func50.trans (congrArg some (by kernel_rfl))
  t0 := Tryd.underlying0
  a0 := Tryd.isAgg0
  z0 := Tryd.sizeOf0
  v0 := Tryd.zeroValue0
  t3 := Tryd.underlying3
  a3 := Tryd.isAgg3
  z3 := Tryd.sizeOf3
  v3 := Tryd.zeroValue3
  t4 := Tryd.underlying4
  a4 := Tryd.isAgg4
  z4 := Tryd.sizeOf4
  v4 := Tryd.zeroValue4
  t5 := Tryd.underlying5
  a5 := Tryd.isAgg5
  z5 := Tryd.sizeOf5
  v5 := Tryd.zeroValue5
  t9 := Tryd.underlying9
  a9 := Tryd.isAgg9
  z9 := Tryd.sizeOf9
  v9 := Tryd.zeroValue9
  t21 := Tryd.underlying21
  a21 := Tryd.isAgg21
  z21 := Tryd.sizeOf21
  v21 := Tryd.zeroValue21
  t46 := Tryd.underlying95
  a46 := Tryd.isAgg95
  z46 := Tryd.sizeOf95
  v46 := Tryd.zeroValue95
  t105 := Tryd.underlying67
  a105 := Tryd.isAgg67
  z105 := Tryd.sizeOf67
  v105 := Tryd.zeroValue67
  t119 := Tryd.underlying94
  a119 := Tryd.isAgg94
  z119 := Tryd.sizeOf94
  t138 := Tryd.underlying97
  a138 := Tryd.isAgg97
  z138 := Tryd.sizeOf97
  v138 := Tryd.zeroValue97
  t139 := Tryd.underlying98
  a139 := Tryd.isAgg98
  z139 := Tryd.sizeOf98
  v139 := Tryd.zeroValue98
  g3 := by kernel_rfl
  g4 := by kernel_rfl }
def digs : List UInt8 := [48, 49, 50, 51, 52, 53, 54, 55, 56, 57]
theorem below_two (w : World) (a b : Obj) (q : Nat) : Below w.heap.size w (((w.alloc a).alloc b).drewN q) :=
  ⟨rfl, rfl, rfl, by show w.heap.size ≤ ((w.heap.push a).push b).size; simp; omega, fun j hj => by show ((w.heap.push a).push b)[j]? = w.heap[j]?; rw [Array.getElem?_push, if_neg (by simp; omega), Array.getElem?_push, if_neg (by omega)]⟩
theorem cell_le {W w : World} (hw : (hp W).le (hp w)) {g o : Nat} {v : Value} (h : W.cell? ⟨g, o, none⟩ = some v) : w.cell? ⟨g, o, none⟩ = some v := by
  unfold World.cell? at h ⊢
  cases hb : W.heap[g]? with
  | none => simp [hb] at h
  | some ob =>
    have h2 : w.heap[g]? = some ob := hw g _ hb
    simp only [hb] at h
    simp only [h2]
    exact h
/-- The decoder's tables lie in a part of memory. -/
def U8T (N : Hp) : Prop := ∀ w : World, N.le (hp w) → Lib.Utf8Tabs (decL_ren.g 3) (decL_ren.g 4) w
theorem U8T.mono {N N' : Hp} (h : U8T N) (k : N.le N') : U8T N' := fun w hw => h w (k.trans hw)
theorem U8T.start {W : World} (h : Lib.Utf8Tabs (decL_ren.g 3) (decL_ren.g 4) W) : U8T (hp W) := fun w hw => ⟨fun c hc => cell_le hw (h.1 c hc), fun i hi => ⟨cell_le hw (h.2 i hi).1, cell_le hw (h.2 i hi).2⟩⟩
section
variable {w : World} {M : Hp} {X : Fr}
theorem hasS_q (s p : List UInt8) (hs : s.length ≤ 9223372036854775807) (S : SH w M X []) : Cq Tryd.prog 37 [.string (sB s), .string (sB p)] w M X (fun u => u = .bool (p.isSuffixOf s)) :=
  (Any.strings_HasSuffix hsL (sB s) (sB p) w (by rw [sB_size]; exact hs)).mono fun e w' ⟨he, hw⟩ => ⟨_, he, by rw [hw]; exact S, by rw [sB_dt, sB_dt]; rfl⟩
theorem digs_ascii : ∀ (j : Nat) b, digs[j]? = some b → b.toNat < 128 := fun j b h => by
  have := List.mem_of_getElem? h
  simp only [digs, List.mem_cons, List.mem_nil_iff, or_false] at this
  rcases this with rfl | rfl | rfl | rfl | rfl | rfl | rfl | rfl | rfl | rfl <;> decide
theorem zvT : ∀ w, (zeroValue 101).run Tryd.prog w = .ok (.agg (Array.replicate 256 (.bool false))) w := fun w => (Tryd.zeroValue101 w).trans (congrArg (fun z => Result.ok z w) (by kernel_rfl))
theorem trim_q (s : List UInt8) (hs : s.length ≤ 2000) (h0 : 0 < s.length) (S : SH w M X []) : Cq Tryd.prog 52 [.string (sB s), .string (sB digs)] w M X (fun u => u = .string (sB (Lib.trimS s digs))) := by
  refine (Any.strings_Trim_set trimL zvT (by kernel_rfl) (sB s) (sB digs) w (by rw [sB_size]; decide) (by rw [sB_size]; exact h0) (by rw [sB_size]; omega) (by rw [sB_size]; decide) (by rw [sB_dt]; exact digs_ascii)).mono ?_
  rintro e w' ⟨he, q, rfl⟩
  rw [sB_dt, sB_dt] at he
  exact ⟨_, he, S.of_below (below_two _ _ _ _), rfl⟩
theorem dec_q (s : List UInt8) (h : U8T (M.un X.h)) (S : SH w M X []) : Cq Tryd.prog 36 [.string (sB s)] w M X (fun u => u = .tuple [.int .i32 ((Lib.decodeGo (sB s)).1 : Int), .int .i64 ((Lib.decodeGo (sB s)).2 : Int)].toArray) :=
  (Any.utf8_DecodeRuneInString decL (sB s) w (h w S.um)).mono fun e w' ⟨he, hw⟩ => ⟨_, he, S.of_below hw, rfl⟩
end
theorem dw_nil {p : UInt8 → Bool} : ∀ {l : List UInt8}, l.dropWhile p = [] ↔ ∀ c ∈ l, p c = true
  | [] => by simp
  | c :: l => by
    rw [List.dropWhile_cons]
    by_cases hc : p c = true
    · rw [if_pos hc, dw_nil (l := l)]; simp [hc]
    · rw [if_neg hc]; simp [hc]
theorem dw_head {p : UInt8 → Bool} : ∀ {l : List UInt8} {c : UInt8} {r : List UInt8}, l.dropWhile p = c :: r → p c = false
  | [], c, r, h => by simp at h
  | d :: l, c, r, h => by
    rw [List.dropWhile_cons] at h
    by_cases hd : p d = true
    · rw [if_pos hd] at h; exact dw_head h
    · rw [if_neg hd] at h
      obtain ⟨rfl, _⟩ := List.cons.inj h
      simpa using hd
theorem trimS_nil (l cs : List UInt8) : Lib.trimS l cs = [] ↔ ∀ c ∈ l, cs.contains c = true := by
  unfold Lib.trimS Lib.trimLeftS Lib.trimRightS
  rw [dw_nil]
  constructor
  · intro h
    cases hd : l.reverse.dropWhile (cs.contains ·) with
    | nil => intro c hc; exact dw_nil.1 hd c (List.mem_reverse.2 hc)
    | cons c r =>
      have h1 := dw_head hd
      have h2 := h c (by rw [hd]; simp)
      rw [h2] at h1; cases h1
  · intro h c hc
    have hd : l.reverse.dropWhile (cs.contains ·) = [] := dw_nil.2 fun c hc => h c (List.mem_reverse.1 hc)
    rw [hd] at hc; simp at hc
theorem digs_iff (c : UInt8) : digs.contains c = true ↔ 48 ≤ c.toNat ∧ c.toNat ≤ 57 := by
  rw [List.contains_iff_mem]
  simp only [digs, List.mem_cons, List.mem_nil_iff, or_false]
  constructor
  · rintro (rfl | rfl | rfl | rfl | rfl | rfl | rfl | rfl | rfl | rfl) <;> decide
  · intro h
    have : c.toNat = 48 ∨ c.toNat = 49 ∨ c.toNat = 50 ∨ c.toNat = 51 ∨ c.toNat = 52 ∨ c.toNat = 53 ∨ c.toNat = 54 ∨ c.toNat = 55 ∨ c.toNat = 56 ∨ c.toNat = 57 := by omega
    have e : c = UInt8.ofNat c.toNat := by simp
    rcases this with h | h | h | h | h | h | h | h | h | h <;> (rw [h] at e; rw [e]; decide)
end Go.Proofs.YtklcecpjgingpaaDoor
namespace Go.Proofs.YtklcecpjgingpaaDoor
open Go.ChangeShapes Go.WideShapes Go.ChangeAt Go.RowKit
section
variable {P : Program} {o : Oper} {L : List (Nat × Value)} {w w' : World} {x y z : Operand} {t t' T E src dst : TypeId} {v u : Value} {n d : Nat} {a b : List UInt8}
theorem sB_cut (k e : Nat) (a : List UInt8) : (sB a).extract k e = sB ((a.drop k).take (e - k)) := by
  apply ByteArray.ext
  rw [ByteArray.data_extract]
  show a.toArray.extract k e = ((a.drop k).take (e - k)).toArray
  apply Array.ext'
  simp
/-- s[k:e] -/
theorem run_cutS (k e : Nat) {lx hx' : Operand} {ei : Int} (hop : o.op = .slice T x (some lx) (some hx') none) (hx : oev L x = some (.string (sB a))) (hl : oev L lx = some (.int .i64 (k : Int))) (hh : oev L hx' = some (.int .i64 ei)) (hu : P.underlying T = some .string) (hei : ei = (e : Int)) (h : k ≤ e) (h2 : e ≤ a.length) : Run P o L w (.string (sB ((a.drop k).take (e - k)))) w := by
  subst hei
  intro n c he
  have e1 : (k : Int) ≤ (e : Int) := by omega
  have e3 : (0 : Int) ≤ (k : Int) := by omega
  have e2 : (0 : Int) ≤ (e : Int) ∧ (e : Int) ≤ ((sB a).size : Int) := by rw [sB_size]; omega
  unfold execOp
  simp only [hop, he.eval hx, he.eval hl, he.eval hh, Instr.sliceAt, Instr.slice, Instr.sliceBounds, Instr.sliceBound, asIntOf, Option.map_none, Option.map_some, Sem.run_bind, Sem.run_pure, Result.andThen_ok, run_underlying hu, e2, e3, and_self, if_true, Option.isSome_none, Bool.false_eq_true, if_false]
  rw [if_pos ⟨trivial, by first | exact e1 | (simp; omega)⟩]
  simp only [Sem.run_pure, Result.andThen_ok]
  have e4 : ((k : Int)).toNat = k := by omega
  have e5 : ((e : Int)).toNat = e := by omega
  rw [sB_cut, e4, e5]
theorem run_eqlI0 {ms} (ho : o.op = .binOp .eql t x (.const .nilIface) t') (hx : oev L x = some .nilIface) (hy : oev L (.const .nilIface) = some .nilIface) (hu : P.underlying t = some (.interface ms)) : Run P o L w (.bool true) w := by
  intro n c hc
  unfold execOp
  have h1 : ∀ w, (eqGuard .eql t x (.const .nilIface) .nilIface .nilIface).run P w = .ok () w := fun w => by rw [eqGuard_nil_constR]; rfl
  have h2 : ∀ w, (Op.equal t .nilIface .nilIface).run P w = .ok true w := fun w => by
    have h : ∀ d : Nat, (Op.equalIn (d + 1) t .nilIface .nilIface).run P w = .ok true w := fun d => by simp [Op.equalIn, run_underlying hu]
    exact h 9999
  simp only [ho, hc.eval hx, hc.eval hy, h1, binOp, h2, Sem.run_bind, Result.andThen_ok, Sem.run_pure]
theorem upd_int (h : Nat → Int) (e : Nat) (v : Int) (k : Nat) : upd (fun k => Value.int .i64 (h k)) e (.int .i64 v) k = .int .i64 (upd h e v k) := by
  unfold upd; split <;> rfl
theorem spl_i4 {e : Nat} (h : Nat → Int) (v : Int) (he : e < 4) : spl [Value.int .i64 (h 0), Value.int .i64 (h 1), Value.int .i64 (h 2), Value.int .i64 (h 3)] (0 + e * 1) [Value.int .i64 v] = [Value.int .i64 (upd h e v 0), Value.int .i64 (upd h e v 1), Value.int .i64 (upd h e v 2), Value.int .i64 (upd h e v 3)] := by
  have := spl_fn4 (fun k => Value.int .i64 (h k)) (.int .i64 v) he
  simpa only [upd_int] using this
end
end Go.Proofs.YtklcecpjgingpaaDoor
namespace Go.Proofs.YtklcecpjgingpaaDoor
open Go.ChangeShapes Go.WideShapes Go.ChangeAt Go.RowKit
theorem valD_lt : ∀ (l : List UInt8) (n : Nat), allD l → valD n l < (n + 1) * 10 ^ l.length
 | [], n, _ => by show n < (n + 1) * 10 ^ 0; omega
 | c :: l, n, h => by
  have hc := h c (List.mem_cons_self ..)
  have ih := valD_lt l (10 * n + (c.toNat - 48)) (fun x hx => h x (List.mem_cons_of_mem _ hx))
  show valD _ l < (n + 1) * 10 ^ (l.length + 1)
  have h2 : (10 * n + (c.toNat - 48) + 1) * 10 ^ l.length ≤ (n + 1) * 10 * 10 ^ l.length := Nat.mul_le_mul_right _ (by omega)
  rw [Nat.pow_succ, Nat.mul_comm (10 ^ l.length) 10, ← Nat.mul_assoc]
  omega
theorem valD_ok {l : List UInt8} (h : okN l) : valD 0 l < 1000 := by
 have h1 := valD_lt l 0 h.2.2
 have h2 : 10 ^ l.length ≤ 10 ^ 3 := Nat.pow_le_pow_right (by decide) h.2.1
 omega
theorem atoi_okN {s : List UInt8} (h : okN s) : Lib.atoiAll s = .ok (valD 0 s : Nat) := by
 obtain ⟨h0, h1, h2⟩ := h
 have hm := valD_ok ⟨h0, h1, h2⟩
 have hp : Lib.parseMag s = .ok (valD 0 s) := by
  unfold Lib.parseMag
  rw [if_neg h0]
  exact parse_dig h2 0 (by omega)
 cases s with
 | nil => exact absurd rfl h0
 | cons c r =>
  have hc := h2 c (List.mem_cons_self ..)
  rw [Lib.atoiAll_plain c r (by omega) (by omega), hp]
  show (if 9223372036854775808 ≤ valD 0 (c :: r) then _ else _) = _
  rw [if_neg (by omega)]
theorem atoi_ok_q {w : World} {M : Hp} {X : Fr} (s : List UInt8) (h : okN s) (S : SH w M X []) : Cq Tryd.prog 29 [.string (sB s)] w M X (fun u => u = .tuple [.int .i64 ((valD 0 s : Nat) : Int), .nilIface].toArray) := by
 refine (Any.strconv_Atoi_ok atoiL (sB s) (by rw [sB_size]; have := h.2.1; omega) _ (by rw [sB_dt]; exact atoi_okN h) w).mono ?_
 rintro e w' ⟨he, hw⟩
 refine ⟨_, he, ?_, rfl⟩
 rcases hw with rfl | ⟨t, rfl⟩
 ·exact S
 ·exact S.of_below (Lib.bytesWorld_below _ _ _)
theorem okN_of {s : List UInt8} (h0 : s ≠ []) (h1 : s.length ≤ 3) (h2 : Lib.trimS s digs = []) : okN s := ⟨h0, h1, fun c hc => (digs_iff c).1 ((trimS_nil s digs).1 h2 c hc)⟩
theorem trim_okN {s : List UInt8} (h : okN s) : Lib.trimS s digs = [] := (trimS_nil s digs).2 fun c hc => (digs_iff c).2 (h.2.2 c hc)
def nuW (s : List UInt8) : Int := if okN s then (valD 0 s : Nat) else 0
def nuV (s : List UInt8) : Value := .tuple [.int .i64 (nuW s), .bool (decide (okN s))].toArray
theorem nu_no {s : List UInt8} (h : s = [] ∨ 3 < s.length ∨ ¬ Lib.trimS s digs = []) : Value.tuple [.int .i64 0, .bool false].toArray = nuV s := by
 have hn : ¬ okN s := fun k => by
  rcases h with h | h | h
  ·exact k.1 h
  ·have := k.2.1; omega
  ·exact h (trim_okN k)
 unfold nuV nuW; rw [if_neg hn, decide_eq_false hn]
theorem nu_yes {s : List UInt8} (h : okN s) : Value.tuple [.int .i64 ((valD 0 s : Nat) : Int), .bool true].toArray = nuV s := by
 unfold nuV nuW; rw [if_pos h, decide_eq_true h]
noncomputable def number_n0 : Code := Tryd.f38.body.getD .skip
noncomputable def number_n1 : Code := cL number_n0
noncomputable def number_n2 : Code := cR number_n0
noncomputable def number_n3 : Code := cL number_n2
noncomputable def number_n4 : Code := cR number_n2
noncomputable def number_n5 : Code := cL number_n3
noncomputable def number_n6 : Code := cR number_n3
noncomputable def number_n7 : Code := cL number_n6
noncomputable def number_n8 : Code := cR number_n6
noncomputable def number_n9 : Code := cL number_n7
noncomputable def number_n10 : Code := cR number_n7
noncomputable def number_n11 : Code := cL number_n4
noncomputable def number_n12 : Code := cR number_n4
noncomputable def number_n13 : Code := cL number_n12
noncomputable def number_n14 : Code := cR number_n12
set_option maxRecDepth 10000 in
theorem number_q {w : World} {M : Hp} {X : Fr} (s : List UInt8) (hs : s.length ≤ 2000) (S : SH w M X []) : Cq Tryd.prog 38 [.string (sB s)] w M X (fun u => u = nuV s) := by
 unfold Cq
 refine calls_in (b := number_n0) Tryd.func38 rfl Tryd.ntmps38 rfl (fun C hC => ?_)
 refine ws_sub [(0, _)] ⟨rfl, trivial⟩ ?_
 refine ws_seqN number_n1 number_n2 rfl rfl rfl ?_
 refine ws_region rfl ?_
 refine wla 0 1 rfl rfl rfl rfl rfl rfl rfl ?_
 refine wla 1 2 rfl rfl rfl rfl rfl rfl rfl ?_
 refine wl_end rfl ?_
 refine nm_sub [(0, _)] ⟨rfl, trivial⟩ ?_
 refine nm_thn ?_
 refine ws_seqN number_n3 number_n4 rfl rfl rfl ?_
 refine ws_seqN number_n5 number_n6 rfl rfl rfl ?_
 refine ws_region rfl ?_
 refine wlm 0 1 rfl rfl rfl rfl rfl rfl rfl ?_
 refine wlo 1 2 rfl rfl rfl (wo_run rfl rfl (run_eqlD rfl rfl rfl) ?_)
 refine wlm 2 3 rfl rfl rfl rfl rfl rfl rfl ?_
 refine wl_split (t := 8) rfl (fun hg8 => ?_) (fun hg8 => ?_)
 ·replace hg8 := of_decide_eq_true hg8
  refine wl_no (k := 3) (k' := 4) (d := 9) rfl rfl ⟨_, _, _, rfl, rfl, rfl, rfl⟩ rfl rfl ?_
  refine wl_no (k := 4) (k' := 5) (d := 10) rfl rfl ⟨_, _, _, rfl, rfl, rfl, rfl⟩ rfl rfl ?_
  refine wl_no (k := 5) (k' := 6) (d := 11) rfl rfl ⟨_, _, _, rfl, rfl, rfl, rfl⟩ rfl rfl ?_
  refine wlo 6 7 rfl rfl rfl (wo_run rfl rfl (run_pickT rfl rfl rfl) ?_)
  refine wlm 7 8 rfl rfl rfl rfl rfl rfl rfl ?_
  refine wl_no (k := 8) (k' := 9) (d := 14) rfl rfl ⟨_, _, _, rfl, rfl, rfl, rfl⟩ rfl rfl ?_
  refine wl_no (k := 9) (k' := 10) (d := 15) rfl rfl ⟨_, _, _, rfl, rfl, rfl, rfl⟩ rfl rfl ?_
  refine wl_no (k := 10) (k' := 11) (d := 16) rfl rfl ⟨_, _, _, rfl, rfl, rfl, rfl⟩ rfl rfl ?_
  refine wlo 11 12 rfl rfl rfl (wo_run rfl rfl (run_pickT rfl rfl rfl) ?_)
  refine wl_end rfl ?_
  refine nm_sub [(0, _), (17, _)] ⟨rfl, rfl, trivial⟩ ?_
  refine nm_thn ?_
  refine ws_condTN number_n7 rfl rfl rfl ?_
  refine ws_seqN number_n9 number_n10 rfl rfl rfl ?_
  refine ws_region rfl ?_
  refine wla 0 1 rfl rfl rfl rfl rfl rfl rfl ?_
  refine wla 1 2 rfl rfl rfl rfl rfl rfl rfl ?_
  refine wl_end rfl ?_
  refine nm_sub [(2, _), (3, _)] ⟨rfl, rfl, trivial⟩ ?_
  refine nm_thn ?_
  refine ws_ret hC [_, _] rfl rfl ⟨rfl, rfl, trivial⟩ ?_
  exact ⟨_, rfl, (S.pick [] [] (by decide) trivial), nu_no (by first | exact .inl (by assumption) | exact .inr (.inl (by omega)) | exact .inr (.inr (by assumption)))⟩
 ·replace hg8 := of_decide_eq_false hg8
  refine wl_opG (k := 3) (k' := 4) rfl rfl ⟨_, _, _, rfl, rfl, rfl, rfl⟩ rfl (wo_run rfl rfl (run_move rfl rfl) ?_)
  refine wl_opG (k := 4) (k' := 5) rfl rfl ⟨_, _, _, rfl, rfl, rfl, rfl⟩ rfl (wo_run rfl rfl (run_lenS rfl rfl rfl rfl rfl rfl Tryd.underlying9) ?_)
  refine wl_opG (k := 5) (k' := 6) rfl rfl ⟨_, _, _, rfl, rfl, rfl, rfl⟩ rfl (wo_run rfl rfl (run_gtr rfl rfl rfl) ?_)
  refine wlo 6 7 rfl rfl rfl (wo_run rfl rfl (run_pickF rfl rfl rfl) ?_)
  refine wlm 7 8 rfl rfl rfl rfl rfl rfl rfl ?_
  refine wl_split (t := 13) rfl (fun hg13 => ?_) (fun hg13 => ?_)
  ·replace hg13 := of_decide_eq_true hg13
   refine wl_no (k := 8) (k' := 9) (d := 14) rfl rfl ⟨_, _, _, rfl, rfl, rfl, rfl⟩ rfl rfl ?_
   refine wl_no (k := 9) (k' := 10) (d := 15) rfl rfl ⟨_, _, _, rfl, rfl, rfl, rfl⟩ rfl rfl ?_
   refine wl_no (k := 10) (k' := 11) (d := 16) rfl rfl ⟨_, _, _, rfl, rfl, rfl, rfl⟩ rfl rfl ?_
   refine wlo 11 12 rfl rfl rfl (wo_run rfl rfl (run_pickT rfl rfl rfl) ?_)
   refine wl_end rfl ?_
   refine nm_sub [(0, _), (17, _)] ⟨rfl, rfl, trivial⟩ ?_
   refine nm_thn ?_
   refine ws_condTN number_n7 rfl rfl rfl ?_
   refine ws_seqN number_n9 number_n10 rfl rfl rfl ?_
   refine ws_region rfl ?_
   refine wla 0 1 rfl rfl rfl rfl rfl rfl rfl ?_
   refine wla 1 2 rfl rfl rfl rfl rfl rfl rfl ?_
   refine wl_end rfl ?_
   refine nm_sub [(2, _), (3, _)] ⟨rfl, rfl, trivial⟩ ?_
   refine nm_thn ?_
   refine ws_ret hC [_, _] rfl rfl ⟨rfl, rfl, trivial⟩ ?_
   exact ⟨_, rfl, (S.pick [] [] (by decide) trivial), nu_no (by first | exact .inl (by assumption) | exact .inr (.inl (by omega)) | exact .inr (.inr (by assumption)))⟩
  ·replace hg13 := of_decide_eq_false hg13
   refine wl_opG (k := 8) (k' := 9) rfl rfl ⟨_, _, _, rfl, rfl, rfl, rfl⟩ rfl (wo_run rfl rfl (run_move rfl rfl) ?_)
   refine wl_opG (k := 9) (k' := 10) rfl rfl ⟨_, _, _, rfl, rfl, rfl, rfl⟩ rfl (wo_cq rfl rfl rfl rfl rfl rfl rfl cf52 S (trim_q s hs (List.length_pos_iff.2 (by assumption)) S.lend) ?_)
   rintro _ w1 S1 rfl; clear S
   refine wl_opG (k := 10) (k' := 11) rfl rfl ⟨_, _, _, rfl, rfl, rfl, rfl⟩ rfl (wo_run rfl rfl (run_neqD rfl rfl rfl) ?_)
   refine wlo 11 12 rfl rfl rfl (wo_run rfl rfl (run_pickF rfl rfl rfl) ?_)
   refine wl_end rfl ?_
   refine nm_sub [(0, _), (17, _)] ⟨rfl, rfl, trivial⟩ ?_
   refine nm_thn ?_
   refine ws_condN number_n7 number_n8 rfl rfl rfl rfl (fun hb17 => ?_) (fun hb17 => ?_)
   ·replace hb17 := of_decide_eq_true hb17
    refine ws_seqN number_n9 number_n10 rfl rfl rfl ?_
    refine ws_region rfl ?_
    refine wla 0 1 rfl rfl rfl rfl rfl rfl rfl ?_
    refine wla 1 2 rfl rfl rfl rfl rfl rfl rfl ?_
    refine wl_end rfl ?_
    refine nm_sub [(2, _), (3, _)] ⟨rfl, rfl, trivial⟩ ?_
    refine nm_thn ?_
    refine ws_ret hC [_, _] rfl rfl ⟨rfl, rfl, trivial⟩ ?_
    exact ⟨_, rfl, (S1.pick [] [] (by decide) trivial), nu_no (by first | exact .inl (by assumption) | exact .inr (.inl (by omega)) | exact .inr (.inr (by assumption)))⟩
   ·replace hb17 := of_decide_eq_false hb17
    refine ws_skip rfl ?_
    refine nm_sub [(0, _)] ⟨rfl, trivial⟩ ?_
    refine nm_thn ?_
    refine ws_seqN number_n11 number_n12 rfl rfl rfl ?_
    have hok9 : okN s := okN_of (by assumption) (by omega) (Classical.not_not.1 (by assumption))
    refine ws_region rfl ?_
    refine wlm 0 1 rfl rfl rfl rfl rfl rfl rfl ?_
    refine wlo 1 2 rfl rfl rfl (wo_cq rfl rfl rfl rfl rfl rfl rfl cf29 S1 (atoi_ok_q s hok9 S1.lend) ?_)
    rintro _ w2 S2 rfl; clear S1
    refine wlm 2 3 rfl rfl rfl rfl rfl rfl rfl ?_
    refine wlo 3 4 rfl rfl rfl (wo_run rfl rfl (run_extract rfl rfl rfl) ?_)
    refine wlo 4 5 rfl rfl rfl (wo_run rfl rfl (run_extract rfl rfl rfl) ?_)
    refine wla 5 6 rfl rfl rfl rfl rfl rfl rfl ?_
    refine wla 6 7 rfl rfl rfl rfl rfl rfl rfl ?_
    refine wl_end rfl ?_
    refine nm_sub [(4, _), (5, _)] ⟨rfl, rfl, trivial⟩ ?_
    refine nm_thn ?_
    refine ws_seqN number_n13 number_n14 rfl rfl rfl ?_
    refine ws_draw rfl (by kernel_rfl) S2 5 rfl ?_
    clear S2
    refine wa_takeP (i := 0) (d := 23) 4 rfl (by kernel_rfl) (by kernel_rfl) (by kernel_rfl) rfl rfl rfl (fun w3 => run_move rfl rfl) ?_
    refine wa_takeP (i := 1) (d := 24) 3 rfl (by kernel_rfl) (by kernel_rfl) (by kernel_rfl) rfl rfl rfl (fun w4 => run_move rfl rfl) ?_
    refine wa_takeP (i := 2) (d := 25) 2 rfl (by kernel_rfl) (by kernel_rfl) (by kernel_rfl) rfl rfl rfl (fun w5 => run_eqlI0 rfl rfl rfl Tryd.underlying60) ?_
    refine wa_takeP (i := 3) (d := 2) 1 rfl (by kernel_rfl) (by kernel_rfl) (by kernel_rfl) rfl rfl rfl (fun w6 => run_assign rfl rfl) ?_
    refine wa_takeP (i := 4) (d := 3) 0 rfl (by kernel_rfl) (by kernel_rfl) (by kernel_rfl) rfl rfl rfl (fun w7 => run_assign rfl rfl) ?_
    refine wa_end (by kernel_rfl) (fun w8 S8 => ?_)
    refine nm_sub [(2, _), (3, _)] ⟨rfl, rfl, trivial⟩ ?_
    refine nm_thn ?_
    refine ws_ret hC [_, _] rfl rfl ⟨rfl, rfl, trivial⟩ ?_
    exact ⟨_, rfl, (S8.pick [] [] (by decide) trivial), nu_yes hok9⟩
end Go.Proofs.YtklcecpjgingpaaDoor
namespace Go.Proofs.YtklcecpjgingpaaDoor
open Go.ChangeShapes Go.WideShapes Go.ChangeAt Go.RowKit
theorem four_of {s : List UInt8} {b : UInt8} (h : [88, b, 91].isPrefixOf s = true) (h2 : [93].isSuffixOf s = true) : 4 ≤ s.length := by
 obtain ⟨r, rfl⟩ := pre3 h
 obtain ⟨q, hq⟩ := suf1 h2
 cases r with
 | nil =>
  have h3 := congrArg List.length hq
  have h4 := congrArg List.reverse hq
  simp at h4
 | cons c r => simp only [List.length_cons]; omega
def crE (o : Option Cr) : Cr := match o with
 | none => ⟨0, 0, 0, 0, false⟩
 | some x => x
def crsV (o : Option Cr) : Value := .tuple [.agg [.int .i64 (crE o).a, .int .i64 (crE o).b, .int .i64 (crE o).c, .int .i64 (crE o).d, .bool (crE o).plus].toArray, .bool o.isSome].toArray
theorem crP_1 {s : List UInt8} (h : [88, 43, 91].isPrefixOf s = false ∧ [88, 45, 91].isPrefixOf s = false ∨ [93].isSuffixOf s = false) : crossP s = none := by unfold crossP; rw [if_pos]; exact h
theorem crP_2 {s : List UInt8} (h : ¬ (spc 44 (midW s)).length = 4) : crossP s = none := by
 unfold crossP
 split
 ·rfl
 ·first | rfl | rw [if_pos h]
theorem crP_3 {s : List UInt8} {i : Nat} (h : i < 4) (h2 : ¬ okN (ga (spc 44 (midW s)) i)) : crossP s = none := by
 unfold crossP
 split
 ·rfl
 ·split
  ·rfl
  ·rw [if_neg]
   rintro ⟨h3, h4, h5, h6⟩
   have : i = 0 ∨ i = 1 ∨ i = 2 ∨ i = 3 := by omega
   rcases this with rfl | rfl | rfl | rfl
   ·exact h2 h3
   ·exact h2 h4
   ·exact h2 h5
   ·exact h2 h6
theorem crP_4 {s : List UInt8} (h1 : [88, 43, 91].isPrefixOf s = true ∨ [88, 45, 91].isPrefixOf s = true) (h2 : [93].isSuffixOf s = true) (h : (spc 44 (midW s)).length = 4) {h' : Nat → Int} (h3 : ∀ j, j < 4 → okN (ga (spc 44 (midW s)) j) ∧ h' j = (valD 0 (ga (spc 44 (midW s)) j) : Nat)) : crossP s = some ⟨h' 0, h' 1, h' 2, h' 3, [88, 43, 91].isPrefixOf s⟩ := by
 unfold crossP endB
 rw [if_neg, if_neg (by omega), if_pos ⟨(h3 0 (by omega)).1, (h3 1 (by omega)).1, (h3 2 (by omega)).1, (h3 3 (by omega)).1⟩, (h3 0 (by omega)).2, (h3 1 (by omega)).2, (h3 2 (by omega)).2, (h3 3 (by omega)).2]
 rintro (⟨a, b⟩ | a)
 ·rcases h1 with h1 | h1
  ·rw [a] at h1; cases h1
  ·rw [b] at h1; cases h1
 ·rw [a] at h2; cases h2
theorem ga_spc_len (l : List UInt8) : ∀ (b : UInt8) (i : Nat), i < (spc b l).length → (ga (spc b l) i).length ≤ l.length := by
 intro b
 induction l with
 | nil => intro i h; cases i with
  | zero => exact Nat.le_refl _
  | succ i => simp [spc] at h
 | cons c l ih =>
  intro i h
  unfold spc at h ⊢
  by_cases hc : c = b
  ·rw [if_pos hc] at h ⊢
   cases i with
   | zero => exact Nat.zero_le _
   | succ i => exact Nat.le_succ_of_le (ih i (by simpa using h))
  ·rw [if_neg hc] at h ⊢
   cases he : spc b l with
   | nil => exact absurd he (spc_ne b l)
   | cons w ws =>
    rw [he] at h ih
    dsimp only at h ⊢
    cases i with
    | zero => have := ih 0 (by simp); show w.length + 1 ≤ l.length + 1; exact Nat.succ_le_succ this
    | succ i => exact Nat.le_succ_of_le (ih (i + 1) (by simpa using h))
theorem midW_len (s : List UInt8) : (midW s).length ≤ s.length := by unfold midW; rw [List.length_take, List.length_drop]; omega
noncomputable def cross_n0 : Code := Tryd.f21.body.getD .skip
noncomputable def cross_n1 : Code := cL cross_n0
noncomputable def cross_n2 : Code := cR cross_n0
noncomputable def cross_n3 : Code := cL cross_n2
noncomputable def cross_n4 : Code := cR cross_n2
noncomputable def cross_n5 : Code := cL cross_n4
noncomputable def cross_n6 : Code := cR cross_n4
noncomputable def cross_n7 : Code := cL cross_n5
noncomputable def cross_n8 : Code := cR cross_n5
noncomputable def cross_n9 : Code := cL cross_n8
noncomputable def cross_n10 : Code := cR cross_n8
noncomputable def cross_n11 : Code := cL cross_n9
noncomputable def cross_n12 : Code := cR cross_n9
noncomputable def cross_n13 : Code := cL cross_n6
noncomputable def cross_n14 : Code := cR cross_n6
noncomputable def cross_n15 : Code := cL cross_n14
noncomputable def cross_n16 : Code := cR cross_n14
noncomputable def cross_n17 : Code := cL cross_n15
noncomputable def cross_n18 : Code := cR cross_n15
noncomputable def cross_n19 : Code := cL cross_n18
noncomputable def cross_n20 : Code := cR cross_n18
noncomputable def cross_n21 : Code := cL cross_n19
noncomputable def cross_n22 : Code := cR cross_n19
noncomputable def cross_n23 : Code := cL cross_n16
noncomputable def cross_n24 : Code := cR cross_n16
noncomputable def cross_n25 : Code := cL cross_n24
noncomputable def cross_n26 : Code := cR cross_n24
noncomputable def cross_n27 : Code := cL cross_n25
noncomputable def cross_n28 : Code := cR cross_n25
noncomputable def cross_n29 : Code := cL cross_n28
noncomputable def cross_n30 : Code := cL cross_n29
noncomputable def cross_n31 : Code := cL cross_n30
noncomputable def cross_n32 : Code := cR cross_n30
noncomputable def cross_n33 : Code := cL cross_n32
noncomputable def cross_n34 : Code := cR cross_n32
noncomputable def cross_n35 : Code := cL cross_n33
noncomputable def cross_n36 : Code := cR cross_n33
noncomputable def cross_n37 : Code := cL cross_n34
noncomputable def cross_n38 : Code := cR cross_n34
noncomputable def cross_n39 : Code := cL cross_n37
noncomputable def cross_n40 : Code := cL cross_n39
noncomputable def cross_n41 : Code := cR cross_n39
noncomputable def cross_n42 : Code := cL cross_n41
noncomputable def cross_n43 : Code := cR cross_n41
noncomputable def cross_n44 : Code := cL cross_n43
noncomputable def cross_n45 : Code := cR cross_n43
noncomputable def cross_n46 : Code := cL cross_n44
noncomputable def cross_n47 : Code := cR cross_n44
noncomputable def cross_n48 : Code := cL cross_n47
noncomputable def cross_n49 : Code := cR cross_n47
noncomputable def cross_n50 : Code := cL cross_n48
noncomputable def cross_n51 : Code := cR cross_n48
noncomputable def cross_n52 : Code := cL cross_n26
noncomputable def cross_n53 : Code := cR cross_n26
set_option maxHeartbeats 2000000 in
set_option maxRecDepth 10000 in
theorem cross_t {w : World} {M : Hp} {X : Fr} (s : List UInt8) (hs : s.length ≤ 2000) (hlb : LibOk (M.un X.h)) (S : SH w M X []) : Ct Tryd.prog 21 [.string (sB s)] w M X (fun u _ => u = crsV (crossP s)) := by
 unfold Ct
 refine calls_in (b := cross_n0) Tryd.func21 rfl Tryd.ntmps21 rfl (fun C hC => ?_)
 refine ws_sub [(0, _)] ⟨rfl, trivial⟩ ?_
 refine ws_seqN cross_n1 cross_n2 rfl rfl rfl ?_
 refine ws_region rfl ?_
 refine wlo 0 1 rfl rfl rfl (wo_alloc (l := [_, _, _, _, _]) rfl rfl rfl zr49 rfl S ?_)
 intro gb1 w1 S1; clear S
 refine wla 1 2 rfl rfl rfl rfl rfl rfl rfl ?_
 refine wl_end rfl ?_
 refine nm_sub [(0, _), (2, _)] ⟨rfl, rfl, trivial⟩ ?_
 refine nm_thn ?_
 refine ws_seqN cross_n3 cross_n4 rfl rfl rfl ?_
 refine ws_region rfl ?_
 refine wlm 0 1 rfl rfl rfl rfl rfl rfl rfl ?_
 refine wlo 1 2 rfl rfl rfl (wo_cq rfl rfl rfl rfl rfl rfl rfl cf11 S1 (hasP_q s ([88, 43, 91] : List UInt8) S1.lend) ?_)
 rintro _ w2 S2 rfl; clear S1
 refine wla 2 3 rfl rfl rfl rfl rfl rfl rfl ?_
 refine wl_end rfl ?_
 refine nm_sub [(0, _), (2, _), (4, _)] ⟨rfl, rfl, rfl, trivial⟩ ?_
 refine nm_thn ?_
 refine ws_seqN cross_n5 cross_n6 rfl rfl rfl ?_
 refine ws_seqN cross_n7 cross_n8 rfl rfl rfl ?_
 refine ws_region rfl ?_
 refine wlm 0 1 rfl rfl rfl rfl rfl rfl rfl ?_
 refine wlo 1 2 rfl rfl rfl (wo_run rfl rfl (run_not rfl rfl) ?_)
 refine wlm 2 3 rfl rfl rfl rfl rfl rfl rfl ?_
 refine wl_split (t := 15) rfl (fun hg15 => ?_) (fun hg15 => ?_)
 ·simp only [Bool.and_eq_true, Bool.or_eq_true, Bool.and_eq_false_iff, Bool.or_eq_false_iff, decide_eq_true_eq, decide_eq_false_iff_not, Bool.not_eq_true', Bool.not_eq_false'] at hg15
  refine wl_opG (k := 3) (k' := 4) rfl rfl ⟨_, _, _, rfl, rfl, rfl, rfl⟩ rfl (wo_run rfl rfl (run_move rfl rfl) ?_)
  refine wl_opG (k := 4) (k' := 5) rfl rfl ⟨_, _, _, rfl, rfl, rfl, rfl⟩ rfl (wo_cq rfl rfl rfl rfl rfl rfl rfl cf11 S2 (hasP_q s ([88, 45, 91] : List UInt8) S2.lend) ?_)
  rintro _ w3 S3 rfl; clear S2
  refine wl_opG (k := 5) (k' := 6) rfl rfl ⟨_, _, _, rfl, rfl, rfl, rfl⟩ rfl (wo_run rfl rfl (run_not rfl rfl) ?_)
  refine wlo 6 7 rfl rfl rfl (wo_run rfl rfl (run_pickT rfl rfl rfl) ?_)
  refine wlm 7 8 rfl rfl rfl rfl rfl rfl rfl ?_
  refine wl_split (t := 20) rfl (fun hg20 => ?_) (fun hg20 => ?_)
  ·simp only [Bool.and_eq_true, Bool.or_eq_true, Bool.and_eq_false_iff, Bool.or_eq_false_iff, decide_eq_true_eq, decide_eq_false_iff_not, Bool.not_eq_true', Bool.not_eq_false'] at hg20
   refine wl_no (k := 8) (k' := 9) (d := 21) rfl rfl ⟨_, _, _, rfl, rfl, rfl, rfl⟩ rfl rfl ?_
   refine wl_no (k := 9) (k' := 10) (d := 22) rfl rfl ⟨_, _, _, rfl, rfl, rfl, rfl⟩ rfl rfl ?_
   refine wl_no (k := 10) (k' := 11) (d := 23) rfl rfl ⟨_, _, _, rfl, rfl, rfl, rfl⟩ rfl rfl ?_
   refine wlo 11 12 rfl rfl rfl (wo_run rfl rfl (run_pickT rfl rfl rfl) ?_)
   refine wl_end rfl ?_
   refine nm_sub [(0, _), (2, _), (4, _), (24, _)] ⟨rfl, rfl, rfl, rfl, trivial⟩ ?_
   refine nm_thn ?_
   refine ws_condTN cross_n9 rfl rfl rfl ?_
   refine ws_seqN cross_n11 cross_n12 rfl rfl rfl ?_
   refine ws_region rfl ?_
   refine wlo 0 1 rfl rfl rfl (wo_run rfl rfl (run_build (l := [_, _, _, _, _]) rfl rfl st49 rfl rfl) ?_)
   refine wlo 1 2 rfl rfl rfl (wo_storeB (i := 0) (us := [_, _, _, _, _]) (l' := [_, _, _, _, _]) (H' := [_]) rfl rfl S3 rfl rfl rfl rfl sz49 rfl rfl rfl rfl ?_)
   intro w4 S4; clear S3
   refine wla 2 3 rfl rfl rfl rfl rfl rfl rfl ?_
   refine wl_end rfl ?_
   refine nm_sub [(2, _), (3, _)] ⟨rfl, rfl, trivial⟩ ?_
   refine nm_thn ?_
   refine ws_ret hC [_, _] rfl rfl ⟨⟨_, rfl, loadVarN (us := [_, _, _, _, _]) Tryd.underlying49 rfl sz49 (S4.boxcs (i := 0) rfl ⟨rfl, rfl, rfl, rfl, rfl, trivial⟩)⟩, rfl, trivial⟩ ?_
   refine ⟨_, rfl, _, Hp.le_refl _, (S4.pick [] [] (by decide) trivial), ?_⟩
   rw [show crossP s = none from by first | exact crP_1 (.inl ⟨by simpa using hg15, by simpa using hg20⟩) | exact crP_1 (.inr (by simpa using hb24)) | exact crP_2 (by omega) | exact crP_3 (i := i) (by omega) (by assumption)]
   rfl
  ·simp only [Bool.and_eq_true, Bool.or_eq_true, Bool.and_eq_false_iff, Bool.or_eq_false_iff, decide_eq_true_eq, decide_eq_false_iff_not, Bool.not_eq_true', Bool.not_eq_false'] at hg20
   refine wl_opG (k := 8) (k' := 9) rfl rfl ⟨_, _, _, rfl, rfl, rfl, rfl⟩ rfl (wo_run rfl rfl (run_move rfl rfl) ?_)
   refine wl_opG (k := 9) (k' := 10) rfl rfl ⟨_, _, _, rfl, rfl, rfl, rfl⟩ rfl (wo_cq rfl rfl rfl rfl rfl rfl rfl cf37 S3 (hasS_q s ([93] : List UInt8) (by omega) S3.lend) ?_)
   rintro _ w5 S5 rfl; clear S3
   refine wl_opG (k := 10) (k' := 11) rfl rfl ⟨_, _, _, rfl, rfl, rfl, rfl⟩ rfl (wo_run rfl rfl (run_not rfl rfl) ?_)
   refine wlo 11 12 rfl rfl rfl (wo_run rfl rfl (run_pickF rfl rfl rfl) ?_)
   refine wl_end rfl ?_
   refine nm_sub [(0, _), (2, _), (4, _), (24, _)] ⟨rfl, rfl, rfl, rfl, trivial⟩ ?_
   refine nm_thn ?_
   refine ws_condN cross_n9 cross_n10 rfl rfl rfl rfl (fun hb24 => ?_) (fun hb24 => ?_)
   ·simp only [Bool.and_eq_true, Bool.or_eq_true, Bool.and_eq_false_iff, Bool.or_eq_false_iff, decide_eq_true_eq, decide_eq_false_iff_not, Bool.not_eq_true', Bool.not_eq_false'] at hb24
    refine ws_seqN cross_n11 cross_n12 rfl rfl rfl ?_
    refine ws_region rfl ?_
    refine wlo 0 1 rfl rfl rfl (wo_run rfl rfl (run_build (l := [_, _, _, _, _]) rfl rfl st49 rfl rfl) ?_)
    refine wlo 1 2 rfl rfl rfl (wo_storeB (i := 0) (us := [_, _, _, _, _]) (l' := [_, _, _, _, _]) (H' := [_]) rfl rfl S5 rfl rfl rfl rfl sz49 rfl rfl rfl rfl ?_)
    intro w6 S6; clear S5
    refine wla 2 3 rfl rfl rfl rfl rfl rfl rfl ?_
    refine wl_end rfl ?_
    refine nm_sub [(2, _), (3, _)] ⟨rfl, rfl, trivial⟩ ?_
    refine nm_thn ?_
    refine ws_ret hC [_, _] rfl rfl ⟨⟨_, rfl, loadVarN (us := [_, _, _, _, _]) Tryd.underlying49 rfl sz49 (S6.boxcs (i := 0) rfl ⟨rfl, rfl, rfl, rfl, rfl, trivial⟩)⟩, rfl, trivial⟩ ?_
    refine ⟨_, rfl, _, Hp.le_refl _, (S6.pick [] [] (by decide) trivial), ?_⟩
    rw [show crossP s = none from by first | exact crP_1 (.inl ⟨by simpa using hg15, by simpa using hg20⟩) | exact crP_1 (.inr (by simpa using hb24)) | exact crP_2 (by omega) | exact crP_3 (i := i) (by omega) (by assumption)]
    rfl
   ·simp only [Bool.and_eq_true, Bool.or_eq_true, Bool.and_eq_false_iff, Bool.or_eq_false_iff, decide_eq_true_eq, decide_eq_false_iff_not, Bool.not_eq_true', Bool.not_eq_false'] at hb24
    refine ws_skip rfl ?_
    refine nm_sub [(0, _), (2, _), (4, _)] ⟨rfl, rfl, rfl, trivial⟩ ?_
    refine nm_thn ?_
    refine ws_seqN cross_n13 cross_n14 rfl rfl rfl ?_
    have h49 : 4 ≤ s.length := by first | exact four_of (b := 43) (by simpa using hg15) (by simpa using hb24) | exact four_of (b := 45) (by simpa using hg20) (by simpa using hb24)
    refine ws_region rfl ?_
    refine wlm 0 1 rfl rfl rfl rfl rfl rfl rfl ?_
    refine wlm 1 2 rfl rfl rfl rfl rfl rfl rfl ?_
    refine wlo 2 3 rfl rfl rfl (wo_run rfl rfl (run_lenS rfl rfl rfl rfl rfl rfl Tryd.underlying9) ?_)
    refine wlo 3 4 rfl rfl rfl (wo_run rfl rfl (run_sub rfl rfl rfl (by first | omega | (simp only [lens]; omega))) ?_)
    refine wlo 4 5 rfl rfl rfl (wo_run rfl rfl (run_cutS 3 (s.length - 1) rfl rfl rfl rfl Tryd.underlying9 (by omega) (by first | omega | (simp only [lens]; omega)) (by first | omega | (simp only [lens]; omega))) ?_)
    refine wlo 5 6 rfl rfl rfl (wo_ct rfl rfl rfl rfl rfl rfl rfl cf12 S5 (split_t (midW s) ([44] : List UInt8) (by have := midW_len s; omega) (by decide) (hlb.mono S5.un_XH) S5.lend) ?_)
    intro vw7 w7 M1 hle1 S7 hRw7; clear S5
    replace hlb := hlb.mono (Hp.un_mono hle1 S7.mx)
    rw [split_b] at hRw7
    obtain ⟨A1, c1, rfl, hr1⟩ := hRw7
    have hspl : (spc 44 (midW s)).length * 16 ≤ 140737488355328 := hr1.room
    refine wla 6 7 rfl rfl rfl rfl rfl rfl rfl ?_
    refine wl_end rfl ?_
    refine nm_sub [(2, _), (4, _), (5, _)] ⟨rfl, rfl, rfl, trivial⟩ ?_
    refine nm_thn ?_
    refine ws_seqN cross_n15 cross_n16 rfl rfl rfl ?_
    refine ws_seqN cross_n17 cross_n18 rfl rfl rfl ?_
    refine ws_region rfl ?_
    refine wlm 0 1 rfl rfl rfl rfl rfl rfl rfl ?_
    refine wlo 1 2 rfl rfl rfl (wo_run rfl rfl (run_len rfl rfl rfl rfl rfl rfl Tryd.underlying35) ?_)
    refine wlo 2 3 rfl rfl rfl (wo_run rfl rfl (run_neq rfl rfl rfl) ?_)
    refine wl_end rfl ?_
    refine nm_sub [(2, _), (4, _), (5, _), (34, _)] ⟨rfl, rfl, rfl, rfl, trivial⟩ ?_
    refine nm_thn ?_
    refine ws_condN cross_n19 cross_n20 rfl rfl rfl rfl (fun hb34 => ?_) (fun hb34 => ?_)
    ·replace hb34 := of_decide_eq_true hb34
     refine ws_seqN cross_n21 cross_n22 rfl rfl rfl ?_
     refine ws_region rfl ?_
     refine wlo 0 1 rfl rfl rfl (wo_run rfl rfl (run_build (l := [_, _, _, _, _]) rfl rfl st49 rfl rfl) ?_)
     refine wlo 1 2 rfl rfl rfl (wo_storeB (i := 0) (us := [_, _, _, _, _]) (l' := [_, _, _, _, _]) (H' := [_]) rfl rfl S7 rfl rfl rfl rfl sz49 rfl rfl rfl rfl ?_)
     intro w8 S8; clear S7
     refine wla 2 3 rfl rfl rfl rfl rfl rfl rfl ?_
     refine wl_end rfl ?_
     refine nm_sub [(2, _), (3, _)] ⟨rfl, rfl, trivial⟩ ?_
     refine nm_thn ?_
     refine ws_ret hC [_, _] rfl rfl ⟨⟨_, rfl, loadVarN (us := [_, _, _, _, _]) Tryd.underlying49 rfl sz49 (S8.boxcs (i := 0) rfl ⟨rfl, rfl, rfl, rfl, rfl, trivial⟩)⟩, rfl, trivial⟩ ?_
     refine ⟨_, rfl, _, hle1, (S8.pick [] [] (by decide) trivial), ?_⟩
     rw [show crossP s = none from by first | exact crP_1 (.inl ⟨by simpa using hg15, by simpa using hg20⟩) | exact crP_1 (.inr (by simpa using hb24)) | exact crP_2 (by omega) | exact crP_3 (i := i) (by omega) (by assumption)]
     rfl
    ·replace hb34 := of_decide_eq_false hb34
     refine ws_skip rfl ?_
     refine nm_sub [(2, _), (4, _), (5, _)] ⟨rfl, rfl, rfl, trivial⟩ ?_
     refine nm_thn ?_
     refine ws_seqN cross_n23 cross_n24 rfl rfl rfl ?_
     refine ws_region rfl ?_
     refine wlo 0 1 rfl rfl rfl (wo_alloc (l := [_, _, _, _]) rfl rfl rfl zr69 rfl S7 ?_)
     intro gb2 w9 S9; clear S7
     refine wl_end rfl ?_
     refine nm_thn ?_
     refine ws_seqN cross_n25 cross_n26 rfl rfl rfl ?_
     refine ws_seqN cross_n27 cross_n28 rfl rfl rfl ?_
     refine ws_region rfl ?_
     refine wlm 0 1 rfl rfl rfl rfl rfl rfl rfl ?_
     refine wlo 1 2 rfl rfl rfl (wo_run rfl rfl (run_len rfl rfl rfl rfl rfl rfl Tryd.underlying35) ?_)
     refine wlm 2 3 rfl rfl rfl rfl rfl rfl rfl ?_
     refine wl_end rfl ?_
     refine nm_sub [(2, _), (4, _), (6, _), (36, _), (37, _), (38, _)] ⟨rfl, rfl, rfl, rfl, rfl, rfl, trivial⟩ ?_
     refine nm_thn ?_
     refine ws_blockN cross_n29 0 rfl rfl rfl ?_
     refine ws_loopE (fun mx_ ax_ wx_ => ∃ (i : Nat) (h : Nat → Int), mx_ = 4 - i ∧ Env 65 [(2, .pointer (some ⟨gb1, 0, none⟩)), (4, .bool (([88, 43, 91] : List UInt8).isPrefixOf s)), (6, .pointer (some ⟨gb2, 0, none⟩)), (36, .slice A1 (spc 44 (midW s)).length c1), (37, .int .i64 ((spc 44 (midW s)).length : Int)), (38, .int .i64 (i : Int))] ax_ ∧ SH wx_ M1 X [Rs.box gb2 69 [.int .i64 (h 0), .int .i64 (h 1), .int .i64 (h 2), .int .i64 (h 3)], Rs.box gb1 49 [.int .i64 0, .int .i64 0, .int .i64 0, .int .i64 0, .bool false]] ∧ i ≤ 4 ∧ (∀ j, j < i → okN (ga (spc 44 (midW s)) j) ∧ h j = ((valD 0 (ga (spc 44 (midW s)) j) : Nat) : Int))) rfl ?_ ?_
     ·intro ax_ hax_
      refine ⟨_, ⟨0, (fun _ => 0), rfl, hax_.sub ⟨rfl, rfl, rfl, rfl, rfl, rfl, trivial⟩, S9.pick [0, 1] [_, _] (by decide) ⟨rfl, rfl, trivial⟩, ?hq1f0, ?hq1f1⟩⟩
      case hq1f0 => omega
      case hq1f1 => (intro i hi; omega)
     ·rintro m1 a1 w10 ⟨i, h, rfl, he1, S10, hi, hH⟩
      clear S9
      refine ws_in he1 (c := cross_n30) rfl ?_
      clear he1 a1
      refine ws_seqN cross_n31 cross_n32 rfl rfl rfl ?_
      refine ws_region rfl ?_
      refine wlo 0 1 rfl rfl rfl (wo_run rfl rfl (run_lss rfl rfl rfl) ?_)
      refine wl_end rfl ?_
      refine nm_thn ?_
      refine ws_seqN cross_n33 cross_n34 rfl rfl rfl ?_
      refine ws_condN cross_n35 cross_n36 rfl rfl rfl rfl (fun hb39 => ?_) (fun hb39 => ?_)
      ·replace hb39 := of_decide_eq_true hb39
       refine ws_skip rfl ?_
       refine nm_sub [(2, _), (4, _), (6, _), (36, _), (37, _), (38, _)] ⟨rfl, rfl, rfl, rfl, rfl, rfl, trivial⟩ ?_
       refine nm_thn ?_
       refine ws_seqN cross_n37 cross_n38 rfl rfl rfl ?_
       refine ws_blockN cross_n39 1 rfl rfl rfl ?_
       refine ws_seqN cross_n40 cross_n41 rfl rfl rfl ?_
       refine ws_region rfl ?_
       refine wlm 0 1 rfl rfl rfl rfl rfl rfl rfl ?_
       refine wlo 1 2 rfl rfl rfl (wo_run rfl rfl (run_indexM (C := cdStr) i rfl rfl rfl sl35 (by first | rfl | omega) hr1 (by first | omega | (simp only [lens]; omega))) ?_)
       refine wlo 2 3 rfl rfl rfl (wo_run rfl rfl (run_load1 rfl rfl Tryd.underlying9 rfl (hr1.cell S10.m (i := i) (by first | omega | (simp only [lens]; omega)) 0 rfl rfl)) ?_)
       refine wla 3 4 rfl rfl rfl rfl rfl rfl rfl ?_
       refine wla 4 5 rfl rfl rfl rfl rfl rfl rfl ?_
       refine wl_end rfl ?_
       refine nm_sub [(2, _), (4, _), (6, _), (36, _), (37, _), (38, _), (7, _), (8, _)] ⟨rfl, rfl, rfl, rfl, rfl, rfl, rfl, rfl, trivial⟩ ?_
       refine nm_thn ?_
       refine ws_seqN cross_n42 cross_n43 rfl rfl rfl ?_
       refine ws_region rfl ?_
       refine wlm 0 1 rfl rfl rfl rfl rfl rfl rfl ?_
       refine wlo 1 2 rfl rfl rfl (wo_cq rfl rfl rfl rfl rfl rfl rfl cf38 S10 (number_q (ga (spc 44 (midW s)) i) (by have := ga_spc_len (midW s) 44 i (by omega); have := midW_len s; omega) S10.lend) ?_)
       rintro _ w11 S11 rfl; clear S10
       refine wlm 2 3 rfl rfl rfl rfl rfl rfl rfl ?_
       refine wlo 3 4 rfl rfl rfl (wo_run rfl rfl (run_extract rfl rfl rfl) ?_)
       refine wlo 4 5 rfl rfl rfl (wo_run rfl rfl (run_extract rfl rfl rfl) ?_)
       refine wla 5 6 rfl rfl rfl rfl rfl rfl rfl ?_
       refine wla 6 7 rfl rfl rfl rfl rfl rfl rfl ?_
       refine wl_end rfl ?_
       refine nm_sub [(2, _), (4, _), (6, _), (36, _), (37, _), (38, _), (7, _), (9, _), (10, _)] ⟨rfl, rfl, rfl, rfl, rfl, rfl, rfl, rfl, rfl, trivial⟩ ?_
       refine nm_thn ?_
       refine ws_seqN cross_n44 cross_n45 rfl rfl rfl ?_
       refine ws_seqN cross_n46 cross_n47 rfl rfl rfl ?_
       refine ws_region rfl ?_
       refine wlm 0 1 rfl rfl rfl rfl rfl rfl rfl ?_
       refine wlo 1 2 rfl rfl rfl (wo_run rfl rfl (run_not rfl rfl) ?_)
       refine wl_end rfl ?_
       refine nm_sub [(2, _), (4, _), (6, _), (36, _), (37, _), (38, _), (7, _), (9, _), (49, _)] ⟨rfl, rfl, rfl, rfl, rfl, rfl, rfl, rfl, rfl, trivial⟩ ?_
       refine nm_thn ?_
       refine ws_condN cross_n48 cross_n49 rfl rfl rfl rfl (fun hb49 => ?_) (fun hb49 => ?_)
       ·simp only [Bool.and_eq_true, Bool.or_eq_true, Bool.and_eq_false_iff, Bool.or_eq_false_iff, decide_eq_true_eq, decide_eq_false_iff_not, Bool.not_eq_true', Bool.not_eq_false'] at hb49
        refine ws_seqN cross_n50 cross_n51 rfl rfl rfl ?_
        refine ws_region rfl ?_
        refine wlo 0 1 rfl rfl rfl (wo_run rfl rfl (run_build (l := [_, _, _, _, _]) rfl rfl st49 rfl rfl) ?_)
        refine wlo 1 2 rfl rfl rfl (wo_storeB (i := 1) (us := [_, _, _, _, _]) (l' := [_, _, _, _, _]) (H' := [_, _]) rfl rfl S11 rfl rfl rfl rfl sz49 rfl rfl rfl rfl ?_)
        intro w12 S12; clear S11
        refine wla 2 3 rfl rfl rfl rfl rfl rfl rfl ?_
        refine wl_end rfl ?_
        refine nm_sub [(2, _), (3, _)] ⟨rfl, rfl, trivial⟩ ?_
        refine nm_thn ?_
        refine ws_ret hC [_, _] rfl rfl ⟨⟨_, rfl, loadVarN (us := [_, _, _, _, _]) Tryd.underlying49 rfl sz49 (S12.boxcs (i := 1) rfl ⟨rfl, rfl, rfl, rfl, rfl, trivial⟩)⟩, rfl, trivial⟩ ?_
        refine ⟨_, rfl, _, hle1, (S12.pick [] [] (by decide) trivial), ?_⟩
        rw [show crossP s = none from by first | exact crP_1 (.inl ⟨by simpa using hg15, by simpa using hg20⟩) | exact crP_1 (.inr (by simpa using hb24)) | exact crP_2 (by omega) | exact crP_3 (i := i) (by omega) (by assumption)]
        rfl
       ·simp only [Bool.and_eq_true, Bool.or_eq_true, Bool.and_eq_false_iff, Bool.or_eq_false_iff, decide_eq_true_eq, decide_eq_false_iff_not, Bool.not_eq_true', Bool.not_eq_false'] at hb49
        refine ws_skip rfl ?_
        refine nm_sub [(2, _), (4, _), (6, _), (36, _), (37, _), (38, _), (7, _), (9, _)] ⟨rfl, rfl, rfl, rfl, rfl, rfl, rfl, rfl, trivial⟩ ?_
        refine nm_thn ?_
        refine ws_region rfl ?_
        refine wlm 0 1 rfl rfl rfl rfl rfl rfl rfl ?_
        refine wlm 1 2 rfl rfl rfl rfl rfl rfl rfl ?_
        refine wlo 2 3 rfl rfl rfl (wo_run rfl rfl (run_indexP (e := i) (k := 1) rfl rfl rfl Tryd.underlying69 sz3 (by first | rfl | omega) (by first | omega | (simp only [lens]; omega))) ?_)
        refine wlo 3 4 rfl rfl rfl (wo_storeB (i := 0) (us := [_]) (l' := [.int .i64 (upd h i (nuW (ga (spc 44 (midW s)) i)) 0), .int .i64 (upd h i (nuW (ga (spc 44 (midW s)) i)) 1), .int .i64 (upd h i (nuW (ga (spc 44 (midW s)) i)) 2), .int .i64 (upd h i (nuW (ga (spc 44 (midW s)) i)) 3)]) (H' := [_, _]) rfl rfl S11 rfl rfl rfl rfl sz3 (ble_fn4 (fun k => Value.int .i64 (h k)) _ (by first | omega | (simp only [lens]; omega))) rfl (spl_i4 h (nuW (ga (spc 44 (midW s)) i)) (by first | omega | (simp only [lens]; omega))) rfl ?_)
        intro w13 S13; clear S11
        refine wl_end rfl ?_
        refine nm_blk ?_
        refine nm_sub [(2, _), (4, _), (6, _), (36, _), (37, _), (38, _)] ⟨rfl, rfl, rfl, rfl, rfl, rfl, trivial⟩ ?_
        refine nm_thn ?_
        refine ws_region rfl ?_
        refine wlo 0 1 rfl rfl rfl (wo_run rfl rfl (run_add rfl rfl rfl (by first | omega | (simp only [lens]; omega))) ?_)
        refine wlm 1 2 rfl rfl rfl rfl rfl rfl rfl ?_
        refine wl_end rfl ?_
        refine nm_lp ?_
        intro ax_ hax_
        refine ⟨_, ?hq2m, ⟨i + 1, (upd h i (nuW (ga (spc 44 (midW s)) i))), rfl, hax_.sub ⟨rfl, rfl, rfl, rfl, rfl, rfl, trivial⟩, S13.pick [0, 1] [_, _] (by decide) ⟨rfl, rfl, trivial⟩, ?hq2f0, ?hq2f1⟩⟩
        case hq2f0 => omega
        case hq2f1 => (intro j hj; by_cases e : j = i; (subst e; exact ⟨by assumption, by unfold upd nuW; rw [if_pos rfl, if_pos (by assumption)]⟩); (unfold upd; rw [if_neg e]; exact hH j (by omega)))
        case hq2m => omega
      ·replace hb39 := of_decide_eq_false hb39
       refine ws_exit rfl rfl ?_
       refine nm_sub [(2, _), (4, _), (6, _)] ⟨rfl, rfl, rfl, trivial⟩ ?_
       refine nm_thn ?_
       refine ws_seqN cross_n52 cross_n53 rfl rfl rfl ?_
       refine ws_region rfl ?_
       refine wlo 0 1 rfl rfl rfl (wo_run rfl rfl (run_indexP (e := 0) (k := 1) rfl rfl rfl Tryd.underlying69 sz3 (by first | rfl | omega) (by first | omega | (simp only [lens]; omega))) ?_)
       refine wlo 1 2 rfl rfl rfl (wo_run rfl rfl (run_load1 rfl rfl Tryd.underlying3 rfl (S10.boxc (i := 0) rfl rfl)) ?_)
       refine wlo 2 3 rfl rfl rfl (wo_run rfl rfl (run_indexP (e := 1) (k := 1) rfl rfl rfl Tryd.underlying69 sz3 (by first | rfl | omega) (by first | omega | (simp only [lens]; omega))) ?_)
       refine wlo 3 4 rfl rfl rfl (wo_run rfl rfl (run_load1 rfl rfl Tryd.underlying3 rfl (S10.boxc (i := 0) rfl rfl)) ?_)
       refine wlo 4 5 rfl rfl rfl (wo_run rfl rfl (run_indexP (e := 2) (k := 1) rfl rfl rfl Tryd.underlying69 sz3 (by first | rfl | omega) (by first | omega | (simp only [lens]; omega))) ?_)
       refine wlo 5 6 rfl rfl rfl (wo_run rfl rfl (run_load1 rfl rfl Tryd.underlying3 rfl (S10.boxc (i := 0) rfl rfl)) ?_)
       refine wlo 6 7 rfl rfl rfl (wo_run rfl rfl (run_indexP (e := 3) (k := 1) rfl rfl rfl Tryd.underlying69 sz3 (by first | rfl | omega) (by first | omega | (simp only [lens]; omega))) ?_)
       refine wlo 7 8 rfl rfl rfl (wo_run rfl rfl (run_load1 rfl rfl Tryd.underlying3 rfl (S10.boxc (i := 0) rfl rfl)) ?_)
       refine wlm 8 9 rfl rfl rfl rfl rfl rfl rfl ?_
       refine wlo 9 10 rfl rfl rfl (wo_run rfl rfl (run_build (l := [_, _, _, _, _]) rfl rfl st49 rfl rfl) ?_)
       refine wlo 10 11 rfl rfl rfl (wo_storeB (i := 1) (us := [_, _, _, _, _]) (l' := [_, _, _, _, _]) (H' := [_, _]) rfl rfl S10 rfl rfl rfl rfl sz49 rfl rfl rfl rfl ?_)
       intro w14 S14; clear S10
       refine wla 11 12 rfl rfl rfl rfl rfl rfl rfl ?_
       refine wl_end rfl ?_
       refine nm_sub [(2, _), (3, _)] ⟨rfl, rfl, trivial⟩ ?_
       refine nm_thn ?_
       refine ws_ret hC [_, _] rfl rfl ⟨⟨_, rfl, loadVarN (us := [_, _, _, _, _]) Tryd.underlying49 rfl sz49 (S14.boxcs (i := 1) rfl ⟨rfl, rfl, rfl, rfl, rfl, trivial⟩)⟩, rfl, trivial⟩ ?_
       refine ⟨_, rfl, _, hle1, (S14.pick [] [] (by decide) trivial), ?_⟩
       have hi4 : i = 4 := by omega
       subst hi4
       rw [crP_4 (by first | exact .inl (by simpa using hg15) | exact .inr (by simpa using hg20)) (by simpa using hb24) (by omega) hH]
       first | exact rfl | (rw [hg15]; exact rfl)
 ·simp only [Bool.and_eq_true, Bool.or_eq_true, Bool.and_eq_false_iff, Bool.or_eq_false_iff, decide_eq_true_eq, decide_eq_false_iff_not, Bool.not_eq_true', Bool.not_eq_false'] at hg15
  refine wl_no (k := 3) (k' := 4) (d := 16) rfl rfl ⟨_, _, _, rfl, rfl, rfl, rfl⟩ rfl rfl ?_
  refine wl_no (k := 4) (k' := 5) (d := 17) rfl rfl ⟨_, _, _, rfl, rfl, rfl, rfl⟩ rfl rfl ?_
  refine wl_no (k := 5) (k' := 6) (d := 18) rfl rfl ⟨_, _, _, rfl, rfl, rfl, rfl⟩ rfl rfl ?_
  refine wlo 6 7 rfl rfl rfl (wo_run rfl rfl (run_pickF rfl rfl rfl) ?_)
  refine wlm 7 8 rfl rfl rfl rfl rfl rfl rfl ?_
  refine wl_opG (k := 8) (k' := 9) rfl rfl ⟨_, _, _, rfl, rfl, rfl, rfl⟩ rfl (wo_run rfl rfl (run_move rfl rfl) ?_)
  refine wl_opG (k := 9) (k' := 10) rfl rfl ⟨_, _, _, rfl, rfl, rfl, rfl⟩ rfl (wo_cq rfl rfl rfl rfl rfl rfl rfl cf37 S2 (hasS_q s ([93] : List UInt8) (by omega) S2.lend) ?_)
  rintro _ w15 S15 rfl; clear S2
  refine wl_opG (k := 10) (k' := 11) rfl rfl ⟨_, _, _, rfl, rfl, rfl, rfl⟩ rfl (wo_run rfl rfl (run_not rfl rfl) ?_)
  refine wlo 11 12 rfl rfl rfl (wo_run rfl rfl (run_pickF rfl rfl rfl) ?_)
  refine wl_end rfl ?_
  refine nm_sub [(0, _), (2, _), (4, _), (24, _)] ⟨rfl, rfl, rfl, rfl, trivial⟩ ?_
  refine nm_thn ?_
  refine ws_condN cross_n9 cross_n10 rfl rfl rfl rfl (fun hb24 => ?_) (fun hb24 => ?_)
  ·simp only [Bool.and_eq_true, Bool.or_eq_true, Bool.and_eq_false_iff, Bool.or_eq_false_iff, decide_eq_true_eq, decide_eq_false_iff_not, Bool.not_eq_true', Bool.not_eq_false'] at hb24
   refine ws_seqN cross_n11 cross_n12 rfl rfl rfl ?_
   refine ws_region rfl ?_
   refine wlo 0 1 rfl rfl rfl (wo_run rfl rfl (run_build (l := [_, _, _, _, _]) rfl rfl st49 rfl rfl) ?_)
   refine wlo 1 2 rfl rfl rfl (wo_storeB (i := 0) (us := [_, _, _, _, _]) (l' := [_, _, _, _, _]) (H' := [_]) rfl rfl S15 rfl rfl rfl rfl sz49 rfl rfl rfl rfl ?_)
   intro w16 S16; clear S15
   refine wla 2 3 rfl rfl rfl rfl rfl rfl rfl ?_
   refine wl_end rfl ?_
   refine nm_sub [(2, _), (3, _)] ⟨rfl, rfl, trivial⟩ ?_
   refine nm_thn ?_
   refine ws_ret hC [_, _] rfl rfl ⟨⟨_, rfl, loadVarN (us := [_, _, _, _, _]) Tryd.underlying49 rfl sz49 (S16.boxcs (i := 0) rfl ⟨rfl, rfl, rfl, rfl, rfl, trivial⟩)⟩, rfl, trivial⟩ ?_
   refine ⟨_, rfl, _, Hp.le_refl _, (S16.pick [] [] (by decide) trivial), ?_⟩
   rw [show crossP s = none from by first | exact crP_1 (.inl ⟨by simpa using hg15, by simpa using hg20⟩) | exact crP_1 (.inr (by simpa using hb24)) | exact crP_2 (by omega) | exact crP_3 (i := i) (by omega) (by assumption)]
   rfl
  ·simp only [Bool.and_eq_true, Bool.or_eq_true, Bool.and_eq_false_iff, Bool.or_eq_false_iff, decide_eq_true_eq, decide_eq_false_iff_not, Bool.not_eq_true', Bool.not_eq_false'] at hb24
   refine ws_skip rfl ?_
   refine nm_sub [(0, _), (2, _), (4, _)] ⟨rfl, rfl, rfl, trivial⟩ ?_
   refine nm_thn ?_
   refine ws_seqN cross_n13 cross_n14 rfl rfl rfl ?_
   have h49 : 4 ≤ s.length := by first | exact four_of (b := 43) (by simpa using hg15) (by simpa using hb24) | exact four_of (b := 45) (by simpa using hg20) (by simpa using hb24)
   refine ws_region rfl ?_
   refine wlm 0 1 rfl rfl rfl rfl rfl rfl rfl ?_
   refine wlm 1 2 rfl rfl rfl rfl rfl rfl rfl ?_
   refine wlo 2 3 rfl rfl rfl (wo_run rfl rfl (run_lenS rfl rfl rfl rfl rfl rfl Tryd.underlying9) ?_)
   refine wlo 3 4 rfl rfl rfl (wo_run rfl rfl (run_sub rfl rfl rfl (by first | omega | (simp only [lens]; omega))) ?_)
   refine wlo 4 5 rfl rfl rfl (wo_run rfl rfl (run_cutS 3 (s.length - 1) rfl rfl rfl rfl Tryd.underlying9 (by omega) (by first | omega | (simp only [lens]; omega)) (by first | omega | (simp only [lens]; omega))) ?_)
   refine wlo 5 6 rfl rfl rfl (wo_ct rfl rfl rfl rfl rfl rfl rfl cf12 S15 (split_t (midW s) ([44] : List UInt8) (by have := midW_len s; omega) (by decide) (hlb.mono S15.un_XH) S15.lend) ?_)
   intro vw17 w17 M2 hle3 S17 hRw17; clear S15
   replace hlb := hlb.mono (Hp.un_mono hle3 S17.mx)
   rw [split_b] at hRw17
   obtain ⟨A2, c2, rfl, hr2⟩ := hRw17
   have hspl : (spc 44 (midW s)).length * 16 ≤ 140737488355328 := hr2.room
   refine wla 6 7 rfl rfl rfl rfl rfl rfl rfl ?_
   refine wl_end rfl ?_
   refine nm_sub [(2, _), (4, _), (5, _)] ⟨rfl, rfl, rfl, trivial⟩ ?_
   refine nm_thn ?_
   refine ws_seqN cross_n15 cross_n16 rfl rfl rfl ?_
   refine ws_seqN cross_n17 cross_n18 rfl rfl rfl ?_
   refine ws_region rfl ?_
   refine wlm 0 1 rfl rfl rfl rfl rfl rfl rfl ?_
   refine wlo 1 2 rfl rfl rfl (wo_run rfl rfl (run_len rfl rfl rfl rfl rfl rfl Tryd.underlying35) ?_)
   refine wlo 2 3 rfl rfl rfl (wo_run rfl rfl (run_neq rfl rfl rfl) ?_)
   refine wl_end rfl ?_
   refine nm_sub [(2, _), (4, _), (5, _), (34, _)] ⟨rfl, rfl, rfl, rfl, trivial⟩ ?_
   refine nm_thn ?_
   refine ws_condN cross_n19 cross_n20 rfl rfl rfl rfl (fun hb34 => ?_) (fun hb34 => ?_)
   ·replace hb34 := of_decide_eq_true hb34
    refine ws_seqN cross_n21 cross_n22 rfl rfl rfl ?_
    refine ws_region rfl ?_
    refine wlo 0 1 rfl rfl rfl (wo_run rfl rfl (run_build (l := [_, _, _, _, _]) rfl rfl st49 rfl rfl) ?_)
    refine wlo 1 2 rfl rfl rfl (wo_storeB (i := 0) (us := [_, _, _, _, _]) (l' := [_, _, _, _, _]) (H' := [_]) rfl rfl S17 rfl rfl rfl rfl sz49 rfl rfl rfl rfl ?_)
    intro w18 S18; clear S17
    refine wla 2 3 rfl rfl rfl rfl rfl rfl rfl ?_
    refine wl_end rfl ?_
    refine nm_sub [(2, _), (3, _)] ⟨rfl, rfl, trivial⟩ ?_
    refine nm_thn ?_
    refine ws_ret hC [_, _] rfl rfl ⟨⟨_, rfl, loadVarN (us := [_, _, _, _, _]) Tryd.underlying49 rfl sz49 (S18.boxcs (i := 0) rfl ⟨rfl, rfl, rfl, rfl, rfl, trivial⟩)⟩, rfl, trivial⟩ ?_
    refine ⟨_, rfl, _, hle3, (S18.pick [] [] (by decide) trivial), ?_⟩
    rw [show crossP s = none from by first | exact crP_1 (.inl ⟨by simpa using hg15, by simpa using hg20⟩) | exact crP_1 (.inr (by simpa using hb24)) | exact crP_2 (by omega) | exact crP_3 (i := i) (by omega) (by assumption)]
    rfl
   ·replace hb34 := of_decide_eq_false hb34
    refine ws_skip rfl ?_
    refine nm_sub [(2, _), (4, _), (5, _)] ⟨rfl, rfl, rfl, trivial⟩ ?_
    refine nm_thn ?_
    refine ws_seqN cross_n23 cross_n24 rfl rfl rfl ?_
    refine ws_region rfl ?_
    refine wlo 0 1 rfl rfl rfl (wo_alloc (l := [_, _, _, _]) rfl rfl rfl zr69 rfl S17 ?_)
    intro gb3 w19 S19; clear S17
    refine wl_end rfl ?_
    refine nm_thn ?_
    refine ws_seqN cross_n25 cross_n26 rfl rfl rfl ?_
    refine ws_seqN cross_n27 cross_n28 rfl rfl rfl ?_
    refine ws_region rfl ?_
    refine wlm 0 1 rfl rfl rfl rfl rfl rfl rfl ?_
    refine wlo 1 2 rfl rfl rfl (wo_run rfl rfl (run_len rfl rfl rfl rfl rfl rfl Tryd.underlying35) ?_)
    refine wlm 2 3 rfl rfl rfl rfl rfl rfl rfl ?_
    refine wl_end rfl ?_
    refine nm_sub [(2, _), (4, _), (6, _), (36, _), (37, _), (38, _)] ⟨rfl, rfl, rfl, rfl, rfl, rfl, trivial⟩ ?_
    refine nm_thn ?_
    refine ws_blockN cross_n29 0 rfl rfl rfl ?_
    refine ws_loopE (fun mx_ ax_ wx_ => ∃ (i : Nat) (h : Nat → Int), mx_ = 4 - i ∧ Env 65 [(2, .pointer (some ⟨gb1, 0, none⟩)), (4, .bool (([88, 43, 91] : List UInt8).isPrefixOf s)), (6, .pointer (some ⟨gb3, 0, none⟩)), (36, .slice A2 (spc 44 (midW s)).length c2), (37, .int .i64 ((spc 44 (midW s)).length : Int)), (38, .int .i64 (i : Int))] ax_ ∧ SH wx_ M2 X [Rs.box gb3 69 [.int .i64 (h 0), .int .i64 (h 1), .int .i64 (h 2), .int .i64 (h 3)], Rs.box gb1 49 [.int .i64 0, .int .i64 0, .int .i64 0, .int .i64 0, .bool false]] ∧ i ≤ 4 ∧ (∀ j, j < i → okN (ga (spc 44 (midW s)) j) ∧ h j = ((valD 0 (ga (spc 44 (midW s)) j) : Nat) : Int))) rfl ?_ ?_
    ·intro ax_ hax_
     refine ⟨_, ⟨0, (fun _ => 0), rfl, hax_.sub ⟨rfl, rfl, rfl, rfl, rfl, rfl, trivial⟩, S19.pick [0, 1] [_, _] (by decide) ⟨rfl, rfl, trivial⟩, ?hq3f0, ?hq3f1⟩⟩
     case hq3f0 => omega
     case hq3f1 => (intro i hi; omega)
    ·rintro m2 a2 w20 ⟨i, h, rfl, he2, S20, hi, hH⟩
     clear S19
     refine ws_in he2 (c := cross_n30) rfl ?_
     clear he2 a2
     refine ws_seqN cross_n31 cross_n32 rfl rfl rfl ?_
     refine ws_region rfl ?_
     refine wlo 0 1 rfl rfl rfl (wo_run rfl rfl (run_lss rfl rfl rfl) ?_)
     refine wl_end rfl ?_
     refine nm_thn ?_
     refine ws_seqN cross_n33 cross_n34 rfl rfl rfl ?_
     refine ws_condN cross_n35 cross_n36 rfl rfl rfl rfl (fun hb39 => ?_) (fun hb39 => ?_)
     ·replace hb39 := of_decide_eq_true hb39
      refine ws_skip rfl ?_
      refine nm_sub [(2, _), (4, _), (6, _), (36, _), (37, _), (38, _)] ⟨rfl, rfl, rfl, rfl, rfl, rfl, trivial⟩ ?_
      refine nm_thn ?_
      refine ws_seqN cross_n37 cross_n38 rfl rfl rfl ?_
      refine ws_blockN cross_n39 1 rfl rfl rfl ?_
      refine ws_seqN cross_n40 cross_n41 rfl rfl rfl ?_
      refine ws_region rfl ?_
      refine wlm 0 1 rfl rfl rfl rfl rfl rfl rfl ?_
      refine wlo 1 2 rfl rfl rfl (wo_run rfl rfl (run_indexM (C := cdStr) i rfl rfl rfl sl35 (by first | rfl | omega) hr2 (by first | omega | (simp only [lens]; omega))) ?_)
      refine wlo 2 3 rfl rfl rfl (wo_run rfl rfl (run_load1 rfl rfl Tryd.underlying9 rfl (hr2.cell S20.m (i := i) (by first | omega | (simp only [lens]; omega)) 0 rfl rfl)) ?_)
      refine wla 3 4 rfl rfl rfl rfl rfl rfl rfl ?_
      refine wla 4 5 rfl rfl rfl rfl rfl rfl rfl ?_
      refine wl_end rfl ?_
      refine nm_sub [(2, _), (4, _), (6, _), (36, _), (37, _), (38, _), (7, _), (8, _)] ⟨rfl, rfl, rfl, rfl, rfl, rfl, rfl, rfl, trivial⟩ ?_
      refine nm_thn ?_
      refine ws_seqN cross_n42 cross_n43 rfl rfl rfl ?_
      refine ws_region rfl ?_
      refine wlm 0 1 rfl rfl rfl rfl rfl rfl rfl ?_
      refine wlo 1 2 rfl rfl rfl (wo_cq rfl rfl rfl rfl rfl rfl rfl cf38 S20 (number_q (ga (spc 44 (midW s)) i) (by have := ga_spc_len (midW s) 44 i (by omega); have := midW_len s; omega) S20.lend) ?_)
      rintro _ w21 S21 rfl; clear S20
      refine wlm 2 3 rfl rfl rfl rfl rfl rfl rfl ?_
      refine wlo 3 4 rfl rfl rfl (wo_run rfl rfl (run_extract rfl rfl rfl) ?_)
      refine wlo 4 5 rfl rfl rfl (wo_run rfl rfl (run_extract rfl rfl rfl) ?_)
      refine wla 5 6 rfl rfl rfl rfl rfl rfl rfl ?_
      refine wla 6 7 rfl rfl rfl rfl rfl rfl rfl ?_
      refine wl_end rfl ?_
      refine nm_sub [(2, _), (4, _), (6, _), (36, _), (37, _), (38, _), (7, _), (9, _), (10, _)] ⟨rfl, rfl, rfl, rfl, rfl, rfl, rfl, rfl, rfl, trivial⟩ ?_
      refine nm_thn ?_
      refine ws_seqN cross_n44 cross_n45 rfl rfl rfl ?_
      refine ws_seqN cross_n46 cross_n47 rfl rfl rfl ?_
      refine ws_region rfl ?_
      refine wlm 0 1 rfl rfl rfl rfl rfl rfl rfl ?_
      refine wlo 1 2 rfl rfl rfl (wo_run rfl rfl (run_not rfl rfl) ?_)
      refine wl_end rfl ?_
      refine nm_sub [(2, _), (4, _), (6, _), (36, _), (37, _), (38, _), (7, _), (9, _), (49, _)] ⟨rfl, rfl, rfl, rfl, rfl, rfl, rfl, rfl, rfl, trivial⟩ ?_
      refine nm_thn ?_
      refine ws_condN cross_n48 cross_n49 rfl rfl rfl rfl (fun hb49 => ?_) (fun hb49 => ?_)
      ·simp only [Bool.and_eq_true, Bool.or_eq_true, Bool.and_eq_false_iff, Bool.or_eq_false_iff, decide_eq_true_eq, decide_eq_false_iff_not, Bool.not_eq_true', Bool.not_eq_false'] at hb49
       refine ws_seqN cross_n50 cross_n51 rfl rfl rfl ?_
       refine ws_region rfl ?_
       refine wlo 0 1 rfl rfl rfl (wo_run rfl rfl (run_build (l := [_, _, _, _, _]) rfl rfl st49 rfl rfl) ?_)
       refine wlo 1 2 rfl rfl rfl (wo_storeB (i := 1) (us := [_, _, _, _, _]) (l' := [_, _, _, _, _]) (H' := [_, _]) rfl rfl S21 rfl rfl rfl rfl sz49 rfl rfl rfl rfl ?_)
       intro w22 S22; clear S21
       refine wla 2 3 rfl rfl rfl rfl rfl rfl rfl ?_
       refine wl_end rfl ?_
       refine nm_sub [(2, _), (3, _)] ⟨rfl, rfl, trivial⟩ ?_
       refine nm_thn ?_
       refine ws_ret hC [_, _] rfl rfl ⟨⟨_, rfl, loadVarN (us := [_, _, _, _, _]) Tryd.underlying49 rfl sz49 (S22.boxcs (i := 1) rfl ⟨rfl, rfl, rfl, rfl, rfl, trivial⟩)⟩, rfl, trivial⟩ ?_
       refine ⟨_, rfl, _, hle3, (S22.pick [] [] (by decide) trivial), ?_⟩
       rw [show crossP s = none from by first | exact crP_1 (.inl ⟨by simpa using hg15, by simpa using hg20⟩) | exact crP_1 (.inr (by simpa using hb24)) | exact crP_2 (by omega) | exact crP_3 (i := i) (by omega) (by assumption)]
       rfl
      ·simp only [Bool.and_eq_true, Bool.or_eq_true, Bool.and_eq_false_iff, Bool.or_eq_false_iff, decide_eq_true_eq, decide_eq_false_iff_not, Bool.not_eq_true', Bool.not_eq_false'] at hb49
       refine ws_skip rfl ?_
       refine nm_sub [(2, _), (4, _), (6, _), (36, _), (37, _), (38, _), (7, _), (9, _)] ⟨rfl, rfl, rfl, rfl, rfl, rfl, rfl, rfl, trivial⟩ ?_
       refine nm_thn ?_
       refine ws_region rfl ?_
       refine wlm 0 1 rfl rfl rfl rfl rfl rfl rfl ?_
       refine wlm 1 2 rfl rfl rfl rfl rfl rfl rfl ?_
       refine wlo 2 3 rfl rfl rfl (wo_run rfl rfl (run_indexP (e := i) (k := 1) rfl rfl rfl Tryd.underlying69 sz3 (by first | rfl | omega) (by first | omega | (simp only [lens]; omega))) ?_)
       refine wlo 3 4 rfl rfl rfl (wo_storeB (i := 0) (us := [_]) (l' := [.int .i64 (upd h i (nuW (ga (spc 44 (midW s)) i)) 0), .int .i64 (upd h i (nuW (ga (spc 44 (midW s)) i)) 1), .int .i64 (upd h i (nuW (ga (spc 44 (midW s)) i)) 2), .int .i64 (upd h i (nuW (ga (spc 44 (midW s)) i)) 3)]) (H' := [_, _]) rfl rfl S21 rfl rfl rfl rfl sz3 (ble_fn4 (fun k => Value.int .i64 (h k)) _ (by first | omega | (simp only [lens]; omega))) rfl (spl_i4 h (nuW (ga (spc 44 (midW s)) i)) (by first | omega | (simp only [lens]; omega))) rfl ?_)
       intro w23 S23; clear S21
       refine wl_end rfl ?_
       refine nm_blk ?_
       refine nm_sub [(2, _), (4, _), (6, _), (36, _), (37, _), (38, _)] ⟨rfl, rfl, rfl, rfl, rfl, rfl, trivial⟩ ?_
       refine nm_thn ?_
       refine ws_region rfl ?_
       refine wlo 0 1 rfl rfl rfl (wo_run rfl rfl (run_add rfl rfl rfl (by first | omega | (simp only [lens]; omega))) ?_)
       refine wlm 1 2 rfl rfl rfl rfl rfl rfl rfl ?_
       refine wl_end rfl ?_
       refine nm_lp ?_
       intro ax_ hax_
       refine ⟨_, ?hq4m, ⟨i + 1, (upd h i (nuW (ga (spc 44 (midW s)) i))), rfl, hax_.sub ⟨rfl, rfl, rfl, rfl, rfl, rfl, trivial⟩, S23.pick [0, 1] [_, _] (by decide) ⟨rfl, rfl, trivial⟩, ?hq4f0, ?hq4f1⟩⟩
       case hq4f0 => omega
       case hq4f1 => (intro j hj; by_cases e : j = i; (subst e; exact ⟨by assumption, by unfold upd nuW; rw [if_pos rfl, if_pos (by assumption)]⟩); (unfold upd; rw [if_neg e]; exact hH j (by omega)))
       case hq4m => omega
     ·replace hb39 := of_decide_eq_false hb39
      refine ws_exit rfl rfl ?_
      refine nm_sub [(2, _), (4, _), (6, _)] ⟨rfl, rfl, rfl, trivial⟩ ?_
      refine nm_thn ?_
      refine ws_seqN cross_n52 cross_n53 rfl rfl rfl ?_
      refine ws_region rfl ?_
      refine wlo 0 1 rfl rfl rfl (wo_run rfl rfl (run_indexP (e := 0) (k := 1) rfl rfl rfl Tryd.underlying69 sz3 (by first | rfl | omega) (by first | omega | (simp only [lens]; omega))) ?_)
      refine wlo 1 2 rfl rfl rfl (wo_run rfl rfl (run_load1 rfl rfl Tryd.underlying3 rfl (S20.boxc (i := 0) rfl rfl)) ?_)
      refine wlo 2 3 rfl rfl rfl (wo_run rfl rfl (run_indexP (e := 1) (k := 1) rfl rfl rfl Tryd.underlying69 sz3 (by first | rfl | omega) (by first | omega | (simp only [lens]; omega))) ?_)
      refine wlo 3 4 rfl rfl rfl (wo_run rfl rfl (run_load1 rfl rfl Tryd.underlying3 rfl (S20.boxc (i := 0) rfl rfl)) ?_)
      refine wlo 4 5 rfl rfl rfl (wo_run rfl rfl (run_indexP (e := 2) (k := 1) rfl rfl rfl Tryd.underlying69 sz3 (by first | rfl | omega) (by first | omega | (simp only [lens]; omega))) ?_)
      refine wlo 5 6 rfl rfl rfl (wo_run rfl rfl (run_load1 rfl rfl Tryd.underlying3 rfl (S20.boxc (i := 0) rfl rfl)) ?_)
      refine wlo 6 7 rfl rfl rfl (wo_run rfl rfl (run_indexP (e := 3) (k := 1) rfl rfl rfl Tryd.underlying69 sz3 (by first | rfl | omega) (by first | omega | (simp only [lens]; omega))) ?_)
      refine wlo 7 8 rfl rfl rfl (wo_run rfl rfl (run_load1 rfl rfl Tryd.underlying3 rfl (S20.boxc (i := 0) rfl rfl)) ?_)
      refine wlm 8 9 rfl rfl rfl rfl rfl rfl rfl ?_
      refine wlo 9 10 rfl rfl rfl (wo_run rfl rfl (run_build (l := [_, _, _, _, _]) rfl rfl st49 rfl rfl) ?_)
      refine wlo 10 11 rfl rfl rfl (wo_storeB (i := 1) (us := [_, _, _, _, _]) (l' := [_, _, _, _, _]) (H' := [_, _]) rfl rfl S20 rfl rfl rfl rfl sz49 rfl rfl rfl rfl ?_)
      intro w24 S24; clear S20
      refine wla 11 12 rfl rfl rfl rfl rfl rfl rfl ?_
      refine wl_end rfl ?_
      refine nm_sub [(2, _), (3, _)] ⟨rfl, rfl, trivial⟩ ?_
      refine nm_thn ?_
      refine ws_ret hC [_, _] rfl rfl ⟨⟨_, rfl, loadVarN (us := [_, _, _, _, _]) Tryd.underlying49 rfl sz49 (S24.boxcs (i := 1) rfl ⟨rfl, rfl, rfl, rfl, rfl, trivial⟩)⟩, rfl, trivial⟩ ?_
      refine ⟨_, rfl, _, hle3, (S24.pick [] [] (by decide) trivial), ?_⟩
      have hi4 : i = 4 := by omega
      subst hi4
      rw [crP_4 (by first | exact .inl (by simpa using hg15) | exact .inr (by simpa using hg20)) (by simpa using hb24) (by omega) hH]
      first | exact rfl | (rw [hg15]; exact rfl)
end Go.Proofs.YtklcecpjgingpaaDoor
namespace Go.Proofs.YtklcecpjgingpaaDoor
open Go.ChangeShapes Go.WideShapes Go.ChangeAt Go.RowKit
theorem sB_get (t : List UInt8) (k : Nat) : (sB t).get! k = ga t k := by
 show t.toArray[k]! = ga t k
 by_cases h : k < t.length
 ·rw [ga_eq h, getElem!_pos t.toArray k (by simpa using h)]; simp
 ·rw [getElem!_neg t.toArray k (by simpa using h)]
  unfold ga
  rw [List.getD_eq_getElem?_getD, List.getElem?_eq_none (by omega)]; rfl
theorem dn_facts (n b0 b1 b2 b3 : Nat) (hn : 1 ≤ n) (h0 : b0 < 256) (hb : 128 ≤ b0) : 128 ≤ (Lib.decodeN n b0 b1 b2 b3).1 ∧ (Lib.decodeN n b0 b1 b2 b3).1 ≤ 1114111 ∧ 1 ≤ (Lib.decodeN n b0 b1 b2 b3).2 ∧ (Lib.decodeN n b0 b1 b2 b3).2 ≤ n ∧ (2 ≤ (Lib.decodeN n b0 b1 b2 b3).2 → 128 ≤ b1) ∧ (3 ≤ (Lib.decodeN n b0 b1 b2 b3).2 → 128 ≤ b2) ∧ (4 ≤ (Lib.decodeN n b0 b1 b2 b3).2 → 128 ≤ b3) ∧ (Lib.decodeN n b0 b1 b2 b3).2 ≤ 4 := by
 unfold Lib.decodeN
 repeat' split
 all_goals (dsimp only; omega)
theorem dn_low {n b0 b1 b2 b3 : Nat} (hb : b0 < 128) : Lib.decodeN n b0 b1 b2 b3 = (b0, 1) := by unfold Lib.decodeN; rw [if_pos hb]
def dcR (s : List UInt8) (i : Nat) : Nat × Nat := Lib.decodeGo (sB (s.drop i))
theorem ga_dr (s : List UInt8) (i k : Nat) : ga (s.drop i) k = ga s (i + k) := by unfold ga; rw [List.getD_eq_getElem?_getD, List.getD_eq_getElem?_getD, List.getElem?_drop]
theorem dcR_eq {s : List UInt8} {i : Nat} (h : i < s.length) : dcR s i = Lib.decodeN (s.length - i) (ga s i).toNat (ga s (i + 1)).toNat (ga s (i + 2)).toNat (ga s (i + 3)).toNat := by
 unfold dcR Lib.decodeGo
 have hl : (s.drop i).length = s.length - i := List.length_drop ..
 rw [sB_size, if_neg (by omega), Lib.decode_at, sB_size, hl, sB_get, sB_get, sB_get, sB_get, ga_dr, ga_dr, ga_dr, ga_dr]
 rfl
def isR (r : Int) : Bool := decide (r = 9 ∨ r = 10 ∨ r = 13 ∨ r = 32)
theorem isBl_nat (c : UInt8) : isBl c = isR (c.toNat : Int) := by
 have e : ∀ k : UInt8, (c = k) = ((c.toNat : Int) = (k.toNat : Int)) := fun k => propext ⟨fun h => by rw [h], fun h => UInt8.toNat_inj.1 (by omega)⟩
 unfold isBl isR
 simp only [e]
 rw [Bool.eq_iff_iff]
 simp only [Bool.or_eq_true, decide_eq_true_iff]
 show _ ↔ (c.toNat : Int) = 9 ∨ _
 constructor
 ·rintro (((h | h) | h) | h)
  ·exact .inl h
  ·exact .inr (.inl h)
  ·exact .inr (.inr (.inl h))
  ·exact .inr (.inr (.inr h))
 ·rintro (h | h | h | h)
  ·exact .inl (.inl (.inl h))
  ·exact .inl (.inl (.inr h))
  ·exact .inl (.inr h)
  ·exact .inr h
theorem isBl_hi {c : UInt8} (h : 128 ≤ c.toNat) : isBl c = false := by
 rw [isBl_nat]; unfold isR; rw [decide_eq_false_iff_not]; omega
/-- What is decoded tells whether a blank stands there; a blank is one byte; no blank stands within what is not one. -/
theorem dcR_bd {s : List UInt8} {i : Nat} (h : i < s.length) : 1 ≤ (dcR s i).2 ∧ i + (dcR s i).2 ≤ s.length ∧ (dcR s i).1 ≤ 1114111 := by
 rw [dcR_eq h]
 by_cases hb : (ga s i).toNat < 128
 ·rw [dn_low hb]; exact ⟨Nat.le_refl _, by show i + 1 ≤ _; omega, by show (ga s i).toNat ≤ _; omega⟩
 ·obtain ⟨_, h2, h3, h4, _⟩ := dn_facts (s.length - i) (ga s i).toNat (ga s (i + 1)).toNat (ga s (i + 2)).toNat (ga s (i + 3)).toNat (by omega) (UInt8.toNat_lt _) (by omega)
  exact ⟨h3, by omega, h2⟩
theorem dcR_yes {s : List UInt8} {i : Nat} (h : i < s.length) (hr : isR ((dcR s i).1 : Int) = true) : isBl (ga s i) = true ∧ (dcR s i).2 = 1 := by
 rw [dcR_eq h] at hr ⊢
 by_cases hb : (ga s i).toNat < 128
 ·rw [dn_low hb] at hr ⊢; exact ⟨by rw [isBl_nat]; exact hr, rfl⟩
 ·have hf := (dn_facts (s.length - i) (ga s i).toNat (ga s (i + 1)).toNat (ga s (i + 2)).toNat (ga s (i + 3)).toNat (by omega) (UInt8.toNat_lt _) (by omega)).1
  unfold isR at hr
  rw [decide_eq_true_iff] at hr
  omega
theorem dcR_no {s : List UInt8} {i : Nat} (h : i < s.length) (hr : isR ((dcR s i).1 : Int) = false) : ∀ c ∈ (s.drop i).take (dcR s i).2, isBl c = false := by
 have hz := dcR_bd h
 rw [dcR_eq h] at hr hz ⊢
 intro c hc
 obtain ⟨j, hj, rfl⟩ := List.getElem_of_mem hc
 rw [List.length_take, List.length_drop] at hj
 have e : ((s.drop i).take (Lib.decodeN (s.length - i) (ga s i).toNat (ga s (i + 1)).toNat (ga s (i + 2)).toNat (ga s (i + 3)).toNat).2)[j]'(by rw [List.length_take, List.length_drop]; exact hj) = ga s (i + j) := by
  rw [List.getElem_take, List.getElem_drop]; exact (ga_eq _).symm
 rw [e]
 by_cases hb : (ga s i).toNat < 128
 ·rw [dn_low hb] at hr hj
  obtain rfl : j = 0 := by (have : j < 1 := Nat.lt_of_lt_of_le hj (Nat.min_le_left _ _)); omega
  rw [isBl_nat]; exact hr
 ·obtain ⟨_, _, h3, h4, h5, h6, h7, h8⟩ := dn_facts (s.length - i) (ga s i).toNat (ga s (i + 1)).toNat (ga s (i + 2)).toNat (ga s (i + 3)).toNat (by omega) (UInt8.toNat_lt _) (by omega)
  have hj2 := Nat.lt_of_lt_of_le hj (Nat.min_le_left _ _)
  have : j = 0 ∨ j = 1 ∨ j = 2 ∨ j = 3 := by omega
  rcases this with rfl | rfl | rfl | rfl
  ·exact isBl_hi (by rw [Nat.add_zero]; omega)
  ·exact isBl_hi (h5 hj2)
  ·exact isBl_hi (h6 hj2)
  ·exact isBl_hi (h7 hj2)
theorem drop_hd {α : Type} [Inhabited α] {l r : List α} {k : Nat} {x : α} (h : l.drop k = x :: r) : k < l.length ∧ ga l k = x ∧ l.drop (k + 1) = r := by
 have hk : k < l.length := by
  refine Nat.lt_of_not_le fun hk => ?_
  rw [List.drop_eq_nil_of_le hk] at h; cases h
 rw [List.drop_eq_getElem_cons hk] at h
 obtain ⟨h1, h2⟩ := List.cons.inj h
 exact ⟨hk, by rw [ga_eq hk]; exact h1, h2⟩
structure FldS (s : List UInt8) (k i : Nat) (st : Int) (cur : List UInt8) : Prop where
 ws : (fldA [] s).drop k = fldA cur (s.drop i)
 cu : (st = -1 ∧ cur = []) ∨ ∃ b : Nat, st = (b : Int) ∧ cur ≠ [] ∧ cur = (s.drop b).take (i - b) ∧ b < i
 le : i ≤ s.length
theorem FldS.zero (s : List UInt8) : FldS s 0 0 (-1) [] := ⟨rfl, .inl ⟨rfl, rfl⟩, Nat.zero_le _⟩
section
variable {s cur : List UInt8} {k i : Nat} {st : Int}
theorem FldS.bd (h : FldS s k i st cur) : -1 ≤ st ∧ st ≤ i := by
 rcases h.cu with ⟨e, _⟩ | ⟨b, e, _, _, hb⟩ <;> omega
theorem FldS.not (h : FldS s k i st cur) (hst : ¬ 0 ≤ st) : st = -1 ∧ cur = [] := by
 rcases h.cu with e | ⟨b, e, _⟩
 ·exact e
 ·omega
theorem FldS.yes (h : FldS s k i st cur) (hst : 0 ≤ st) : st.toNat < i ∧ cur ≠ [] ∧ cur = (s.drop st.toNat).take (i - st.toNat) := by
 rcases h.cu with ⟨e, _⟩ | ⟨b, e, h1, h2, h3⟩
 ·omega
 ·subst e; exact ⟨by omega, h1, h2⟩
/-- A blank, no word under way. -/
theorem FldS.blank0 (h : FldS s k i st cur) (hi : i < s.length) (hr : isR ((dcR s i).1 : Int) = true) (hst : ¬ 0 ≤ st) : FldS s k (i + (dcR s i).2) st cur := by
 obtain ⟨h1, h2⟩ := dcR_yes hi hr
 obtain ⟨e1, e2⟩ := h.not hst
 subst e2
 refine ⟨?_, .inl ⟨e1, rfl⟩, by omega⟩
 rw [h.ws, h2, drop_ga hi, fldA, if_pos h1, if_pos rfl]
/-- A blank behind a word. -/
theorem FldS.word (h : FldS s k i st cur) (hi : i < s.length) (hr : isR ((dcR s i).1 : Int) = true) (hst : 0 ≤ st) : k < (fldA [] s).length ∧ ga (fldA [] s) k = cur ∧ FldS s (k + 1) (i + (dcR s i).2) (-1) [] := by
 obtain ⟨h1, h2⟩ := dcR_yes hi hr
 obtain ⟨e1, e2, _⟩ := h.yes hst
 have hw : (fldA [] s).drop k = cur :: fldA [] (s.drop (i + 1)) := by rw [h.ws, drop_ga hi, fldA, if_pos h1, if_neg e2]
 obtain ⟨q1, q2, q3⟩ := drop_hd hw
 exact ⟨q1, q2, by rw [h2]; exact q3, .inl ⟨rfl, rfl⟩, by omega⟩
/-- No blank. -/
theorem FldS.go (h : FldS s k i st cur) (hi : i < s.length) (hr : isR ((dcR s i).1 : Int) = false) : FldS s k (i + (dcR s i).2) (if 0 ≤ st then st else (i : Int)) (cur ++ (s.drop i).take (dcR s i).2) := by
 obtain ⟨hz1, hz2, _⟩ := dcR_bd hi
 have hn := dcR_no hi hr
 refine ⟨?_, .inr ?_, hz2⟩
 ·rw [h.ws, ← fldA_run _ _ _ hn, ← List.drop_drop, List.take_append_drop]
 ·have hne : (s.drop i).take (dcR s i).2 ≠ [] := fun e => by
   have := congrArg List.length e
   rw [List.length_take, List.length_drop, List.length_nil] at this
   omega
  by_cases hst : 0 ≤ st
  ·obtain ⟨h1, h2, h3⟩ := h.yes hst
   refine ⟨st.toNat, by rw [if_pos hst]; omega, fun e => h2 (List.append_eq_nil_iff.1 e).1, ?_, by omega⟩
   rw [show i + (dcR s i).2 - st.toNat = (i - st.toNat) + (dcR s i).2 by omega, List.take_add, List.drop_drop, show st.toNat + (i - st.toNat) = i by omega, ← h3]
  ·obtain ⟨e1, e2⟩ := h.not hst
   refine ⟨i, by rw [if_neg hst], fun e => hne (List.append_eq_nil_iff.1 e).2, ?_, by omega⟩
   rw [e2, List.nil_append, show i + (dcR s i).2 - i = (dcR s i).2 by omega]
theorem FldS.end0 (h : FldS s k i st cur) (hi : ¬ i < s.length) (hst : ¬ 0 ≤ st) (hk : k ≤ (fldA [] s).length) : k = (fldA [] s).length := by
 obtain ⟨e1, e2⟩ := h.not hst
 have := h.ws
 rw [List.drop_eq_nil_of_le (by omega : s.length ≤ i), e2] at this
 have h3 := congrArg List.length this
 rw [List.length_drop] at h3
 have h4 : (fldA [] []).length = 0 := rfl
 omega
theorem FldS.end1 (h : FldS s k i st cur) (hi : ¬ i < s.length) (hst : 0 ≤ st) : k < (fldA [] s).length ∧ ga (fldA [] s) k = s.drop st.toNat ∧ k + 1 = (fldA [] s).length := by
 obtain ⟨e1, e2, e3⟩ := h.yes hst
 have hw : (fldA [] s).drop k = cur :: [] := by
  rw [h.ws, List.drop_eq_nil_of_le (by omega : s.length ≤ i)]
  show (if cur = [] then [] else [cur]) = _
  rw [if_neg e2]
 obtain ⟨q1, q2, q3⟩ := drop_hd hw
 have hl := congrArg List.length hw
 rw [List.length_drop] at hl
 refine ⟨q1, ?_, by simp only [List.length_cons, List.length_nil] at hl; omega⟩
 rw [q2, e3, List.take_of_length_le]
 rw [List.length_drop]; have := h.le; omega
end
end Go.Proofs.YtklcecpjgingpaaDoor
namespace Go.Proofs.YtklcecpjgingpaaDoor
open Go.ChangeShapes Go.WideShapes Go.ChangeAt Go.RowKit
namespace InF
section
variable {P : Program} {n : Nat} {C : Ctx} {c : Code} {s : List K} {L : List (Nat × Value)} {w : World} {M : Hp} {X : Fr} {H : List Rs}
/-- What is asked of the function that is ranged over: it yields enc 0, enc 1 .. and stops when a round says no. -/
def IterE (P : Program) (f : FuncId) (lb : List Value) (enc : Nat → Value) (N : Nat) (M : Hp) (X : Fr) : Prop :=
  ∀ (l : Nat) (J Jx : Nat → Hp → Rs → Prop) (w : World) (M1 : Hp) (B : Rs), M.le M1 →
    (∀ k M' B' w', k < N → M1.le M' → SH w' M' X [B'] → J k M' B' → YieldAt Fence.wide 0 P l #[enc k] w' fun e w'' => ∃ v, e = .returned v ∧ ∃ b : Bool, v = .bool b ∧ ∃ M'' B'', M'.le M'' ∧ SH w'' M'' X [B''] ∧ (b = true → J (k + 1) M'' B'') ∧ (b = false → Jx (k + 1) M'' B'')) →
    SH w M1 X [B] → J 0 M1 B → CallsIn Fence.wide 0 P f ((Value.func (.yield l) #[] #[]) :: lb).toArray w fun e w' => (∃ v, e = .returned v) ∧ ∃ M' B', M1.le M' ∧ SH w' M' X [B'] ∧ (J N M' B' ∨ ∃ k, k ≤ N ∧ Jx k M' B')
theorem ws_retQ (hk : kind c = 6) (h : ∀ a, Env n L a → C.Q .ret a w) : WS P n C c s L w := by
  have hpr : ∀ {s : List K} {a : Act} {w : World}, post P C [] .ret a w → post P C s .ret a w := by
    intro s
    induction s with
    | nil => exact fun h => h
    | cons x s ih => intro a w h; cases x <;> exact ih h
  intro a ha
  rw [kind_ret hk]
  exact wpIn_ret (hpr (h a ha))
theorem post_ret : ∀ {s : List K} {a : Act} {w : World}, C.Q .ret a w → post P C s .ret a w := by
  intro s
  induction s with
  | nil => exact fun h => h
  | cons x s ih => intro a w h; cases x <;> exact ih h
theorem ws_rangeFuncE {p : Nat} {g : Operand} {asg bd : Code} {f : FuncId} {lb : List Value} {enc : Nat → Value} {N : Nat} (hr : C.r = none) (hc : c = .rangeFunc g #[p] asg bd) (hp' : Nat.blt p n = true) (hg : oev L g = some (.func (.func f) #[] lb.toArray)) (hen : ∀ args w, (callFunc f args).run P w = .ok (.enter f args) w)
    (S : SH w M X H) (I : Nat → Hp → List Rs → Prop) (Ix : Nat → Hp → List Rs → Prop) (I1 : Nat → Act → Hp → List Rs → Prop) (h0 : I 0 M H) (hit : IterE P f lb enc N M X)
    (hassign : ∀ (k : Nat) (M' : Hp) (H' : List Rs) (w' : World) (C' : Ctx) (R0 : Rs), k < N → M.le M' → SH w' M' X (R0 :: H') → I k M' H' → WS P n C' asg [.lp (fun a w'' => ∃ M'' H'', M'.le M'' ∧ SH w'' M'' X (R0 :: H'') ∧ I1 k a M'' H'')] ((p, enc k) :: L) w')
    (hbody : ∀ (k : Nat) (M' : Hp) (H' : List Rs) (w' : World) (C' : Ctx) (R0 : Rs) (a : Act), k < N → M.le M' → SH w' M' X (R0 :: H') → I1 k a M' H' → (∀ a w'', (∃ M'' H'', M'.le M'' ∧ SH w'' M'' X (R0 :: H'') ∧ Ix (k + 1) M'' H'') → C'.Q .ret a w'') → bd.wpIn C'.F 0 P (post P C' [.lp (fun _ w'' => ∃ M'' H'', M'.le M'' ∧ SH w'' M'' X (R0 :: H'') ∧ I (k + 1) M'' H'')]) a w')
    (hdone : ∀ (a : Act) (M' : Hp) (H' : List Rs) (w' : World) (D l : Nat) (rc : Loop), Env n L a → M.le M' → SH w' M' X (Rs.lr l D rc :: H') → I N M' H' → post P C s .normal { a with defers := [{ target := .collected D, args := #[] }] } w')
    (hstop : ∀ (k : Nat) (a : Act) (M' : Hp) (H' : List Rs) (w' : World) (D l : Nat) (rc : Loop), k ≤ N → Env n L a → M.le M' → SH w' M' X (Rs.lr l D rc :: H') → Ix k M' H' → C.Q .ret { a with defers := [{ target := .collected D, args := #[] }] } w') : WS P n C c s L w := by
  have hF : C.F = Fence.wide := by unfold Ctx.F; rw [hr]
  intro a ha
  subst hc
  rw [hF]
  refine wpIn_rangeFunc ?_
  intro fn _
  rw [show Fence.wide.round = none from rfl]
  obtain ⟨rec, hrec⟩ : ∃ rec : LoopState → Option Code → Loop, rec = fun st pe => { state := st, pending := pe, fn, tmps := a.tmps, params := #[p], assign := asg, body := bd, defers := w.heap.size } := ⟨_, rfl⟩
  obtain ⟨W1, hW1⟩ : ∃ W1, (w.alloc (.deferred (some []))).alloc (.loop (rec .ready none)) = W1 := ⟨_, rfl⟩
  have hL1 : W1.heap[w.heap.size + 1]? = some (.loop (rec .ready none)) := by
    rw [← hW1]; have := World.alloc_heap_new (w.alloc (.deferred (some []))) (.loop (rec .ready none)); rwa [World.size_alloc] at this
  have hK1 : W1.heap[w.heap.size]? = some (.deferred (some [])) := by
    rw [← hW1]; exact (Below.heap_alloc _ _ _ (by simp)).trans (World.alloc_heap_new w _)
  have hkeep : ∀ b, b < w.heap.size → hp W1 b = hp w b := fun b hb => by
    rw [← hW1]
    exact (keep_alloc (w.alloc (.deferred (some []))) _ b (by rw [size_al]; omega)).trans (keep_alloc w _ b hb)
  have S1 : SH W1 M X (Rs.lr (w.heap.size + 1) w.heap.size (rec .ready none) :: H) := by
    have hl : Like w W1 := by rw [← hW1]; exact (like_alloc w _).trans (like_alloc _ _)
    refine S.cons hl hkeep ⟨hL1, hK1⟩ (fun b hb => ?_)
    have hsz : W1.heap.size = w.heap.size + 2 := by rw [← hW1, size_al, size_al]
    simp only [Rs.lr, List.mem_cons, List.not_mem_nil, or_false] at hb
    omega
  have hdf : a.defers = [] := ha.df
  refine ⟨w.heap.size + 1, [{ target := .collected w.heap.size, args := #[] }], W1, { target := .fn (.func f) lb.toArray, args := #[.func (.yield (w.heap.size + 1)) #[] #[]] }, W1, f,
    #[.func (.yield (w.heap.size + 1)) #[] #[]] ++ lb.toArray, W1, ?_, ?_, fun _ _ => trivial, ?_, fun h => (by cases h), ?_⟩
  · rw [← hW1, hrec]; exact run_enterLoop_outer _ _ _ _ _
  · simp only [resolve, ha.eval hg]
    simp [go_sem]
  · simp [invoke, go_sem, hen]
  · rw [show (#[.func (.yield (w.heap.size + 1)) #[] #[]] ++ lb.toArray : Array Value) = ((Value.func (.yield (w.heap.size + 1)) #[] #[]) :: lb).toArray from by simp]
    refine (hit (w.heap.size + 1) (fun k M' B => ∃ H', B = Rs.bun (Rs.lr (w.heap.size + 1) w.heap.size (rec .ready none) :: H') ∧ I k M' H') (fun k M' B => ∃ H', B = Rs.bun (Rs.lr (w.heap.size + 1) w.heap.size (rec .done (some .ret)) :: H') ∧ Ix k M' H') W1 M _ (Hp.le_refl _) ?_ S1.bun ⟨H, rfl, h0⟩).mono ?_
    · rintro k M' B' w' hk hle SB ⟨H', rfl, hI⟩
      have S' := SB.unbun
      obtain ⟨hl, hD⟩ := S'.ok (Rs.lr (w.heap.size + 1) w.heap.size (rec .ready none)) (by simp)
      have hy := run_yield (P := P) (args := #[enc k]) hl (by rw [hrec]; rfl)
      rw [hrec] at hy
      refine ⟨fn, _, asg, bd, hy, roundIn_of_wpIn trivial ?_⟩
      have hC' : ∀ Q, (Ctx.mk Q (some (w.heap.size + 1))).F = Fence.wide.inRound (w.heap.size + 1) := fun _ => rfl
      have e1 : ((#[p] : Array Tmp).zip #[enc k]).foldl (fun tmps (t, a) => tmps.setIfInBounds t a) a.tmps = a.tmps.setIfInBounds p (enc k) := by simp
      rw [← hC' (fun _ _ _ => False)]
      have hA := hassign k M' H' w' (Ctx.mk (fun _ _ _ => False) (some (w.heap.size + 1))) (Rs.lr (w.heap.size + 1) w.heap.size (rec .ready none)) hk hle S' hI _ (env_start ha (by simpa using hp'))
      rw [e1]
      refine wpIn_mono hA ?_
      rintro e a2 w2 hq
      cases e with
      | normal =>
        obtain ⟨M2, H2, hle2, S2, hI1⟩ := hq
        obtain ⟨hl2, _⟩ := S2.ok (Rs.lr (w.heap.size + 1) w.heap.size (rec .ready none)) (by simp)
        refine ⟨_, run_beginRound hl2 (by rw [hrec]), ?_⟩
        have S3 := lr_put (rc' := { rec .ready none with state := .busy }) S2
        obtain ⟨QX, hQX⟩ : ∃ QX : Exit → Act → World → Prop, QX = fun e _ w'' => e = .ret ∧ ∃ M'' H'', M2.le M'' ∧ SH w'' M'' X (Rs.lr (w.heap.size + 1) w.heap.size { rec .ready none with state := .busy } :: H'') ∧ Ix (k + 1) M'' H'' := ⟨_, rfl⟩
        rw [hC' (fun _ _ _ => False), ← hC' QX]
        refine wpIn_mono (hbody k M2 H2 _ (Ctx.mk QX (some (w.heap.size + 1))) _ a2 hk (hle.trans hle2) S3 hI1 (fun a w'' h => by show QX .ret a w''; rw [hQX]; exact ⟨rfl, h⟩)) ?_
        rintro e a3 w3 hq3
        cases e with
        | normal =>
          obtain ⟨M4, H4, hle4, S4, hI4⟩ := hq3
          obtain ⟨hl4, _⟩ := S4.ok (Rs.lr (w.heap.size + 1) w.heap.size { rec .ready none with state := .busy }) (by simp)
          have he := run_endRound (P := P) none hl4
          have S5 := lr_put (rc' := rec .ready none) S4
          refine ⟨_, _, he, _, rfl, true, rfl, M4, Rs.bun (Rs.lr (w.heap.size + 1) w.heap.size (rec .ready none) :: H4), hle2.trans hle4, ?_, fun _ => ⟨H4, rfl, hI4⟩, fun h => by cases h⟩
          have e2 : ({ ({ rec .ready none with state := .busy } : Loop) with state := (if (none : Option Code).isNone = true then LoopState.ready else LoopState.done), pending := none } : Loop) = rec .ready none := by rw [hrec]; rfl
          rw [e2]
          exact S5.bun
        | ret =>
          replace hq3 : QX .ret a3 w3 := hq3
          rw [hQX] at hq3
          obtain ⟨_, M4, H4, hle4, S4, hI4⟩ := hq3
          obtain ⟨hl4, _⟩ := S4.ok (Rs.lr (w.heap.size + 1) w.heap.size { rec .ready none with state := .busy }) (by simp)
          have he := run_endRound (P := P) (some .ret) hl4
          have S5 := lr_put (rc' := rec .done (some .ret)) S4
          refine ⟨_, _, he, _, rfl, false, rfl, M4, Rs.bun (Rs.lr (w.heap.size + 1) w.heap.size (rec .done (some .ret)) :: H4), hle2.trans hle4, ?_, fun h => (by cases h), fun _ => ⟨H4, rfl, hI4⟩⟩
          have e2 : ({ ({ rec .ready none with state := .busy } : Loop) with state := (if (some Code.ret : Option Code).isNone = true then LoopState.ready else LoopState.done), pending := some .ret } : Loop) = rec .done (some .ret) := by rw [hrec]; rfl
          rw [e2]
          exact S5.bun
        | exit id => replace hq3 : QX (.exit id) a3 w3 := hq3; rw [hQX] at hq3; cases hq3.1
        | goto t => replace hq3 : QX (.goto t) a3 w3 := hq3; rw [hQX] at hq3; cases hq3.1
        | panic ch => replace hq3 : QX (.panic ch) a3 w3 := hq3; rw [hQX] at hq3; cases hq3.1
        | outgrown => replace hq3 : QX .outgrown a3 w3 := hq3; rw [hQX] at hq3; cases hq3.1
      | _ => exact hq.elim
    · rintro e w2 ⟨⟨v, rfl⟩, M', B', hle, SB, hJ⟩
      rcases hJ with ⟨H', rfl, hI⟩ | ⟨k, hkN, H', rfl, hI⟩
      · have S' := SB.unbun
        obtain ⟨hl, hD⟩ := S'.ok (Rs.lr (w.heap.size + 1) w.heap.size (rec .ready none)) (by simp)
        have he := run_endLoop (P := P) hl (by rw [hrec]; simp)
        refine ⟨none, w2.putObj (w.heap.size + 1) (.loop { rec .ready none with state := .exhausted }), by rw [he, hrec], ?_⟩
        have := hdone a M' H' _ w.heap.size (w.heap.size + 1) _ ha hle (lr_put (rc' := { rec .ready none with state := .exhausted }) S') hI
        rw [hdf]
        exact this
      · have S' := SB.unbun
        obtain ⟨hl, hD⟩ := S'.ok (Rs.lr (w.heap.size + 1) w.heap.size (rec .done (some .ret))) (by simp)
        have he := run_endLoop (P := P) hl (by rw [hrec]; simp)
        refine ⟨some .ret, w2.putObj (w.heap.size + 1) (.loop { rec .done (some .ret) with state := .exhausted }), by rw [he, hrec], ?_⟩
        have := hstop k a M' H' _ w.heap.size (w.heap.size + 1) _ hkN ha hle (lr_put (rc' := { rec .done (some .ret) with state := .exhausted }) S') hI
        rw [hdf]
        exact wpIn_ret (post_ret this)
end
end InF
structure EnvD (D : List Deferred) (n : Nat) (L : List (Nat × Value)) (a : Act) : Prop where
  sz : a.tmps.size = n
  df : a.defers = D
  at_ : ∀ t v, lk L t = some v → a.tmps.getD t undef = v
section
variable {D : List Deferred} {n : Nat} {L L2 : List (Nat × Value)} {a : Act}
theorem EnvD.toEnv (h : EnvD D n L a) : Env n L { a with defers := [] } := ⟨h.sz, rfl, h.at_⟩
theorem EnvD.eval (h : EnvD D n L a) {x : Operand} {v : Value} (hx : oev L x = some v) : a.eval x = v := h.toEnv.eval hx
theorem EnvD.put (h : EnvD D n L a) {d : Nat} (hd : d < n) (v : Value) : EnvD D n ((d, v) :: L) (a.put (some d) v) := ⟨(h.toEnv.put hd v).sz, h.df, (h.toEnv.put hd v).at_⟩
theorem EnvD.sub (h : EnvD D n L a) (hs : Sub L L2) : EnvD D n L2 a := ⟨h.sz, h.df, fun t v hv => h.at_ t v (hs.lk t v hv)⟩
theorem Env.marked (h : Env n L a) (D : List Deferred) : EnvD D n L { a with defers := D } := ⟨h.sz, rfl, h.at_⟩
end
namespace InD
theorem oper_d (C : InF.Ctx) {P : Program} {o : Oper} {a : Act} {w : World} {next : Act → World → Prop} {Q : Exit → Act → World → Prop} (hnd : ∀ c, o.op ≠ .defer c) (h : o.wp P { a with defers := [] } w (fun a' w' => a'.defers = [] ∧ next { a' with defers := a.defers } w') (fun e a' w' => Q e { a' with defers := a.defers } w')) : o.wpIn C.F 0 P a w next Q := by
  obtain ⟨tm, df⟩ := a
  have hput : ∀ v, ({ Act.put { tmps := tm, defers := [] } o.dst v with defers := df } : Act) = Act.put { tmps := tm, defers := df } o.dst v := fun v => by cases o.dst <;> rfl
  refine ⟨fun f _ => C.F_fn f, ?_⟩
  rw [Oper.semAt_eq _ _ _ hnd]
  unfold Oper.wp at h
  replace h : o.upon P { tmps := tm, defers := [] } (fun a' w' => a'.defers = [] ∧ next { a' with defers := df } w') (fun e a' w' => Q e { a' with defers := df } w') ((execOp (Act.eval { tmps := tm, defers := df }) o).run P w) := h
  generalize (execOp (Act.eval { tmps := tm, defers := df }) o).run P w = r at h ⊢
  cases r with
  | ok nx w' =>
    cases nx with
    | value v =>
      replace h : next { Act.put { tmps := tm, defers := [] } o.dst v with defers := df } w' := h.2
      rw [hput] at h; exact h
    | skip =>
      replace h : next { Act.put { tmps := tm, defers := [] } o.dst undef with defers := df } w' := h.2
      rw [hput] at h; exact h
    | defer d =>
      have h1 : (Act.put { tmps := tm, defers := [d] } o.dst undef).defers = [] := h.1
      cases hd : o.dst <;> (rw [hd] at h1; cases h1)
    | enter f args =>
      refine ⟨C.F_isSome, InF.callsF C (Calls.mono h ?_)⟩
      rintro e w2 hh
      cases e with
      | returned v =>
        replace hh : next { Act.put { tmps := tm, defers := [] } o.dst v with defers := df } w2 := hh.2
        rw [hput] at hh; exact hh
      | panicked chain => exact hh
      | outgrown =>
        obtain ⟨a9, w9, hw⟩ := hh
        exact ⟨{ a9 with defers := df }, w9, hw⟩
    | row row args =>
      refine ⟨C.F_isSome, InF.rowsF C ?_⟩
      intro c cs
      obtain ⟨v, w2, hr, hs⟩ := h c cs
      replace hr : next { Act.put { tmps := tm, defers := [] } o.dst v with defers := df } w2 := hr.2
      rw [hput] at hr
      exact ⟨v, w2, hr, hs⟩
    | _ => exact h.elim
  | halt x w' =>
    cases x with
    | panic v => exact h
    | _ => exact h.elim
def WS (P : Program) (D : List Deferred) (n : Nat) (C : InF.Ctx) (c : Code) (s : List K) (L : List (Nat × Value)) (w : World) : Prop := ∀ a, EnvD D n L a → c.wpIn C.F 0 P (InF.post P C s) a w
def NM (P : Program) (D : List Deferred) (n : Nat) (C : InF.Ctx) (s : List K) (L : List (Nat × Value)) (w : World) : Prop := ∀ a, EnvD D n L a → InF.post P C s .normal a w
def WL (P : Program) (D : List Deferred) (n : Nat) (C : InF.Ctx) (c : Code) (k : Nat) (s : List K) (L : List (Nat × Value)) (w : World) : Prop := ∀ a, EnvD D n L a → wpListIn C.F 0 P (rg c) (InF.post P C s) ((rg c).toList.drop k) a w
section
variable {P : Program} {n : Nat} {C : InF.Ctx} {D : List Deferred} {c : Code} {s : List K} {L : List (Nat × Value)} {w : World}
theorem nm_sub (L2 : List (Nat × Value)) (hs : Sub L L2) (h : NM P D n C s L2 w) : NM P D n C s L w := fun a ha => h a (ha.sub hs)
theorem ws_seqN (a b : Code) (hk : kind c = 1) (ha : cL c = a) (hb : cR c = b) (h : WS P D n C a (.thn b :: s) L w) : WS P D n C c s L w := by
  subst ha; subst hb
  intro a ha
  rw [kind_seq hk]
  exact wpIn_seq (h a ha)
theorem ws_skip (hk : kind c = 9) (h : NM P D n C s L w) : WS P D n C c s L w := by
  intro a ha
  rw [kind_skip hk]
  exact wpIn_skip (h a ha)
theorem nm_thn (h : WS P D n C c s L w) : NM P D n C (.thn c :: s) L w := fun a ha => h a ha
theorem ws_condN (x y : Code) {b : Bool} (hk : kind c = 2) (hb : oev L (cX c) = some (.bool b)) (hx : cL c = x) (hy : cR c = y) (ht : b = true → WS P D n C x s L w) (hf : b = false → WS P D n C y s L w) : WS P D n C c s L w := by
  subst hx; subst hy
  intro a ha
  rw [kind_cond hk]
  exact wpIn_cond_split (ha.eval hb) (fun h => ht h a ha) (fun h => hf h a ha)
theorem ws_in {a : Act} {c' : Code} (ha : EnvD D n L a) (hc : c' = c) (h : WS P D n C c s L w) : c'.wpIn C.F 0 P (InF.post P C s) a w := by subst hc; exact h a ha
theorem ws_region (hk : kind c = 7) (h : WL P D n C c 0 s L w) : WS P D n C c s L w := by
  intro a ha
  rw [kind_region hk]
  exact wpIn_region_list (h a ha)
theorem wl_end {k : Nat} (hk : op c k = none) (h : NM P D n C s L w) : WL P D n C c k s L w := by
  intro a ha
  have : ((rg c).toList.drop k) = [] := by
    unfold op at hk
    rw [nth_eq] at hk
    exact List.drop_eq_nil_of_le (by simpa using hk)
  rw [this]
  exact wpListIn_nil (h a ha)
theorem wl_op {k k' : Nat} {o : Oper} (ho : op c k = some o) (hk : k' = k.succ) (hg : o.guard = none) (h : WO P n o L w (fun L' w' => WL P D n C c k' s L' w')) (hnd : InF.ndOp o = true := by rfl) : WL P D n C c k s L w := by
  intro a ha
  rw [drop_op ho]
  subst hk
  refine wpListIn_plain hg fun K hK => ?_
  exact oper_d C (InF.ndOp_spec hnd) (h _ ha.toEnv _ _ fun L' a' w' he hw => ⟨he.df, hK _ _ (hw _ ⟨he.sz, ha.df, he.at_⟩)⟩)
end
end InD
end Go.Proofs.YtklcecpjgingpaaDoor
namespace Go.Proofs.YtklcecpjgingpaaDoor
open Go.ChangeShapes Go.WideShapes Go.ChangeAt Go.RowKit
section
variable {P : Program} {o : Oper} {L : List (Nat × Value)} {w w' : World} {x y z : Operand} {t t' T E src dst : TypeId} {v u : Value} {n d : Nat} {a b : List UInt8}
theorem run_cutSI (k e : Nat) {lx hx' : Operand} {li ei : Int} (hop : o.op = .slice T x (some lx) (some hx') none) (hx : oev L x = some (.string (sB a))) (hl : oev L lx = some (.int .i64 li)) (hh : oev L hx' = some (.int .i64 ei)) (hu : P.underlying T = some .string) (hli : li = (k : Int)) (hei : ei = (e : Int)) (h : k ≤ e) (h2 : e ≤ a.length) : Run P o L w (.string (sB ((a.drop k).take (e - k)))) w := by
  subst hli
  exact run_cutS k e hop hx hl hh hu hei h h2
theorem run_dropSI (k : Nat) {lx : Operand} {li : Int} (hop : o.op = .slice T x (some lx) none none) (hx : oev L x = some (.string (sB a))) (hl : oev L lx = some (.int .i64 li)) (hu : P.underlying T = some .string) (hli : li = (k : Int)) (h : k ≤ a.length) : Run P o L w (.string (sB (a.drop k))) w := by
  subst hli
  exact run_dropS k hop hx hl hu h
theorem run_eqlR {p q : Int} (ho : o.op = .binOp .eql t x y t') (hx : oev L x = some (.int .i32 p)) (hy : oev L y = some (.int .i32 q)) : Run P o L w (.bool (decide (p = q))) w := run_binK ho hx hy fun w => by
  have h2 : (p == q) = decide (p = q) := by
    by_cases h : p = q
    · subst h; simp
    · simp only [beq_eq_false_iff_ne.2 h, decide_eq_false h]
  simp only [binOp, Op.intCmp, h2, ne_eq, not_true, if_false, Sem.run_pure]
end
end Go.Proofs.YtklcecpjgingpaaDoor
