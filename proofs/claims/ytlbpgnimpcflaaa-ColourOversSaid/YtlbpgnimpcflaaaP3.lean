/- Walks printed by eng.py. -/
import Derived.Test.YtlbpgnimpcflaaaP2
import Derived.Test.YtlbpgnimpcflaaaSrt
set_option linter.unusedSimpArgs false
set_option linter.unusedVariables false
namespace Go.Proofs.Ytlbpgnimpcflaaa
open Go.ChangeShapes Go.WideShapes Go.ChangeAt Go.RowKit
/-- The crossing that lies across the arc at a crossing's side; the search for a piece; the pieces. -/
def nbC (d : Dg) (x k : Nat) : Nat := (endOf d (arcAt d x k) (entryB d x k)).1
def addS (s : List Bool × List Int) (y : Nat) : List Bool × List Int := if ga s.1 y = true then s else (s.1.set y true, s.2 ++ [(y : Int)])
def bfsS (d : Dg) (x : Nat) (s : List Bool × List Int) : Nat → List Bool × List Int
  | 0 => s
  | k + 1 => addS (bfsS d x s k) (nbC d x k)
def bfsN (d : Dg) : Nat → Nat → List Bool × List Int → List Bool × List Int
  | 0, _, s => s
  | f + 1, i, s => if i < s.2.length then bfsN d f (i + 1) (bfsS d (ga s.2 i).toNat s 4) else s
def pcsN (d : Dg) : Nat → List Bool × List (List Int)
  | 0 => (List.replicate d.crs.length false, [])
  | c + 1 => if ga (pcsN d c).1 c = true then pcsN d c else ((bfsN d d.crs.length 0 ((pcsN d c).1.set c true, [(c : Int)])).1, (pcsN d c).2 ++ [srt (bfsN d d.crs.length 0 ((pcsN d c).1.set c true, [(c : Int)])).2])
def pcsL (d : Dg) : List (List Int) := (pcsN d d.crs.length).2
theorem bfsN_stop {d : Dg} {f i : Nat} {s : List Bool × List Int} (h : s.2.length ≤ i) : bfsN d f i s = s := by
  cases f with
  | zero => rfl
  | succ f => rw [bfsN, if_neg (by omega)]
theorem bfsN_go {d : Dg} {f i x : Nat} {s s' : List Bool × List Int} (h : i < s.2.length) (hx : ga s.2 i = (x : Int)) (hs : bfsS d x s 4 = s') : bfsN d (f + 1) i s = bfsN d f (i + 1) s' := by
  rw [bfsN, if_pos h, hx, Int.toNat_natCast, hs]
theorem pcsN_skip {d : Dg} {c : Nat} {s : List Bool × List (List Int)} (h : pcsN d c = s) (hg : ga s.1 c = true) : pcsN d (c + 1) = s := by
  rw [pcsN, h, if_pos hg]
theorem pcsN_add {d : Dg} {c : Nat} {s : List Bool × List (List Int)} {r : List Bool × List Int} (h : pcsN d c = s) (hg : ga s.1 c = false) (hr : bfsN d d.crs.length 0 (s.1.set c true, [(c : Int)]) = r) : pcsN d (c + 1) = (r.1, s.2 ++ [srt r.2]) := by
  rw [pcsN, h, if_neg (by rw [hg]; exact Bool.false_ne_true), hr]
theorem bfsN_len (d : Dg) (f i : Nat) (s : List Bool × List Int) : (bfsN d f i s).1.length = s.1.length := by
  have h1 : ∀ x s k, (bfsS d x s k).1.length = s.1.length := fun x s k => by
    induction k with
    | zero => rfl
    | succ k ih => rw [bfsS, addS]; split <;> simp [ih]
  induction f generalizing i s with
  | zero => rfl
  | succ f ih => rw [bfsN]; split <;> simp [ih, h1]
theorem pcsN_len (d : Dg) (c : Nat) : (pcsN d c).1.length = d.crs.length := by
  induction c with
  | zero => simp [pcsN]
  | succ c ih => rw [pcsN]; split <;> simp [ih, bfsN_len]
theorem pcsN_many (d : Dg) (c : Nat) : (pcsN d c).2.length ≤ c := by
  induction c with
  | zero => simp [pcsN]
  | succ c ih => rw [pcsN]; split; exact Nat.le_succ_of_le ih; rw [List.length_append]; show _ + 1 ≤ _; omega
theorem nbC_lt {d : Dg} (h : arcsB d = true) {x k : Nat} (hx : x < d.crs.length) (hk : k < 4) : nbC d x k < d.crs.length := (endD h (arcAt_bd h hx hk) _).1

noncomputable def Pieces_n0 : Code := Try.f75.body.getD .skip
noncomputable def Pieces_n1 : Code := cL Pieces_n0
noncomputable def Pieces_n2 : Code := cR Pieces_n0
noncomputable def Pieces_n3 : Code := cL Pieces_n2
noncomputable def Pieces_n4 : Code := cR Pieces_n2
noncomputable def Pieces_n5 : Code := cL Pieces_n4
noncomputable def Pieces_n6 : Code := cR Pieces_n4
noncomputable def Pieces_n7 : Code := cL Pieces_n6
noncomputable def Pieces_n8 : Code := cR Pieces_n6
noncomputable def Pieces_n9 : Code := cL Pieces_n7
noncomputable def Pieces_n10 : Code := cR Pieces_n7
noncomputable def Pieces_n11 : Code := cL Pieces_n10
noncomputable def Pieces_n12 : Code := cL Pieces_n11
noncomputable def Pieces_n13 : Code := cL Pieces_n12
noncomputable def Pieces_n14 : Code := cR Pieces_n12
noncomputable def Pieces_n15 : Code := cL Pieces_n14
noncomputable def Pieces_n16 : Code := cR Pieces_n14
noncomputable def Pieces_n17 : Code := cL Pieces_n15
noncomputable def Pieces_n18 : Code := cR Pieces_n15
noncomputable def Pieces_n19 : Code := cL Pieces_n16
noncomputable def Pieces_n20 : Code := cR Pieces_n16
noncomputable def Pieces_n21 : Code := cL Pieces_n19
noncomputable def Pieces_n22 : Code := cL Pieces_n21
noncomputable def Pieces_n23 : Code := cR Pieces_n21
noncomputable def Pieces_n24 : Code := cL Pieces_n23
noncomputable def Pieces_n25 : Code := cR Pieces_n23
noncomputable def Pieces_n26 : Code := cL Pieces_n24
noncomputable def Pieces_n27 : Code := cR Pieces_n24
noncomputable def Pieces_n28 : Code := cL Pieces_n27
noncomputable def Pieces_n29 : Code := cR Pieces_n27
noncomputable def Pieces_n30 : Code := cL Pieces_n25
noncomputable def Pieces_n31 : Code := cR Pieces_n25
noncomputable def Pieces_n32 : Code := cL Pieces_n31
noncomputable def Pieces_n33 : Code := cR Pieces_n31
noncomputable def Pieces_n34 : Code := cL Pieces_n33
noncomputable def Pieces_n35 : Code := cR Pieces_n33
noncomputable def Pieces_n36 : Code := cL Pieces_n34
noncomputable def Pieces_n37 : Code := cR Pieces_n34
noncomputable def Pieces_n38 : Code := cL Pieces_n37
noncomputable def Pieces_n39 : Code := cL Pieces_n38
noncomputable def Pieces_n40 : Code := cL Pieces_n39
noncomputable def Pieces_n41 : Code := cR Pieces_n39
noncomputable def Pieces_n42 : Code := cL Pieces_n40
noncomputable def Pieces_n43 : Code := cR Pieces_n40
noncomputable def Pieces_n44 : Code := cL Pieces_n43
noncomputable def Pieces_n45 : Code := cR Pieces_n43
noncomputable def Pieces_n46 : Code := cL Pieces_n41
noncomputable def Pieces_n47 : Code := cR Pieces_n41
noncomputable def Pieces_n48 : Code := cL Pieces_n46
noncomputable def Pieces_n49 : Code := cL Pieces_n48
noncomputable def Pieces_n50 : Code := cR Pieces_n48
noncomputable def Pieces_n51 : Code := cL Pieces_n50
noncomputable def Pieces_n52 : Code := cL Pieces_n51
noncomputable def Pieces_n53 : Code := cL Pieces_n52
noncomputable def Pieces_n54 : Code := cR Pieces_n52
noncomputable def Pieces_n55 : Code := cL Pieces_n54
noncomputable def Pieces_n56 : Code := cR Pieces_n54
noncomputable def Pieces_n57 : Code := cL Pieces_n55
noncomputable def Pieces_n58 : Code := cR Pieces_n55
noncomputable def Pieces_n59 : Code := cL Pieces_n56
noncomputable def Pieces_n60 : Code := cR Pieces_n56
noncomputable def Pieces_n61 : Code := cL Pieces_n59
noncomputable def Pieces_n62 : Code := cL Pieces_n61
noncomputable def Pieces_n63 : Code := cR Pieces_n61
noncomputable def Pieces_n64 : Code := cL Pieces_n63
noncomputable def Pieces_n65 : Code := cR Pieces_n63
noncomputable def Pieces_n66 : Code := cL Pieces_n65
noncomputable def Pieces_n67 : Code := cR Pieces_n65
noncomputable def Pieces_n68 : Code := cL Pieces_n67
noncomputable def Pieces_n69 : Code := cR Pieces_n67
noncomputable def Pieces_n70 : Code := cL Pieces_n68
noncomputable def Pieces_n71 : Code := cR Pieces_n68
noncomputable def Pieces_n72 : Code := cL Pieces_n35
noncomputable def Pieces_n73 : Code := cR Pieces_n35
noncomputable def Pieces_n74 : Code := cL Pieces_n8
noncomputable def Pieces_n75 : Code := cR Pieces_n8
set_option maxHeartbeats 1000000 in
set_option maxRecDepth 10000 in
theorem Pieces_t {w : World} {M : Hp} {X : Fr} (d : Dg) {gsh : Nat} {cA iA oA : Option Addr} {cc ic oc : Nat} (hsb : BxM (M.un X.h) gsh 81 [.slice cA d.crs.length cc, .int .i64 d.loops, .slice iA (tabL d false (4 * d.crs.length)).length ic, .slice oA (tabL d true (4 * d.crs.length)).length oc]) (hsc : RdA cdCr (M.un X.h) cA cc d.crs) (hsi : RdA cdPl (M.un X.h) iA ic (tabL d false (4 * d.crs.length))) (hso : RdA cdPl (M.un X.h) oA oc (tabL d true (4 * d.crs.length))) (hn : d.crs.length ≤ 16) (hab : arcsB d = true) (S : SH w M X []) : Ct Try.prog 75 [.pointer (some ⟨gsh, 0, none⟩)] w M X (fun u M => ∃ A c vs, u = .slice A vs.length c ∧ RdA (cdV 44) M A c vs ∧ Rd2 cdInt M vs (pcsL d)) := by
  unfold Ct
  refine calls_in (b := Pieces_n0) Try.func75 rfl Try.ntmps75 rfl (fun C hC => ?_)
  refine ws_sub [(0, _)] ⟨rfl, trivial⟩ ?_
  refine ws_seqN Pieces_n1 Pieces_n2 rfl rfl rfl ?_
  refine ws_region rfl ?_
  refine wl_op (k := 0) (k' := 1) rfl rfl rfl (wo_run rfl rfl (run_assign rfl rfl) ?_)
  refine wl_end rfl ?_
  refine nm_sub [(0, _)] ⟨rfl, trivial⟩ ?_
  refine nm_thn ?_
  refine ws_seqN Pieces_n3 Pieces_n4 rfl rfl rfl ?_
  refine ws_region rfl ?_
  refine wl_op (k := 0) (k' := 1) rfl rfl rfl (wo_run rfl rfl (run_move rfl rfl) ?_)
  refine wl_op (k := 1) (k' := 2) rfl rfl rfl (wo_run rfl rfl (run_nilCheck rfl rfl) ?_)
  refine wl_op (k := 2) (k' := 3) rfl rfl rfl (wo_run rfl rfl (run_fieldAddr rfl rfl Try.underlying81 rfl (ce27) (nf27)) ?_)
  refine wl_op (k := 3) (k' := 4) rfl rfl rfl (wo_run rfl rfl (run_fieldAddr rfl rfl Try.underlying27 rfl (ce25) (nf25)) ?_)
  refine wl_op (k := 4) (k' := 5) rfl rfl rfl (wo_run rfl rfl (run_load1 rfl rfl Try.underlying25 rfl (hsb.cell S.um rfl)) ?_)
  refine wl_op (k := 5) (k' := 6) rfl rfl rfl (wo_run rfl rfl (run_len rfl rfl rfl rfl rfl rfl Try.underlying25) ?_)
  refine wl_op (k := 6) (k' := 7) rfl rfl rfl (wo_make (C := cdBool) d.crs.length rfl rfl rfl rfl rfl sl23 (by first | rfl | omega) (by show _ * 1 ≤ _; first | omega | (simp only [List.length_set, List.length_append, List.length_replicate, List.length_singleton, List.length_cons, List.length_nil]; omega)) S ?_)
  intro vr1 w1 S1; clear S
  refine wl_op (k := 7) (k' := 8) rfl rfl rfl (wo_run rfl rfl (run_assign rfl rfl) ?_)
  refine wl_end rfl ?_
  refine nm_sub [(0, _), (3, _)] ⟨rfl, rfl, trivial⟩ ?_
  refine nm_thn ?_
  refine ws_seqN Pieces_n5 Pieces_n6 rfl rfl rfl ?_
  refine ws_region rfl ?_
  refine wl_op (k := 0) (k' := 1) rfl rfl rfl (wo_run rfl rfl (run_assign rfl rfl) ?_)
  refine wl_end rfl ?_
  refine nm_thn ?_
  refine ws_seqN Pieces_n7 Pieces_n8 rfl rfl rfl ?_
  refine ws_seqN Pieces_n9 Pieces_n10 rfl rfl rfl ?_
  refine ws_region rfl ?_
  refine wl_op (k := 0) (k' := 1) rfl rfl rfl (wo_run rfl rfl (run_move rfl rfl) ?_)
  refine wl_op (k := 1) (k' := 2) rfl rfl rfl (wo_run rfl rfl (run_nilCheck rfl rfl) ?_)
  refine wl_op (k := 2) (k' := 3) rfl rfl rfl (wo_run rfl rfl (run_fieldAddr rfl rfl Try.underlying81 rfl (ce27) (nf27)) ?_)
  refine wl_op (k := 3) (k' := 4) rfl rfl rfl (wo_run rfl rfl (run_fieldAddr rfl rfl Try.underlying27 rfl (ce25) (nf25)) ?_)
  refine wl_op (k := 4) (k' := 5) rfl rfl rfl (wo_run rfl rfl (run_load1 rfl rfl Try.underlying25 rfl (hsb.cell S1.um rfl)) ?_)
  refine wl_op (k := 5) (k' := 6) rfl rfl rfl (wo_run rfl rfl (run_len rfl rfl rfl rfl rfl rfl Try.underlying25) ?_)
  refine wl_op (k := 6) (k' := 7) rfl rfl rfl (wo_run rfl rfl (run_move rfl rfl) ?_)
  refine wl_end rfl ?_
  refine nm_sub [(0, _), (3, _), (4, _), (22, _), (23, _)] ⟨rfl, rfl, rfl, rfl, rfl, trivial⟩ ?_
  refine nm_thn ?_
  refine ws_blockN Pieces_n11 0 rfl rfl rfl ?_
  have S2 := S1.nilrow (cdV 44); clear S1
  refine ws_loopE (fun mx_ ax_ wx_ => ∃ (c : Nat) (seen : List Bool) (vs : List SlV) (pss : List (List Int)) (vrs : Value) (vro : Value) (M1 : Hp), M.le M1 ∧ mx_ = d.crs.length - c ∧ Env 74 [(0, .pointer (some ⟨gsh, 0, none⟩)), (3, vrs), (4, vro), (22, .int .i64 (d.crs.length : Int)), (23, .int .i64 (c : Int))] ax_ ∧ SH wx_ M1 X [Rs.row (cdV 44) vro vs, Rs.row cdBool vrs seen] ∧ c ≤ d.crs.length ∧ pcsN d c = (seen, pss) ∧ Rd2 cdInt M1 vs pss) rfl ?_ ?_
  · intro ax_ hax_
    refine ⟨_, ⟨0, _, _, [], _, _, _, Hp.le_refl _, rfl, hax_.sub ⟨rfl, rfl, rfl, rfl, rfl, trivial⟩, S2.pick [0, 1] [_, _] (by decide) ⟨rfl, rfl, trivial⟩, ?hq1f0, ?hq1f1, ?hq1f2⟩⟩
    case hq1f0 => omega
    case hq1f1 => rfl
    case hq1f2 => first | exact Rd2.nil_ | (rw [e9]; exact Rd2.nil_)
  · rintro m1 a1 w2 ⟨c, seen, vs, pss, vrs, vro, M1, hle1, rfl, he1, S3, hc, hpn, hdo⟩
    clear S2
    refine ws_in he1 (c := Pieces_n12) rfl ?_
    clear he1 a1
    replace hsb := hsb.mono (Hp.un_mono hle1 S3.mx)
    replace hsc := hsc.mono (Hp.un_mono hle1 S3.mx)
    replace hsi := hsi.mono (Hp.un_mono hle1 S3.mx)
    replace hso := hso.mono (Hp.un_mono hle1 S3.mx)
    have hvs := hdo.1
    have hmany := pcsN_many d c
    rw [hpn] at hmany
    replace hmany : pss.length ≤ c := hmany
    have hsl : seen.length = d.crs.length := by have h9 := pcsN_len d c; rw [hpn] at h9; exact h9
    refine ws_seqN Pieces_n13 Pieces_n14 rfl rfl rfl ?_
    refine ws_region rfl ?_
    refine wl_op (k := 0) (k' := 1) rfl rfl rfl (wo_run rfl rfl (run_lss rfl rfl rfl) ?_)
    refine wl_end rfl ?_
    refine nm_thn ?_
    refine ws_seqN Pieces_n15 Pieces_n16 rfl rfl rfl ?_
    refine ws_condN Pieces_n17 Pieces_n18 rfl rfl rfl rfl (fun hb24 => ?_) (fun hb24 => ?_)
    · have hb24 := of_decide_eq_true hb24
      refine ws_skip rfl ?_
      refine nm_sub [(0, _), (3, _), (4, _), (22, _), (23, _)] ⟨rfl, rfl, rfl, rfl, rfl, trivial⟩ ?_
      refine nm_thn ?_
      refine ws_seqN Pieces_n19 Pieces_n20 rfl rfl rfl ?_
      refine ws_blockN Pieces_n21 1 rfl rfl rfl ?_
      refine ws_seqN Pieces_n22 Pieces_n23 rfl rfl rfl ?_
      refine ws_region rfl ?_
      refine wl_op (k := 0) (k' := 1) rfl rfl rfl (wo_run rfl rfl (run_move rfl rfl) ?_)
      refine wl_op (k := 1) (k' := 2) rfl rfl rfl (wo_run rfl rfl (run_assign rfl rfl) ?_)
      refine wl_end rfl ?_
      refine nm_sub [(0, _), (3, _), (4, _), (22, _), (23, _), (5, _)] ⟨rfl, rfl, rfl, rfl, rfl, rfl, trivial⟩ ?_
      refine nm_thn ?_
      refine ws_seqN Pieces_n24 Pieces_n25 rfl rfl rfl ?_
      refine ws_seqN Pieces_n26 Pieces_n27 rfl rfl rfl ?_
      refine ws_region rfl ?_
      refine wl_op (k := 0) (k' := 1) rfl rfl rfl (wo_run rfl rfl (run_move rfl rfl) ?_)
      refine wl_op (k := 1) (k' := 2) rfl rfl rfl (wo_run rfl rfl (run_move rfl rfl) ?_)
      refine wl_op (k := 2) (k' := 3) rfl rfl rfl (wo_run rfl rfl (run_indexR (C := cdBool) (i := 1) c rfl rfl rfl sl23 S3 rfl (by first | rfl | omega) (by first | omega | (simp only [List.length_set, List.length_append, List.length_replicate, List.length_singleton, List.length_cons, List.length_nil]; omega))) ?_)
      refine wl_op (k := 3) (k' := 4) rfl rfl rfl (wo_run rfl rfl (run_load1 rfl rfl Try.underlying4 rfl (S3.rowc (i := 1) (e := c) (j := 0) rfl (by first | omega | (simp only [List.length_set, List.length_append, List.length_replicate, List.length_singleton, List.length_cons, List.length_nil]; omega)) rfl rfl)) ?_)
      refine wl_end rfl ?_
      refine nm_sub [(0, _), (3, _), (4, _), (22, _), (23, _), (5, _), (29, _)] ⟨rfl, rfl, rfl, rfl, rfl, rfl, rfl, trivial⟩ ?_
      refine nm_thn ?_
      refine ws_condN Pieces_n28 Pieces_n29 rfl rfl rfl rfl (fun hb29 => ?_) (fun hb29 => ?_)
      · refine ws_exit rfl rfl ?_
        refine nm_sub [(0, _), (3, _), (4, _), (22, _), (23, _)] ⟨rfl, rfl, rfl, rfl, rfl, trivial⟩ ?_
        refine nm_thn ?_
        refine ws_region rfl ?_
        refine wl_op (k := 0) (k' := 1) rfl rfl rfl (wo_run rfl rfl (run_add rfl rfl rfl (by first | omega | (simp only [List.length_set, List.length_append, List.length_replicate, List.length_singleton, List.length_cons, List.length_nil]; omega))) ?_)
        refine wl_op (k := 1) (k' := 2) rfl rfl rfl (wo_run rfl rfl (run_move rfl rfl) ?_)
        refine wl_end rfl ?_
        refine nm_lp ?_
        intro ax_ hax_
        refine ⟨_, ?hq2m, ⟨c + 1, _, _, pss, _, _, _, (hle1), rfl, hax_.sub ⟨rfl, rfl, rfl, rfl, rfl, trivial⟩, S3.pick [0, 1] [_, _] (by decide) ⟨rfl, rfl, trivial⟩, ?hq2f0, ?hq2f1, ?hq2f2⟩⟩
        case hq2f0 => omega
        case hq2f1 => first | exact pcsN_skip hpn hb29 | exact pcsN_add hpn (by simpa using hb29) (hbf.trans (bfsN_stop (by show l.length ≤ i; omega)))
        case hq2f2 => first | exact hdo | (rw [e9]; exact hdo)
        case hq2m => omega
      · refine ws_skip rfl ?_
        refine nm_sub [(0, _), (3, _), (4, _), (22, _), (23, _), (5, _)] ⟨rfl, rfl, rfl, rfl, rfl, rfl, trivial⟩ ?_
        refine nm_thn ?_
        refine ws_seqN Pieces_n30 Pieces_n31 rfl rfl rfl ?_
        refine ws_region rfl ?_
        refine wl_op (k := 0) (k' := 1) rfl rfl rfl (wo_run rfl rfl (run_move rfl rfl) ?_)
        refine wl_op (k := 1) (k' := 2) rfl rfl rfl (wo_run rfl rfl (run_move rfl rfl) ?_)
        refine wl_op (k := 2) (k' := 3) rfl rfl rfl (wo_run rfl rfl (run_indexR (C := cdBool) (i := 1) c rfl rfl rfl sl23 S3 rfl (by first | rfl | omega) (by first | omega | (simp only [List.length_set, List.length_append, List.length_replicate, List.length_singleton, List.length_cons, List.length_nil]; omega))) ?_)
        refine wl_op (k := 3) (k' := 4) rfl rfl rfl (wo_storeR (C := cdBool) (i := 1) (e := c) (j := 0) (us := [_]) (H' := [_, _]) true rfl rfl S3 rfl (by first | omega | (simp only [List.length_set, List.length_append, List.length_replicate, List.length_singleton, List.length_cons, List.length_nil]; omega)) rfl rfl rfl sz4 rfl rfl rfl rfl ?_)
        intro w3 S4; clear S3
        refine wl_end rfl ?_
        refine nm_sub [(0, _), (3, _), (4, _), (22, _), (23, _), (5, _)] ⟨rfl, rfl, rfl, rfl, rfl, rfl, trivial⟩ ?_
        refine nm_thn ?_
        refine ws_seqN Pieces_n32 Pieces_n33 rfl rfl rfl ?_
        refine ws_region rfl ?_
        refine wl_op (k := 0) (k' := 1) rfl rfl rfl (wo_run rfl rfl (run_move rfl rfl) ?_)
        refine wl_op (k := 1) (k' := 2) rfl rfl rfl (wo_buildSlice1 (C := cdInt) (l := [_]) rfl rfl rfl rfl sl44 rfl rfl rfl rfl S4 ?_)
        intro gb1 w4 S5; clear S4
        refine wl_op (k := 2) (k' := 3) rfl rfl rfl (wo_run rfl rfl (run_assign rfl rfl) ?_)
        refine wl_end rfl ?_
        refine nm_sub [(0, _), (3, _), (4, _), (22, _), (23, _), (6, _)] ⟨rfl, rfl, rfl, rfl, rfl, rfl, trivial⟩ ?_
        refine nm_thn ?_
        refine ws_seqN Pieces_n34 Pieces_n35 rfl rfl rfl ?_
        refine ws_seqN Pieces_n36 Pieces_n37 rfl rfl rfl ?_
        refine ws_region rfl ?_
        refine wl_op (k := 0) (k' := 1) rfl rfl rfl (wo_run rfl rfl (run_assign rfl rfl) ?_)
        refine wl_end rfl ?_
        refine nm_thn ?_
        refine ws_blockN Pieces_n38 2 rfl rfl rfl ?_
        have S6 := S5.boxrow (C := cdInt) [(c : Int)] (i := 0) (H' := [_, _, _]) rfl rfl (by simp) rfl; clear S5
        obtain ⟨vr3, er3⟩ : ∃ v, v = Value.slice (some ⟨gb1, 0, none⟩) ([(c : Int)]).length ([(c : Int)]).length := ⟨_, rfl⟩
        rw [← er3] at S6
        refine ws_eq 6 (vr3) rfl er3.symm ?_
        refine ws_loopE (fun mx_ ax_ wx_ => ∃ (i : Nat) (seen2 : List Bool) (l : List Int) (vrs2 : Value) (vrl : Value), mx_ = d.crs.length - i ∧ Env 74 [(0, .pointer (some ⟨gsh, 0, none⟩)), (3, vrs2), (4, vro), (22, .int .i64 (d.crs.length : Int)), (23, .int .i64 (c : Int)), (6, vrl), (7, .int .i64 (i : Int))] ax_ ∧ SH wx_ M1 X [Rs.row cdInt vrl l, Rs.row (cdV 44) vro vs, Rs.row cdBool vrs2 seen2] ∧ bfsN d d.crs.length 0 (seen.set c true, [(c : Int)]) = bfsN d (d.crs.length - i) i (seen2, l) ∧ i ≤ l.length ∧ l.length + free seen2 ≤ d.crs.length ∧ (∀ y, y ∈ l → 0 ≤ y ∧ y < (d.crs.length : Int)) ∧ seen2.length = d.crs.length) rfl ?_ ?_
        · intro ax_ hax_
          refine ⟨_, ⟨0, _, _, _, _, rfl, hax_.sub ⟨rfl, rfl, rfl, rfl, rfl, rfl, rfl, trivial⟩, S6.pick [0, 1, 2] [_, _, _] (by decide) ⟨rfl, rfl, rfl, trivial⟩, ?hq3f0, ?hq3f1, ?hq3f2, ?hq3f3, ?hq3f4⟩⟩
          case hq3f0 => rfl
          case hq3f1 => (exact Nat.zero_le _)
          case hq3f2 => (have h8 := free_set (seen := seen) (x := c) (by omega) (by simpa using hb29); have h9 : free seen ≤ seen.length := List.countP_le_length; show 1 + _ ≤ _; omega)
          case hq3f3 => (intro y hy; rw [List.mem_singleton] at hy; subst hy; omega)
          case hq3f4 => (rw [List.length_set]; exact hsl)
        · rintro m2 a2 w5 ⟨i, seen2, l, vrs2, vrl, rfl, he2, S7, hbf, hi, hfr, hin, hs2⟩
          clear S6
          refine ws_in he2 (c := Pieces_n39) rfl ?_
          clear he2 a2
          refine ws_seqN Pieces_n40 Pieces_n41 rfl rfl rfl ?_
          refine ws_seqN Pieces_n42 Pieces_n43 rfl rfl rfl ?_
          refine ws_region rfl ?_
          refine wl_op (k := 0) (k' := 1) rfl rfl rfl (wo_run rfl rfl (run_move rfl rfl) ?_)
          refine wl_op (k := 1) (k' := 2) rfl rfl rfl (wo_run rfl rfl (run_move rfl rfl) ?_)
          refine wl_op (k := 2) (k' := 3) rfl rfl rfl (wo_run rfl rfl (run_lenR (C := cdInt) (i := 0) rfl rfl rfl rfl rfl rfl sl44 S7 rfl) ?_)
          refine wl_op (k := 3) (k' := 4) rfl rfl rfl (wo_run rfl rfl (run_lss rfl rfl rfl) ?_)
          refine wl_end rfl ?_
          refine nm_sub [(0, _), (3, _), (4, _), (22, _), (23, _), (6, _), (7, _), (38, _)] ⟨rfl, rfl, rfl, rfl, rfl, rfl, rfl, rfl, trivial⟩ ?_
          refine nm_thn ?_
          refine ws_condN Pieces_n44 Pieces_n45 rfl rfl rfl rfl (fun hb38 => ?_) (fun hb38 => ?_)
          · have hb38 := of_decide_eq_true hb38
            have hil : i < l.length := by omega
            have hxm := hin (ga l i) (by rw [ga_eq hil]; exact List.getElem_mem hil)
            obtain ⟨x, hx⟩ : ∃ x : Nat, ga l i = (x : Int) := ⟨(ga l i).toNat, by omega⟩
            have hxn : x < d.crs.length := by omega
            refine ws_skip rfl ?_
            refine nm_sub [(0, _), (3, _), (4, _), (22, _), (23, _), (6, _), (7, _)] ⟨rfl, rfl, rfl, rfl, rfl, rfl, rfl, trivial⟩ ?_
            refine nm_thn ?_
            refine ws_seqN Pieces_n46 Pieces_n47 rfl rfl rfl ?_
            refine ws_blockN Pieces_n48 3 rfl rfl rfl ?_
            refine ws_seqN Pieces_n49 Pieces_n50 rfl rfl rfl ?_
            refine ws_region rfl ?_
            refine wl_op (k := 0) (k' := 1) rfl rfl rfl (wo_run rfl rfl (run_move rfl rfl) ?_)
            refine wl_end rfl ?_
            refine nm_thn ?_
            refine ws_blockN Pieces_n51 4 rfl rfl rfl ?_
            refine ws_loopE (fun mx_ ax_ wx_ => ∃ (k : Nat) (seen3 : List Bool) (l3 : List Int) (vrs3 : Value) (vrl3 : Value), mx_ = 4 - k ∧ Env 74 [(0, .pointer (some ⟨gsh, 0, none⟩)), (3, vrs3), (4, vro), (22, .int .i64 (d.crs.length : Int)), (23, .int .i64 (c : Int)), (6, vrl3), (7, .int .i64 (i : Int)), (41, .int .i64 (k : Int))] ax_ ∧ SH wx_ M1 X [Rs.row cdInt vrl3 l3, Rs.row (cdV 44) vro vs, Rs.row cdBool vrs3 seen3] ∧ k ≤ 4 ∧ bfsS d x (seen2, l) k = (seen3, l3) ∧ l3.length + free seen3 ≤ d.crs.length ∧ (∀ y, y ∈ l3 → 0 ≤ y ∧ y < (d.crs.length : Int)) ∧ seen3.length = d.crs.length ∧ i < l3.length ∧ ga l3 i = (x : Int)) rfl ?_ ?_
            · intro ax_ hax_
              refine ⟨_, ⟨0, _, _, _, _, rfl, hax_.sub ⟨rfl, rfl, rfl, rfl, rfl, rfl, rfl, rfl, trivial⟩, S7.pick [0, 1, 2] [_, _, _] (by decide) ⟨rfl, rfl, rfl, trivial⟩, ?hq4f0, ?hq4f1, ?hq4f2, ?hq4f3, ?hq4f4, ?hq4f5, ?hq4f6⟩⟩
              case hq4f0 => omega
              case hq4f1 => rfl
              case hq4f2 => exact hfr
              case hq4f3 => exact hin
              case hq4f4 => exact hs2
              case hq4f5 => omega
              case hq4f6 => exact hx
            · rintro m3 a3 w6 ⟨k, seen3, l3, vrs3, vrl3, rfl, he3, S8, hk, hbs, hfr3, hin3, hs3, hi3, hx3⟩
              clear S7
              refine ws_in he3 (c := Pieces_n52) rfl ?_
              clear he3 a3
              refine ws_seqN Pieces_n53 Pieces_n54 rfl rfl rfl ?_
              refine ws_region rfl ?_
              refine wl_op (k := 0) (k' := 1) rfl rfl rfl (wo_run rfl rfl (run_lss rfl rfl rfl) ?_)
              refine wl_end rfl ?_
              refine nm_thn ?_
              refine ws_seqN Pieces_n55 Pieces_n56 rfl rfl rfl ?_
              refine ws_condN Pieces_n57 Pieces_n58 rfl rfl rfl rfl (fun hb42 => ?_) (fun hb42 => ?_)
              · have hb42 := of_decide_eq_true hb42
                refine ws_skip rfl ?_
                refine nm_sub [(0, _), (3, _), (4, _), (22, _), (23, _), (6, _), (7, _), (41, _)] ⟨rfl, rfl, rfl, rfl, rfl, rfl, rfl, rfl, trivial⟩ ?_
                refine nm_thn ?_
                refine ws_seqN Pieces_n59 Pieces_n60 rfl rfl rfl ?_
                refine ws_blockN Pieces_n61 5 rfl rfl rfl ?_
                refine ws_seqN Pieces_n62 Pieces_n63 rfl rfl rfl ?_
                refine ws_region rfl ?_
                refine wl_op (k := 0) (k' := 1) rfl rfl rfl (wo_run rfl rfl (run_move rfl rfl) ?_)
                refine wl_op (k := 1) (k' := 2) rfl rfl rfl (wo_run rfl rfl (run_assign rfl rfl) ?_)
                refine wl_end rfl ?_
                refine nm_sub [(0, _), (3, _), (4, _), (22, _), (23, _), (6, _), (7, _), (41, _), (8, _)] ⟨rfl, rfl, rfl, rfl, rfl, rfl, rfl, rfl, rfl, trivial⟩ ?_
                refine nm_thn ?_
                refine ws_seqN Pieces_n64 Pieces_n65 rfl rfl rfl ?_
                refine ws_region rfl ?_
                refine wl_op (k := 0) (k' := 1) rfl rfl rfl (wo_run rfl rfl (run_move rfl rfl) ?_)
                refine wl_op (k := 1) (k' := 2) rfl rfl rfl (wo_run rfl rfl (run_move rfl rfl) ?_)
                refine wl_op (k := 2) (k' := 3) rfl rfl rfl (wo_run rfl rfl (run_move rfl rfl) ?_)
                refine wl_op (k := 3) (k' := 4) rfl rfl rfl (wo_run rfl rfl (run_indexR (C := cdInt) (i := 0) i rfl rfl rfl sl44 S8 rfl (by first | rfl | omega) (by first | omega | (simp only [List.length_set, List.length_append, List.length_replicate, List.length_singleton, List.length_cons, List.length_nil]; omega))) ?_)
                refine wl_op (k := 4) (k' := 5) rfl rfl rfl (wo_run rfl rfl (run_load1 rfl rfl Try.underlying3 rfl (S8.rowc (i := 0) (e := i) (j := 0) rfl (by first | omega | (simp only [List.length_set, List.length_append, List.length_replicate, List.length_singleton, List.length_cons, List.length_nil]; omega)) rfl rfl)) ?_)
                refine wl_eq 48 (.int .i64 (x : Int)) rfl (int_eq hx3) ?_
                have hnb := nbC_lt hab (k := k) hxn (by omega)
                refine wl_op (k := 5) (k' := 6) rfl rfl rfl (wo_run rfl rfl (run_move rfl rfl) ?_)
                refine wl_op (k := 6) (k' := 7) rfl rfl rfl (wo_run rfl rfl (run_build (l := [_, _]) rfl rfl st84 rfl rfl) ?_)
                refine wl_op (k := 7) (k' := 8) rfl rfl rfl (wo_cq rfl rfl rfl rfl rfl rfl rfl cf89 S8 (Other_q d x k (hsb.mono S8.un_XH) (hsc.mono S8.un_XH) (hsi.mono S8.un_XH) (hso.mono S8.un_XH) (by first | assumption | omega) hab (by omega) (by omega) S8.lend) ?_)
                rintro _ w7 S9 rfl; clear S8
                refine wl_op (k := 8) (k' := 9) rfl rfl rfl (wo_run rfl rfl (run_field0 rfl rfl Try.underlying84 rfl Try.underlying3 rfl rfl) ?_)
                refine wl_op (k := 9) (k' := 10) rfl rfl rfl (wo_run rfl rfl (run_assign rfl rfl) ?_)
                refine wl_end rfl ?_
                refine nm_sub [(0, _), (3, _), (4, _), (22, _), (23, _), (6, _), (7, _), (41, _), (9, _)] ⟨rfl, rfl, rfl, rfl, rfl, rfl, rfl, rfl, rfl, trivial⟩ ?_
                refine nm_thn ?_
                refine ws_seqN Pieces_n66 Pieces_n67 rfl rfl rfl ?_
                refine ws_eq 9 (.int .i64 ((nbC d x k : Nat) : Int)) rfl (int_eq rfl) ?_
                refine ws_region rfl ?_
                refine wl_op (k := 0) (k' := 1) rfl rfl rfl (wo_run rfl rfl (run_move rfl rfl) ?_)
                refine wl_op (k := 1) (k' := 2) rfl rfl rfl (wo_run rfl rfl (run_move rfl rfl) ?_)
                refine wl_op (k := 2) (k' := 3) rfl rfl rfl (wo_run rfl rfl (run_indexR (C := cdBool) (i := 2) (nbC d x k) rfl rfl rfl sl23 S9 rfl (by first | rfl | omega) (by first | omega | (simp only [List.length_set, List.length_append, List.length_replicate, List.length_singleton, List.length_cons, List.length_nil]; omega))) ?_)
                refine wl_op (k := 3) (k' := 4) rfl rfl rfl (wo_run rfl rfl (run_load1 rfl rfl Try.underlying4 rfl (S9.rowc (i := 2) (e := nbC d x k) (j := 0) rfl (by first | omega | (simp only [List.length_set, List.length_append, List.length_replicate, List.length_singleton, List.length_cons, List.length_nil]; omega)) rfl rfl)) ?_)
                refine wl_op (k := 4) (k' := 5) rfl rfl rfl (wo_run rfl rfl (run_not rfl rfl) ?_)
                refine wl_end rfl ?_
                refine nm_sub [(0, _), (3, _), (4, _), (22, _), (23, _), (6, _), (7, _), (41, _), (9, _), (57, _)] ⟨rfl, rfl, rfl, rfl, rfl, rfl, rfl, rfl, rfl, rfl, trivial⟩ ?_
                refine nm_thn ?_
                refine ws_condN Pieces_n68 Pieces_n69 rfl rfl rfl rfl (fun hb57 => ?_) (fun hb57 => ?_)
                · simp only [Bool.and_eq_true, Bool.or_eq_true, Bool.and_eq_false_iff, Bool.or_eq_false_iff, decide_eq_true_eq, decide_eq_false_iff_not, Bool.not_eq_true', Bool.not_eq_false'] at hb57
                  have hga : ga seen3 (nbC d x k) = false := by simpa using hb57
                  have hfs := free_set (seen := seen3) (x := nbC d x k) (by omega) hga
                  refine ws_seqN Pieces_n70 Pieces_n71 rfl rfl rfl ?_
                  refine ws_region rfl ?_
                  refine wl_op (k := 0) (k' := 1) rfl rfl rfl (wo_run rfl rfl (run_move rfl rfl) ?_)
                  refine wl_op (k := 1) (k' := 2) rfl rfl rfl (wo_run rfl rfl (run_move rfl rfl) ?_)
                  refine wl_op (k := 2) (k' := 3) rfl rfl rfl (wo_run rfl rfl (run_indexR (C := cdBool) (i := 2) (nbC d x k) rfl rfl rfl sl23 S9 rfl (by first | rfl | omega) (by first | omega | (simp only [List.length_set, List.length_append, List.length_replicate, List.length_singleton, List.length_cons, List.length_nil]; omega))) ?_)
                  refine wl_op (k := 3) (k' := 4) rfl rfl rfl (wo_storeR (C := cdBool) (i := 2) (e := nbC d x k) (j := 0) (us := [_]) (H' := [_, _, _]) true rfl rfl S9 rfl (by first | omega | (simp only [List.length_set, List.length_append, List.length_replicate, List.length_singleton, List.length_cons, List.length_nil]; omega)) rfl rfl rfl sz4 rfl rfl rfl rfl ?_)
                  intro w8 S10; clear S9
                  refine wl_end rfl ?_
                  refine nm_sub [(0, _), (3, _), (4, _), (22, _), (23, _), (6, _), (7, _), (41, _), (9, _)] ⟨rfl, rfl, rfl, rfl, rfl, rfl, rfl, rfl, rfl, trivial⟩ ?_
                  refine nm_thn ?_
                  refine ws_region rfl ?_
                  refine wl_op (k := 0) (k' := 1) rfl rfl rfl (wo_run rfl rfl (run_move rfl rfl) ?_)
                  refine wl_op (k := 1) (k' := 2) rfl rfl rfl (wo_run rfl rfl (run_move rfl rfl) ?_)
                  refine wl_op (k := 2) (k' := 3) rfl rfl rfl (wo_buildSlice1 (C := cdInt) (l := [_]) rfl rfl rfl rfl sl44 rfl rfl rfl rfl S10 ?_)
                  intro gb2 w9 S11; clear S10
                  refine wl_op (k := 3) (k' := 4) rfl rfl rfl (wo_append1 (C := cdInt) (i := 1) (q := 0) ((nbC d x k : Nat) : Int) rfl rfl rfl rfl rfl rfl rfl rfl sl44 S11 rfl rfl rfl (by show (_ + 1) * 8 ≤ _; first | omega | (simp only [List.length_set, List.length_append, List.length_replicate, List.length_singleton, List.length_cons, List.length_nil]; omega)) ?_)
                  intro vrl1 w10 S12; clear S11
                  have S13 := S12.pick [1, 2, 3] [_, _, _] (by decide) ⟨rfl, rfl, rfl, trivial⟩; clear S12
                  refine wl_op (k := 4) (k' := 5) rfl rfl rfl (wo_run rfl rfl (run_assign rfl rfl) ?_)
                  refine wl_end rfl ?_
                  refine nm_blk ?_
                  refine nm_sub [(0, _), (3, _), (4, _), (22, _), (23, _), (6, _), (7, _), (41, _)] ⟨rfl, rfl, rfl, rfl, rfl, rfl, rfl, rfl, trivial⟩ ?_
                  refine nm_thn ?_
                  refine ws_region rfl ?_
                  refine wl_op (k := 0) (k' := 1) rfl rfl rfl (wo_run rfl rfl (run_add rfl rfl rfl (by first | omega | (simp only [List.length_set, List.length_append, List.length_replicate, List.length_singleton, List.length_cons, List.length_nil]; omega))) ?_)
                  refine wl_op (k := 1) (k' := 2) rfl rfl rfl (wo_run rfl rfl (run_move rfl rfl) ?_)
                  refine wl_end rfl ?_
                  refine nm_lp ?_
                  intro ax_ hax_
                  refine ⟨_, ?hq5m, ⟨k + 1, _, _, _, _, rfl, hax_.sub ⟨rfl, rfl, rfl, rfl, rfl, rfl, rfl, rfl, trivial⟩, S13.pick [0, 1, 2] [_, _, _] (by decide) ⟨rfl, rfl, rfl, trivial⟩, ?hq5f0, ?hq5f1, ?hq5f2, ?hq5f3, ?hq5f4, ?hq5f5, ?hq5f6⟩⟩
                  case hq5f0 => omega
                  case hq5f1 => (show addS _ _ = _; rw [hbs, addS]; first | rw [if_pos (by assumption)] | rw [if_neg (by rw [hga]; exact Bool.false_ne_true)])
                  case hq5f2 => first | exact hfr3 | (rw [List.length_append]; show _ + 1 + _ ≤ _; omega)
                  case hq5f3 => first | exact hin3 | (intro y hy; rcases List.mem_append.1 hy with hy | hy; exact hin3 y hy; rw [List.mem_singleton] at hy; subst hy; omega)
                  case hq5f4 => first | exact hs3 | (rw [List.length_set]; exact hs3)
                  case hq5f5 => first | exact hi3 | (rw [List.length_append]; omega)
                  case hq5f6 => first | exact hx3 | (rw [ga_append_left _ _ _ (by omega)]; exact hx3)
                  case hq5m => omega
                · simp only [Bool.and_eq_true, Bool.or_eq_true, Bool.and_eq_false_iff, Bool.or_eq_false_iff, decide_eq_true_eq, decide_eq_false_iff_not, Bool.not_eq_true', Bool.not_eq_false'] at hb57
                  refine ws_skip rfl ?_
                  refine nm_blk ?_
                  refine nm_sub [(0, _), (3, _), (4, _), (22, _), (23, _), (6, _), (7, _), (41, _)] ⟨rfl, rfl, rfl, rfl, rfl, rfl, rfl, rfl, trivial⟩ ?_
                  refine nm_thn ?_
                  refine ws_region rfl ?_
                  refine wl_op (k := 0) (k' := 1) rfl rfl rfl (wo_run rfl rfl (run_add rfl rfl rfl (by first | omega | (simp only [List.length_set, List.length_append, List.length_replicate, List.length_singleton, List.length_cons, List.length_nil]; omega))) ?_)
                  refine wl_op (k := 1) (k' := 2) rfl rfl rfl (wo_run rfl rfl (run_move rfl rfl) ?_)
                  refine wl_end rfl ?_
                  refine nm_lp ?_
                  intro ax_ hax_
                  refine ⟨_, ?hq6m, ⟨k + 1, _, _, _, _, rfl, hax_.sub ⟨rfl, rfl, rfl, rfl, rfl, rfl, rfl, rfl, trivial⟩, S9.pick [0, 1, 2] [_, _, _] (by decide) ⟨rfl, rfl, rfl, trivial⟩, ?hq6f0, ?hq6f1, ?hq6f2, ?hq6f3, ?hq6f4, ?hq6f5, ?hq6f6⟩⟩
                  case hq6f0 => omega
                  case hq6f1 => (show addS _ _ = _; rw [hbs, addS]; first | rw [if_pos (by assumption)] | rw [if_neg (by rw [hga]; exact Bool.false_ne_true)])
                  case hq6f2 => first | exact hfr3 | (rw [List.length_append]; show _ + 1 + _ ≤ _; omega)
                  case hq6f3 => first | exact hin3 | (intro y hy; rcases List.mem_append.1 hy with hy | hy; exact hin3 y hy; rw [List.mem_singleton] at hy; subst hy; omega)
                  case hq6f4 => first | exact hs3 | (rw [List.length_set]; exact hs3)
                  case hq6f5 => first | exact hi3 | (rw [List.length_append]; omega)
                  case hq6f6 => first | exact hx3 | (rw [ga_append_left _ _ _ (by omega)]; exact hx3)
                  case hq6m => omega
              · have hb42 := of_decide_eq_false hb42
                refine ws_exit rfl rfl ?_
                refine nm_blk ?_
                refine nm_sub [(0, _), (3, _), (4, _), (22, _), (23, _), (6, _), (7, _)] ⟨rfl, rfl, rfl, rfl, rfl, rfl, rfl, trivial⟩ ?_
                refine nm_thn ?_
                refine ws_region rfl ?_
                refine wl_op (k := 0) (k' := 1) rfl rfl rfl (wo_run rfl rfl (run_move rfl rfl) ?_)
                refine wl_op (k := 1) (k' := 2) rfl rfl rfl (wo_run rfl rfl (run_add rfl rfl rfl (by first | omega | (simp only [List.length_set, List.length_append, List.length_replicate, List.length_singleton, List.length_cons, List.length_nil]; omega))) ?_)
                refine wl_op (k := 2) (k' := 3) rfl rfl rfl (wo_run rfl rfl (run_assign rfl rfl) ?_)
                refine wl_end rfl ?_
                refine nm_lp ?_
                intro ax_ hax_
                refine ⟨_, ?hq7m, ⟨i + 1, _, _, _, _, rfl, hax_.sub ⟨rfl, rfl, rfl, rfl, rfl, rfl, rfl, trivial⟩, S8.pick [0, 1, 2] [_, _, _] (by decide) ⟨rfl, rfl, rfl, trivial⟩, ?hq7f0, ?hq7f1, ?hq7f2, ?hq7f3, ?hq7f4⟩⟩
                case hq7f0 => (rw [hbf, show d.crs.length - i = (d.crs.length - (i + 1)) + 1 by omega]; exact bfsN_go (by show i < l.length; omega) hx (hbs ▸ (by rw [show k = 4 by omega])))
                case hq7f1 => omega
                case hq7f2 => omega
                case hq7f3 => exact hin3
                case hq7f4 => exact hs3
                case hq7m => omega
          · have hb38 := of_decide_eq_false hb38
            have hsr := srt_len l
            refine ws_exit rfl rfl ?_
            refine nm_sub [(0, _), (3, _), (4, _), (22, _), (23, _), (6, _)] ⟨rfl, rfl, rfl, rfl, rfl, rfl, trivial⟩ ?_
            refine nm_thn ?_
            refine ws_seqN Pieces_n72 Pieces_n73 rfl rfl rfl ?_
            refine ws_region rfl ?_
            refine wl_op (k := 0) (k' := 1) rfl rfl rfl (wo_run rfl rfl (run_move rfl rfl) ?_)
            refine wl_op (k := 1) (k' := 2) rfl rfl rfl (wo_c1 rfl rfl rfl rfl rfl rfl rfl cf90 S7 (i := 0) rfl (sort_w (by omega) (S7.lend1 (i := 0) rfl)) ?_)
            rintro vw11 w11 _ _ - S14 ⟨rfl, rfl, rfl⟩; clear S7
            change SH _ _ _ [_, _, _] at S14
            refine wl_end rfl ?_
            refine nm_sub [(0, _), (3, _), (4, _), (22, _), (23, _), (6, _)] ⟨rfl, rfl, rfl, rfl, rfl, rfl, trivial⟩ ?_
            refine nm_thn ?_
            refine ws_region rfl ?_
            refine wl_op (k := 0) (k' := 1) rfl rfl rfl (wo_run rfl rfl (run_move rfl rfl) ?_)
            refine wl_op (k := 1) (k' := 2) rfl rfl rfl (wo_run rfl rfl (run_move rfl rfl) ?_)
            obtain ⟨M2, hle4, S15, ⟨A1, c1, e1, hr1⟩⟩ := S14.pubrow (i := 0) (H' := [_, _, _]) rfl rfl (by show _ * 8 ≤ _; first | omega | (simp only [List.length_set, List.length_append, List.length_replicate, List.length_singleton, List.length_cons, List.length_nil]; omega))
            clear S14; subst e1
            replace hsb := hsb.mono (Hp.un_mono hle4 S15.mx)
            replace hsc := hsc.mono (Hp.un_mono hle4 S15.mx)
            replace hsi := hsi.mono (Hp.un_mono hle4 S15.mx)
            replace hso := hso.mono (Hp.un_mono hle4 S15.mx)
            replace hdo := hdo.mono hle4
            refine wl_op (k := 2) (k' := 3) rfl rfl rfl (wo_buildSlice1 (C := (cdV 44)) (l := [_]) rfl rfl rfl rfl sl37 rfl rfl rfl rfl S15 ?_)
            intro gb3 w12 S16; clear S15
            refine wl_op (k := 3) (k' := 4) rfl rfl rfl (wo_append1 (C := (cdV 44)) (i := 2) (q := 0) (⟨A1, (srt l).length, c1⟩ : SlV) rfl rfl rfl rfl rfl rfl rfl rfl sl37 S16 rfl rfl rfl (by show (_ + 1) * 24 ≤ _; first | omega | (simp only [List.length_set, List.length_append, List.length_replicate, List.length_singleton, List.length_cons, List.length_nil]; omega)) ?_)
            intro vro1 w13 S17; clear S16
            have S18 := S17.pick [1, 2, 3] [_, _, _] (by decide) ⟨rfl, rfl, rfl, trivial⟩; clear S17
            have hd1 := hdo.snoc (c := c1) hr1
            refine wl_op (k := 4) (k' := 5) rfl rfl rfl (wo_run rfl rfl (run_assign rfl rfl) ?_)
            refine wl_end rfl ?_
            refine nm_blk ?_
            refine nm_sub [(0, _), (3, _), (4, _), (22, _), (23, _)] ⟨rfl, rfl, rfl, rfl, rfl, trivial⟩ ?_
            refine nm_thn ?_
            refine ws_region rfl ?_
            refine wl_op (k := 0) (k' := 1) rfl rfl rfl (wo_run rfl rfl (run_add rfl rfl rfl (by first | omega | (simp only [List.length_set, List.length_append, List.length_replicate, List.length_singleton, List.length_cons, List.length_nil]; omega))) ?_)
            refine wl_op (k := 1) (k' := 2) rfl rfl rfl (wo_run rfl rfl (run_move rfl rfl) ?_)
            refine wl_end rfl ?_
            refine nm_lp ?_
            intro ax_ hax_
            refine ⟨_, ?hq8m, ⟨c + 1, _, _, (pss ++ [srt l]), _, _, _, (hle1.trans hle4), rfl, hax_.sub ⟨rfl, rfl, rfl, rfl, rfl, trivial⟩, S18.pick [1, 2] [_, _] (by decide) ⟨rfl, rfl, trivial⟩, ?hq8f0, ?hq8f1, ?hq8f2⟩⟩
            case hq8f0 => omega
            case hq8f1 => first | exact pcsN_skip hpn hb29 | exact pcsN_add hpn (by simpa using hb29) (hbf.trans (bfsN_stop (by show l.length ≤ i; omega)))
            case hq8f2 => first | exact hd1 | (rw [e9]; exact hd1)
            case hq8m => omega
    · have hb24 := of_decide_eq_false hb24
      refine ws_exit rfl rfl ?_
      refine nm_sub [(4, _)] ⟨rfl, trivial⟩ ?_
      refine nm_thn ?_
      refine ws_seqN Pieces_n74 Pieces_n75 rfl rfl rfl ?_
      refine ws_region rfl ?_
      refine wl_op (k := 0) (k' := 1) rfl rfl rfl (wo_run rfl rfl (run_move rfl rfl) ?_)
      refine wl_op (k := 1) (k' := 2) rfl rfl rfl (wo_run rfl rfl (run_assign rfl rfl) ?_)
      refine wl_end rfl ?_
      refine nm_sub [(2, _)] ⟨rfl, trivial⟩ ?_
      refine nm_thn ?_
      obtain ⟨M3, hle5, S19, ⟨A2, c2, e2, hr2⟩⟩ := S3.pubrow (i := 0) (H' := [_, _]) rfl rfl (by show _ * 24 ≤ _; first | omega | (simp only [List.length_set, List.length_append, List.length_replicate, List.length_singleton, List.length_cons, List.length_nil]; omega))
      clear S3; subst e2
      replace hsb := hsb.mono (Hp.un_mono hle5 S19.mx)
      replace hsc := hsc.mono (Hp.un_mono hle5 S19.mx)
      replace hsi := hsi.mono (Hp.un_mono hle5 S19.mx)
      replace hso := hso.mono (Hp.un_mono hle5 S19.mx)
      replace hdo := hdo.mono hle5
      refine ws_ret hC [_] rfl rfl ⟨rfl, trivial⟩ ?_
      refine ⟨_, rfl, _, hle1.trans hle5, (S19.pick [] [] (by decide) trivial), ?_⟩
      obtain rfl : c = d.crs.length := by omega
      have e2 : pcsL d = pss := by unfold pcsL; rw [hpn]
      rw [e2]
      exact ⟨_, _, _, rfl, hr2, hdo⟩

end Go.Proofs.Ytlbpgnimpcflaaa
