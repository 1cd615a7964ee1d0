/- Part 5 of the proof of the law BracketTells: the walks through its functions and the plain laws that they need. -/
import Derived.Test.YtlmcnpbkmihjkaaDoorBtZ4
import Derived.Test.YtlmcnpbkmihjkaaDoorProg
set_option linter.unusedSimpArgs false
set_option linter.unusedVariables false
namespace Go.Proofs.YtlmcnpbkmihjkaaDoor
open Go.ChangeShapes Go.WideShapes Go.ChangeAt Go.RowKit
/-- The labels of the pieces: one arc's step, a round, so many rounds. -/
def stepW (ws : List Int) (x y : Nat) : List Int := if ga ws x < ga ws y then ws.set y (ga ws x) else ws.set x (ga ws y)
def iniW (n : Nat) : Nat → List Int
 | 0 => List.replicate n 0
 | k + 1 => (iniW n k).set k (k : Int)
def endC (d : Dg) (k : Nat) (b : Bool) : Nat := (endOf d ((k + 1 : Nat) : Int) b).1
def roundW (d : Dg) (ws : List Int) : Nat → List Int
 | 0 => ws
 | k + 1 => stepW (roundW d ws k) (endC d k false) (endC d k true)
def rndsW (d : Dg) : Nat → List Int
 | 0 => iniW d.crs.length d.crs.length
 | j + 1 => roundW d (rndsW d j) (2 * d.crs.length)
def whoL (d : Dg) : List Int := rndsW d d.crs.length
theorem stepW_len (ws : List Int) (x y : Nat) : (stepW ws x y).length = ws.length := by
 unfold stepW
 split <;> rw [List.length_set]
theorem iniW_len (n k : Nat) : (iniW n k).length = n := by
 induction k with
 | zero => exact List.length_replicate
 | succ k ih => rw [iniW, List.length_set, ih]
theorem roundW_len (d : Dg) (ws : List Int) (k : Nat) : (roundW d ws k).length = ws.length := by
 induction k with
 | zero => rfl
 | succ k ih => rw [roundW, stepW_len, ih]
theorem rndsW_len (d : Dg) (j : Nat) : (rndsW d j).length = d.crs.length := by
 induction j with
 | zero => exact iniW_len _ _
 | succ j ih => rw [rndsW, roundW_len, ih]
theorem endC_lt {d : Dg} (h : arcsB d = true) {k : Nat} (hk : k < 2 * d.crs.length) (b : Bool) : endC d k b < d.crs.length := (endD h (a := ((k + 1 : Nat) : Int)) (by omega) b).1
noncomputable def PiecesOf_n0 : Code := Tryd.f47.body.getD .skip
noncomputable def PiecesOf_n1 : Code := cL PiecesOf_n0
noncomputable def PiecesOf_n2 : Code := cR PiecesOf_n0
noncomputable def PiecesOf_n3 : Code := cL PiecesOf_n2
noncomputable def PiecesOf_n4 : Code := cR PiecesOf_n2
noncomputable def PiecesOf_n5 : Code := cL PiecesOf_n4
noncomputable def PiecesOf_n6 : Code := cR PiecesOf_n4
noncomputable def PiecesOf_n7 : Code := cL PiecesOf_n6
noncomputable def PiecesOf_n8 : Code := cR PiecesOf_n6
noncomputable def PiecesOf_n9 : Code := cL PiecesOf_n7
noncomputable def PiecesOf_n10 : Code := cR PiecesOf_n7
noncomputable def PiecesOf_n11 : Code := cL PiecesOf_n10
noncomputable def PiecesOf_n12 : Code := cL PiecesOf_n11
noncomputable def PiecesOf_n13 : Code := cL PiecesOf_n12
noncomputable def PiecesOf_n14 : Code := cR PiecesOf_n12
noncomputable def PiecesOf_n15 : Code := cL PiecesOf_n13
noncomputable def PiecesOf_n16 : Code := cR PiecesOf_n13
noncomputable def PiecesOf_n17 : Code := cL PiecesOf_n16
noncomputable def PiecesOf_n18 : Code := cR PiecesOf_n16
noncomputable def PiecesOf_n19 : Code := cL PiecesOf_n14
noncomputable def PiecesOf_n20 : Code := cR PiecesOf_n14
noncomputable def PiecesOf_n21 : Code := cL PiecesOf_n19
noncomputable def PiecesOf_n22 : Code := cL PiecesOf_n8
noncomputable def PiecesOf_n23 : Code := cR PiecesOf_n8
noncomputable def PiecesOf_n24 : Code := cL PiecesOf_n22
noncomputable def PiecesOf_n25 : Code := cR PiecesOf_n22
noncomputable def PiecesOf_n26 : Code := cL PiecesOf_n25
noncomputable def PiecesOf_n27 : Code := cL PiecesOf_n26
noncomputable def PiecesOf_n28 : Code := cL PiecesOf_n27
noncomputable def PiecesOf_n29 : Code := cR PiecesOf_n27
noncomputable def PiecesOf_n30 : Code := cL PiecesOf_n28
noncomputable def PiecesOf_n31 : Code := cR PiecesOf_n28
noncomputable def PiecesOf_n32 : Code := cL PiecesOf_n31
noncomputable def PiecesOf_n33 : Code := cR PiecesOf_n31
noncomputable def PiecesOf_n34 : Code := cL PiecesOf_n29
noncomputable def PiecesOf_n35 : Code := cR PiecesOf_n29
noncomputable def PiecesOf_n36 : Code := cL PiecesOf_n34
noncomputable def PiecesOf_n37 : Code := cL PiecesOf_n36
noncomputable def PiecesOf_n38 : Code := cR PiecesOf_n36
noncomputable def PiecesOf_n39 : Code := cL PiecesOf_n38
noncomputable def PiecesOf_n40 : Code := cL PiecesOf_n39
noncomputable def PiecesOf_n41 : Code := cL PiecesOf_n40
noncomputable def PiecesOf_n42 : Code := cR PiecesOf_n40
noncomputable def PiecesOf_n43 : Code := cL PiecesOf_n41
noncomputable def PiecesOf_n44 : Code := cR PiecesOf_n41
noncomputable def PiecesOf_n45 : Code := cL PiecesOf_n44
noncomputable def PiecesOf_n46 : Code := cR PiecesOf_n44
noncomputable def PiecesOf_n47 : Code := cL PiecesOf_n42
noncomputable def PiecesOf_n48 : Code := cR PiecesOf_n42
noncomputable def PiecesOf_n49 : Code := cL PiecesOf_n47
noncomputable def PiecesOf_n50 : Code := cL PiecesOf_n49
noncomputable def PiecesOf_n51 : Code := cR PiecesOf_n49
noncomputable def PiecesOf_n52 : Code := cL PiecesOf_n51
noncomputable def PiecesOf_n53 : Code := cR PiecesOf_n51
noncomputable def PiecesOf_n54 : Code := cL PiecesOf_n53
noncomputable def PiecesOf_n55 : Code := cR PiecesOf_n53
noncomputable def PiecesOf_n56 : Code := cL PiecesOf_n23
noncomputable def PiecesOf_n57 : Code := cR PiecesOf_n23
set_option maxHeartbeats 1000000 in
set_option maxRecDepth 10000 in
theorem PiecesOf_t {w : World} {M : Hp} {X : Fr} (d : Dg) {dcrsA : Option Addr} {dcrsc : Nat} (hdcrs : RdA cdCr (M.un X.h) dcrsA dcrsc d.crs) (hn : d.crs.length ≤ 16) (hab : arcsB d = true) (S : SH w M X []) : Ct Tryd.prog 47 [.agg [.slice dcrsA d.crs.length dcrsc, .int .i64 d.loops].toArray] w M X (fun u M => ∃ A c, u = .slice A (whoL d).length c ∧ RdA cdInt M A c (whoL d)) := by
 unfold Ct
 have rmhdcrs : d.crs.length * 40 ≤ 140737488355328 := hdcrs.room
 refine calls_in (b := PiecesOf_n0) Tryd.func47 rfl Tryd.ntmps47 rfl (fun C hC => ?_)
 refine ws_sub [(0, _)] ⟨rfl, trivial⟩ ?_
 refine ws_seqN PiecesOf_n1 PiecesOf_n2 rfl rfl rfl ?_
 refine ws_region rfl ?_
 refine wlo 0 1 rfl rfl rfl (wo_box (l := [_, _]) rfl rfl rfl rfl rfl S ?_)
 intro gb1 w1 S1; clear S
 refine wla 1 2 rfl rfl rfl rfl rfl rfl rfl ?_
 refine wl_end rfl ?_
 refine nm_sub [(1, _)] ⟨rfl, trivial⟩ ?_
 refine nm_thn ?_
 refine ws_seqN PiecesOf_n3 PiecesOf_n4 rfl rfl rfl ?_
 refine ws_region rfl ?_
 refine wlo 0 1 rfl rfl rfl (wo_run rfl rfl (run_fieldAddr rfl rfl Tryd.underlying24 rfl (ce22) (nf22)) ?_)
 refine wlo 1 2 rfl rfl rfl (wo_run rfl rfl (run_load1 rfl rfl Tryd.underlying22 rfl (S1.boxc (i := 0) rfl rfl)) ?_)
 refine wlo 2 3 rfl rfl rfl (wo_run rfl rfl (run_len rfl rfl rfl rfl rfl rfl Tryd.underlying22) ?_)
 refine wla 3 4 rfl rfl rfl rfl rfl rfl rfl ?_
 refine wl_end rfl ?_
 refine nm_sub [(1, _), (3, _)] ⟨rfl, rfl, trivial⟩ ?_
 refine nm_thn ?_
 refine ws_seqN PiecesOf_n5 PiecesOf_n6 rfl rfl rfl ?_
 refine ws_region rfl ?_
 refine wlm 0 1 rfl rfl rfl rfl rfl rfl rfl ?_
 refine wlo 1 2 rfl rfl rfl (wo_make (C := cdInt) d.crs.length rfl rfl rfl rfl rfl sl46 (by first | rfl | omega) (by show _ * 8 ≤ _; first | omega | (simp only [lens]; omega)) S1 ?_)
 intro vr1 w2 S2; clear S1
 refine wla 2 3 rfl rfl rfl rfl rfl rfl rfl ?_
 refine wl_end rfl ?_
 refine nm_sub [(1, _), (3, _), (4, _)] ⟨rfl, rfl, rfl, trivial⟩ ?_
 refine nm_thn ?_
 refine ws_seqN PiecesOf_n7 PiecesOf_n8 rfl rfl rfl ?_
 refine ws_seqN PiecesOf_n9 PiecesOf_n10 rfl rfl rfl ?_
 refine ws_region rfl ?_
 refine wla 0 1 rfl rfl rfl rfl rfl rfl rfl ?_
 refine wl_end rfl ?_
 refine nm_thn ?_
 refine ws_blockN PiecesOf_n11 0 rfl rfl rfl ?_
 refine ws_loopE (fun mx_ ax_ wx_ => ∃ (i : Nat) (ws : List Int) (vrw : Value), mx_ = d.crs.length - i ∧ Env 67 [(1, .pointer (some ⟨gb1, 0, none⟩)), (3, .int .i64 (d.crs.length : Int)), (4, vrw), (5, .int .i64 (i : Int))] ax_ ∧ SH wx_ M X [Rs.row cdInt vrw ws, Rs.box gb1 24 [.slice dcrsA d.crs.length dcrsc, .int .i64 d.loops]] ∧ i ≤ d.crs.length ∧ ws = iniW d.crs.length i) rfl ?_ ?_
 ·intro ax_ hax_
  refine ⟨_, ⟨0, _, _, rfl, hax_.sub ⟨rfl, rfl, rfl, rfl, trivial⟩, S2.pick [0, 1] [_, _] (by decide) ⟨rfl, rfl, trivial⟩, ?hq1f0, ?hq1f1⟩⟩
  case hq1f0 => omega
  case hq1f1 => rfl
 ·rintro m1 a1 w3 ⟨i, ws, vrw, rfl, he1, S3, hi, hw⟩
  clear S2
  refine ws_in he1 (c := PiecesOf_n12) rfl ?_
  clear he1 a1
  have hl1 : ws.length = d.crs.length := by rw [hw, iniW_len]
  refine ws_seqN PiecesOf_n13 PiecesOf_n14 rfl rfl rfl ?_
  refine ws_seqN PiecesOf_n15 PiecesOf_n16 rfl rfl rfl ?_
  refine ws_region rfl ?_
  refine wlm 0 1 rfl rfl rfl rfl rfl rfl rfl ?_
  refine wlm 1 2 rfl rfl rfl rfl rfl rfl rfl ?_
  refine wlo 2 3 rfl rfl rfl (wo_run rfl rfl (run_lss rfl rfl rfl) ?_)
  refine wl_end rfl ?_
  refine nm_sub [(1, _), (3, _), (4, _), (5, _), (17, _)] ⟨rfl, rfl, rfl, rfl, rfl, trivial⟩ ?_
  refine nm_thn ?_
  refine ws_condN PiecesOf_n17 PiecesOf_n18 rfl rfl rfl rfl (fun hb17 => ?_) (fun hb17 => ?_)
  ·replace hb17 := of_decide_eq_true hb17
   refine ws_skip rfl ?_
   refine nm_sub [(1, _), (3, _), (4, _), (5, _)] ⟨rfl, rfl, rfl, rfl, trivial⟩ ?_
   refine nm_thn ?_
   refine ws_seqN PiecesOf_n19 PiecesOf_n20 rfl rfl rfl ?_
   refine ws_blockN PiecesOf_n21 1 rfl rfl rfl ?_
   refine ws_region rfl ?_
   refine wlm 0 1 rfl rfl rfl rfl rfl rfl rfl ?_
   refine wlm 1 2 rfl rfl rfl rfl rfl rfl rfl ?_
   refine wlm 2 3 rfl rfl rfl rfl rfl rfl rfl ?_
   refine wlo 3 4 rfl rfl rfl (wo_run rfl rfl (run_indexR (C := cdInt) (i := 0) i rfl rfl rfl sl46 S3 rfl (by first | rfl | omega) (by first | omega | (simp only [lens]; omega))) ?_)
   refine wlo 4 5 rfl rfl rfl (wo_storeR (C := cdInt) (i := 0) (e := i) (j := 0) (us := [_]) (H' := [_, _]) (i : Int) rfl rfl S3 rfl (by first | omega | (simp only [lens]; omega)) rfl rfl rfl sz3 rfl rfl rfl rfl ?_)
   intro w4 S4; clear S3
   refine wl_end rfl ?_
   refine nm_blk ?_
   refine nm_sub [(1, _), (3, _), (4, _), (5, _)] ⟨rfl, rfl, rfl, rfl, trivial⟩ ?_
   refine nm_thn ?_
   refine ws_region rfl ?_
   refine wlm 0 1 rfl rfl rfl rfl rfl rfl rfl ?_
   refine wlo 1 2 rfl rfl rfl (wo_run rfl rfl (run_add rfl rfl rfl (by first | omega | (simp only [lens]; omega))) ?_)
   refine wla 2 3 rfl rfl rfl rfl rfl rfl rfl ?_
   refine wl_end rfl ?_
   refine nm_lp ?_
   intro ax_ hax_
   refine ⟨_, ?hq2m, ⟨i + 1, _, _, rfl, hax_.sub ⟨rfl, rfl, rfl, rfl, trivial⟩, S4.pick [0, 1] [_, _] (by decide) ⟨rfl, rfl, trivial⟩, ?hq2f0, ?hq2f1⟩⟩
   case hq2f0 => omega
   case hq2f1 => (rw [hw]; rfl)
   case hq2m => omega
  ·replace hb17 := of_decide_eq_false hb17
   refine ws_exit rfl rfl ?_
   refine nm_sub [(1, _), (3, _), (4, _)] ⟨rfl, rfl, rfl, trivial⟩ ?_
   refine nm_thn ?_
   refine ws_seqN PiecesOf_n22 PiecesOf_n23 rfl rfl rfl ?_
   refine ws_seqN PiecesOf_n24 PiecesOf_n25 rfl rfl rfl ?_
   refine ws_region rfl ?_
   refine wla 0 1 rfl rfl rfl rfl rfl rfl rfl ?_
   refine wl_end rfl ?_
   refine nm_thn ?_
   refine ws_blockN PiecesOf_n26 2 rfl rfl rfl ?_
   refine ws_loopE (fun mx_ ax_ wx_ => ∃ (j : Nat) (ws2 : List Int) (vrw2 : Value), mx_ = d.crs.length - j ∧ Env 67 [(1, .pointer (some ⟨gb1, 0, none⟩)), (3, .int .i64 (d.crs.length : Int)), (4, vrw2), (6, .int .i64 (j : Int))] ax_ ∧ SH wx_ M X [Rs.row cdInt vrw2 ws2, Rs.box gb1 24 [.slice dcrsA d.crs.length dcrsc, .int .i64 d.loops]] ∧ j ≤ d.crs.length ∧ ws2 = rndsW d j) rfl ?_ ?_
   ·intro ax_ hax_
    refine ⟨_, ⟨0, _, _, rfl, hax_.sub ⟨rfl, rfl, rfl, rfl, trivial⟩, S3.pick [0, 1] [_, _] (by decide) ⟨rfl, rfl, trivial⟩, ?hq3f0, ?hq3f1⟩⟩
    case hq3f0 => omega
    case hq3f1 => (obtain rfl : i = d.crs.length := (by omega); exact hw)
   ·rintro m2 a2 w5 ⟨j, ws2, vrw2, rfl, he2, S5, hj, hw2⟩
    clear S3
    refine ws_in he2 (c := PiecesOf_n27) rfl ?_
    clear he2 a2
    have hl2 : ws2.length = d.crs.length := by rw [hw2, rndsW_len]
    refine ws_seqN PiecesOf_n28 PiecesOf_n29 rfl rfl rfl ?_
    refine ws_seqN PiecesOf_n30 PiecesOf_n31 rfl rfl rfl ?_
    refine ws_region rfl ?_
    refine wlm 0 1 rfl rfl rfl rfl rfl rfl rfl ?_
    refine wlm 1 2 rfl rfl rfl rfl rfl rfl rfl ?_
    refine wlo 2 3 rfl rfl rfl (wo_run rfl rfl (run_lss rfl rfl rfl) ?_)
    refine wl_end rfl ?_
    refine nm_sub [(1, _), (3, _), (4, _), (6, _), (26, _)] ⟨rfl, rfl, rfl, rfl, rfl, trivial⟩ ?_
    refine nm_thn ?_
    refine ws_condN PiecesOf_n32 PiecesOf_n33 rfl rfl rfl rfl (fun hb26 => ?_) (fun hb26 => ?_)
    ·replace hb26 := of_decide_eq_true hb26
     refine ws_skip rfl ?_
     refine nm_sub [(1, _), (3, _), (4, _), (6, _)] ⟨rfl, rfl, rfl, rfl, trivial⟩ ?_
     refine nm_thn ?_
     refine ws_seqN PiecesOf_n34 PiecesOf_n35 rfl rfl rfl ?_
     refine ws_blockN PiecesOf_n36 3 rfl rfl rfl ?_
     refine ws_seqN PiecesOf_n37 PiecesOf_n38 rfl rfl rfl ?_
     refine ws_region rfl ?_
     refine wla 0 1 rfl rfl rfl rfl rfl rfl rfl ?_
     refine wl_end rfl ?_
     refine nm_thn ?_
     refine ws_blockN PiecesOf_n39 4 rfl rfl rfl ?_
     refine ws_loopE (fun mx_ ax_ wx_ => ∃ (k : Nat) (ws3 : List Int) (vrw3 : Value), mx_ = 2 * d.crs.length - k ∧ Env 67 [(1, .pointer (some ⟨gb1, 0, none⟩)), (3, .int .i64 (d.crs.length : Int)), (4, vrw3), (6, .int .i64 (j : Int)), (7, .int .i64 ((k + 1 : Nat) : Int))] ax_ ∧ SH wx_ M X [Rs.row cdInt vrw3 ws3, Rs.box gb1 24 [.slice dcrsA d.crs.length dcrsc, .int .i64 d.loops]] ∧ k ≤ 2 * d.crs.length ∧ ws3 = roundW d ws2 k) rfl ?_ ?_
     ·intro ax_ hax_
      refine ⟨_, ⟨0, _, _, rfl, hax_.sub ⟨rfl, rfl, rfl, rfl, rfl, trivial⟩, S5.pick [0, 1] [_, _] (by decide) ⟨rfl, rfl, trivial⟩, ?hq4f0, ?hq4f1⟩⟩
      case hq4f0 => omega
      case hq4f1 => rfl
     ·rintro m3 a3 w6 ⟨k, ws3, vrw3, rfl, he3, S6, hk, hw3⟩
      clear S5
      refine ws_in he3 (c := PiecesOf_n40) rfl ?_
      clear he3 a3
      have hl3 : ws3.length = d.crs.length := by rw [hw3, roundW_len, hw2, rndsW_len]
      refine ws_seqN PiecesOf_n41 PiecesOf_n42 rfl rfl rfl ?_
      refine ws_seqN PiecesOf_n43 PiecesOf_n44 rfl rfl rfl ?_
      refine ws_region rfl ?_
      refine wlm 0 1 rfl rfl rfl rfl rfl rfl rfl ?_
      refine wlm 1 2 rfl rfl rfl rfl rfl rfl rfl ?_
      refine wlo 2 3 rfl rfl rfl (wo_run rfl rfl (run_mul rfl rfl rfl (by first | omega | (simp only [lens]; omega))) ?_)
      refine wlo 3 4 rfl rfl rfl (wo_run rfl rfl (run_leq rfl rfl rfl) ?_)
      refine wl_end rfl ?_
      refine nm_sub [(1, _), (3, _), (4, _), (6, _), (7, _), (32, _)] ⟨rfl, rfl, rfl, rfl, rfl, rfl, trivial⟩ ?_
      refine nm_thn ?_
      refine ws_condN PiecesOf_n45 PiecesOf_n46 rfl rfl rfl rfl (fun hb32 => ?_) (fun hb32 => ?_)
      ·replace hb32 := of_decide_eq_true hb32
       have hx := endC_lt hab (k := k) (by omega) false
       have hy := endC_lt hab (k := k) (by omega) true
       refine ws_skip rfl ?_
       refine nm_sub [(1, _), (3, _), (4, _), (6, _), (7, _)] ⟨rfl, rfl, rfl, rfl, rfl, trivial⟩ ?_
       refine nm_thn ?_
       refine ws_seqN PiecesOf_n47 PiecesOf_n48 rfl rfl rfl ?_
       refine ws_blockN PiecesOf_n49 5 rfl rfl rfl ?_
       refine ws_seqN PiecesOf_n50 PiecesOf_n51 rfl rfl rfl ?_
       refine ws_draw rfl (by kernel_rfl) S6 10 rfl ?_
       clear S6
       refine wa_take (i := 0) (d := 35) 9 rfl (by kernel_rfl) (by kernel_rfl) (by kernel_rfl) rfl rfl rfl (fun M1 N1 w7 hle4 S7 => .inl (run_loadN (us := [_, _]) rfl rfl Tryd.underlying24 rfl sz24 (S7.suf.boxcs (i := 1) rfl ⟨rfl, rfl, trivial⟩))) ?_
       refine wa_takeP (i := 1) (d := 36) 8 rfl (by kernel_rfl) (by kernel_rfl) (by kernel_rfl) rfl rfl rfl (fun w8 => run_move rfl rfl) ?_
       refine wa_take (i := 2) (d := 37) 7 rfl (by kernel_rfl) (by kernel_rfl) (by kernel_rfl) rfl rfl rfl (fun M3 N3 w9 hle6 S9 => yield_cq rfl rfl rfl rfl rfl cf49 S9 (EndOf_q d ((k + 1 : Nat) : Int) false ((hdcrs.mono (Hp.un_mono hle6 S9.mx)).mono S9.un_XH) S9.lend)) ?_
       refine wa_takeP (i := 3) (d := 38) 6 rfl (by kernel_rfl) (by kernel_rfl) (by kernel_rfl) rfl rfl rfl (fun w10 => run_field0 rfl rfl Tryd.underlying88 rfl Tryd.underlying3 rfl rfl) ?_
       refine wa_take (i := 4) (d := 39) 5 rfl (by kernel_rfl) (by kernel_rfl) (by kernel_rfl) rfl rfl rfl (fun M5 N5 w11 hle8 S11 => .inl (run_loadN (us := [_, _]) rfl rfl Tryd.underlying24 rfl sz24 (S11.suf.boxcs (i := 1) rfl ⟨rfl, rfl, trivial⟩))) ?_
       refine wa_takeP (i := 5) (d := 40) 4 rfl (by kernel_rfl) (by kernel_rfl) (by kernel_rfl) rfl rfl rfl (fun w12 => run_move rfl rfl) ?_
       refine wa_take (i := 6) (d := 41) 3 rfl (by kernel_rfl) (by kernel_rfl) (by kernel_rfl) rfl rfl rfl (fun M7 N7 w13 hle10 S13 => yield_cq rfl rfl rfl rfl rfl cf49 S13 (EndOf_q d ((k + 1 : Nat) : Int) true ((hdcrs.mono (Hp.un_mono hle10 S13.mx)).mono S13.un_XH) S13.lend)) ?_
       refine wa_takeP (i := 7) (d := 42) 2 rfl (by kernel_rfl) (by kernel_rfl) (by kernel_rfl) rfl rfl rfl (fun w14 => run_field0 rfl rfl Tryd.underlying88 rfl Tryd.underlying3 rfl rfl) ?_
       refine wa_takeP (i := 8) (d := 8) 1 rfl (by kernel_rfl) (by kernel_rfl) (by kernel_rfl) rfl rfl rfl (fun w15 => run_assign rfl rfl) ?_
       refine wa_takeP (i := 9) (d := 9) 0 rfl (by kernel_rfl) (by kernel_rfl) (by kernel_rfl) rfl rfl rfl (fun w16 => run_assign rfl rfl) ?_
       refine wa_end (by kernel_rfl) (fun w17 S17 => ?_)
       refine nm_sub [(1, _), (3, _), (4, _), (6, _), (7, _), (8, _), (9, _)] ⟨rfl, rfl, rfl, rfl, rfl, rfl, rfl, trivial⟩ ?_
       refine nm_thn ?_
       refine ws_seqN PiecesOf_n52 PiecesOf_n53 rfl rfl rfl ?_
       refine ws_eq 8 (.int .i64 ((endC d k false : Nat) : Int)) rfl (int_eq rfl) ?_
       refine ws_eq 9 (.int .i64 ((endC d k true : Nat) : Int)) rfl (int_eq rfl) ?_
       refine ws_draw rfl (by kernel_rfl) S17 9 rfl ?_
       clear S17
       refine wa_takeP (i := 0) (d := 43) 8 rfl (by kernel_rfl) (by kernel_rfl) (by kernel_rfl) rfl rfl rfl (fun w18 => run_move rfl rfl) ?_
       refine wa_takeP (i := 1) (d := 44) 7 rfl (by kernel_rfl) (by kernel_rfl) (by kernel_rfl) rfl rfl rfl (fun w19 => run_move rfl rfl) ?_
       refine wa_take (i := 2) (d := 45) 6 rfl (by kernel_rfl) (by kernel_rfl) (by kernel_rfl) rfl rfl rfl (fun M13 N13 w20 hle16 S20 => .inl (run_indexR (C := cdInt) (i := 0) (endC d k false) rfl rfl rfl sl46 S20.suf rfl (by first | rfl | omega) (by first | omega | (simp only [lens]; omega)))) ?_
       refine wa_take (i := 3) (d := 46) 5 rfl (by kernel_rfl) (by kernel_rfl) (by kernel_rfl) rfl rfl rfl (fun M14 N14 w21 hle17 S21 => .inl (run_load1 rfl rfl Tryd.underlying3 rfl (S21.suf.rowc (i := 0) (e := endC d k false) (j := 0) rfl (by first | omega | (simp only [lens]; omega)) rfl rfl))) ?_
       refine wa_takeP (i := 4) (d := 47) 4 rfl (by kernel_rfl) (by kernel_rfl) (by kernel_rfl) rfl rfl rfl (fun w22 => run_move rfl rfl) ?_
       refine wa_takeP (i := 5) (d := 48) 3 rfl (by kernel_rfl) (by kernel_rfl) (by kernel_rfl) rfl rfl rfl (fun w23 => run_move rfl rfl) ?_
       refine wa_take (i := 6) (d := 49) 2 rfl (by kernel_rfl) (by kernel_rfl) (by kernel_rfl) rfl rfl rfl (fun M17 N17 w24 hle20 S24 => .inl (run_indexR (C := cdInt) (i := 0) (endC d k true) rfl rfl rfl sl46 S24.suf rfl (by first | rfl | omega) (by first | omega | (simp only [lens]; omega)))) ?_
       refine wa_take (i := 7) (d := 50) 1 rfl (by kernel_rfl) (by kernel_rfl) (by kernel_rfl) rfl rfl rfl (fun M18 N18 w25 hle21 S25 => .inl (run_load1 rfl rfl Tryd.underlying3 rfl (S25.suf.rowc (i := 0) (e := endC d k true) (j := 0) rfl (by first | omega | (simp only [lens]; omega)) rfl rfl))) ?_
       refine wa_takeP (i := 8) (d := 51) 0 rfl (by kernel_rfl) (by kernel_rfl) (by kernel_rfl) rfl rfl rfl (fun w26 => run_lss rfl rfl rfl) ?_
       refine wa_end (by kernel_rfl) (fun w27 S27 => ?_)
       refine nm_sub [(1, _), (3, _), (4, _), (6, _), (7, _), (8, _), (9, _), (51, _)] ⟨rfl, rfl, rfl, rfl, rfl, rfl, rfl, rfl, trivial⟩ ?_
       refine nm_thn ?_
       refine ws_condN PiecesOf_n54 PiecesOf_n55 rfl rfl rfl rfl (fun hb51 => ?_) (fun hb51 => ?_)
       ·replace hb51 := of_decide_eq_true hb51
        refine ws_region rfl ?_
        refine wlm 0 1 rfl rfl rfl rfl rfl rfl rfl ?_
        refine wlm 1 2 rfl rfl rfl rfl rfl rfl rfl ?_
        refine wlm 2 3 rfl rfl rfl rfl rfl rfl rfl ?_
        refine wlm 3 4 rfl rfl rfl rfl rfl rfl rfl ?_
        refine wlo 4 5 rfl rfl rfl (wo_run rfl rfl (run_indexR (C := cdInt) (i := 0) (endC d k false) rfl rfl rfl sl46 S27 rfl (by first | rfl | omega) (by first | omega | (simp only [lens]; omega))) ?_)
        refine wlo 5 6 rfl rfl rfl (wo_run rfl rfl (run_load1 rfl rfl Tryd.underlying3 rfl (S27.rowc (i := 0) (e := endC d k false) (j := 0) rfl (by first | omega | (simp only [lens]; omega)) rfl rfl)) ?_)
        refine wlo 6 7 rfl rfl rfl (wo_run rfl rfl (run_indexR (C := cdInt) (i := 0) (endC d k true) rfl rfl rfl sl46 S27 rfl (by first | rfl | omega) (by first | omega | (simp only [lens]; omega))) ?_)
        refine wlo 7 8 rfl rfl rfl (wo_storeR (C := cdInt) (i := 0) (e := endC d k true) (j := 0) (us := [_]) (H' := [_, _]) (ga ws3 (endC d k false)) rfl rfl S27 rfl (by first | omega | (simp only [lens]; omega)) rfl rfl rfl sz3 rfl rfl rfl rfl ?_)
        intro w28 S28; clear S27
        refine wl_end rfl ?_
        refine nm_blk ?_
        refine nm_sub [(1, _), (3, _), (4, _), (6, _), (7, _)] ⟨rfl, rfl, rfl, rfl, rfl, trivial⟩ ?_
        refine nm_thn ?_
        refine ws_region rfl ?_
        refine wlm 0 1 rfl rfl rfl rfl rfl rfl rfl ?_
        refine wlo 1 2 rfl rfl rfl (wo_run rfl rfl (run_add rfl rfl rfl (by first | omega | (simp only [lens]; omega))) ?_)
        refine wla 2 3 rfl rfl rfl rfl rfl rfl rfl ?_
        refine wl_end rfl ?_
        refine nm_lp ?_
        intro ax_ hax_
        refine ⟨_, ?hq5m, ⟨k + 1, _, _, rfl, hax_.sub ⟨rfl, rfl, rfl, rfl, rfl, trivial⟩, S28.pick [0, 1] [_, _] (by decide) ⟨rfl, rfl, trivial⟩, ?hq5f0, ?hq5f1⟩⟩
        case hq5f0 => omega
        case hq5f1 => (show _ = stepW _ _ _; rw [← hw3]; unfold stepW; first | rw [if_pos (by omega)] | rw [if_neg (by omega)])
        case hq5m => omega
       ·replace hb51 := of_decide_eq_false hb51
        refine ws_region rfl ?_
        refine wlm 0 1 rfl rfl rfl rfl rfl rfl rfl ?_
        refine wlm 1 2 rfl rfl rfl rfl rfl rfl rfl ?_
        refine wlm 2 3 rfl rfl rfl rfl rfl rfl rfl ?_
        refine wlm 3 4 rfl rfl rfl rfl rfl rfl rfl ?_
        refine wlo 4 5 rfl rfl rfl (wo_run rfl rfl (run_indexR (C := cdInt) (i := 0) (endC d k true) rfl rfl rfl sl46 S27 rfl (by first | rfl | omega) (by first | omega | (simp only [lens]; omega))) ?_)
        refine wlo 5 6 rfl rfl rfl (wo_run rfl rfl (run_load1 rfl rfl Tryd.underlying3 rfl (S27.rowc (i := 0) (e := endC d k true) (j := 0) rfl (by first | omega | (simp only [lens]; omega)) rfl rfl)) ?_)
        refine wlo 6 7 rfl rfl rfl (wo_run rfl rfl (run_indexR (C := cdInt) (i := 0) (endC d k false) rfl rfl rfl sl46 S27 rfl (by first | rfl | omega) (by first | omega | (simp only [lens]; omega))) ?_)
        refine wlo 7 8 rfl rfl rfl (wo_storeR (C := cdInt) (i := 0) (e := endC d k false) (j := 0) (us := [_]) (H' := [_, _]) (ga ws3 (endC d k true)) rfl rfl S27 rfl (by first | omega | (simp only [lens]; omega)) rfl rfl rfl sz3 rfl rfl rfl rfl ?_)
        intro w29 S29; clear S27
        refine wl_end rfl ?_
        refine nm_blk ?_
        refine nm_sub [(1, _), (3, _), (4, _), (6, _), (7, _)] ⟨rfl, rfl, rfl, rfl, rfl, trivial⟩ ?_
        refine nm_thn ?_
        refine ws_region rfl ?_
        refine wlm 0 1 rfl rfl rfl rfl rfl rfl rfl ?_
        refine wlo 1 2 rfl rfl rfl (wo_run rfl rfl (run_add rfl rfl rfl (by first | omega | (simp only [lens]; omega))) ?_)
        refine wla 2 3 rfl rfl rfl rfl rfl rfl rfl ?_
        refine wl_end rfl ?_
        refine nm_lp ?_
        intro ax_ hax_
        refine ⟨_, ?hq6m, ⟨k + 1, _, _, rfl, hax_.sub ⟨rfl, rfl, rfl, rfl, rfl, trivial⟩, S29.pick [0, 1] [_, _] (by decide) ⟨rfl, rfl, trivial⟩, ?hq6f0, ?hq6f1⟩⟩
        case hq6f0 => omega
        case hq6f1 => (show _ = stepW _ _ _; rw [← hw3]; unfold stepW; first | rw [if_pos (by omega)] | rw [if_neg (by omega)])
        case hq6m => omega
      ·replace hb32 := of_decide_eq_false hb32
       refine ws_exit rfl rfl ?_
       refine nm_blk ?_
       refine nm_sub [(1, _), (3, _), (4, _), (6, _)] ⟨rfl, rfl, rfl, rfl, trivial⟩ ?_
       refine nm_thn ?_
       refine ws_region rfl ?_
       refine wlm 0 1 rfl rfl rfl rfl rfl rfl rfl ?_
       refine wlo 1 2 rfl rfl rfl (wo_run rfl rfl (run_add rfl rfl rfl (by first | omega | (simp only [lens]; omega))) ?_)
       refine wla 2 3 rfl rfl rfl rfl rfl rfl rfl ?_
       refine wl_end rfl ?_
       refine nm_lp ?_
       intro ax_ hax_
       refine ⟨_, ?hq7m, ⟨j + 1, _, _, rfl, hax_.sub ⟨rfl, rfl, rfl, rfl, trivial⟩, S6.pick [0, 1] [_, _] (by decide) ⟨rfl, rfl, trivial⟩, ?hq7f0, ?hq7f1⟩⟩
       case hq7f0 => omega
       case hq7f1 => (obtain rfl : k = 2 * d.crs.length := (by omega); rw [hw3, hw2]; rfl)
       case hq7m => omega
    ·replace hb26 := of_decide_eq_false hb26
     refine ws_exit rfl rfl ?_
     refine nm_sub [(4, _)] ⟨rfl, trivial⟩ ?_
     refine nm_thn ?_
     refine ws_seqN PiecesOf_n56 PiecesOf_n57 rfl rfl rfl ?_
     refine ws_region rfl ?_
     refine wlm 0 1 rfl rfl rfl rfl rfl rfl rfl ?_
     refine wla 1 2 rfl rfl rfl rfl rfl rfl rfl ?_
     refine wl_end rfl ?_
     refine nm_sub [(2, _)] ⟨rfl, trivial⟩ ?_
     refine nm_thn ?_
     obtain ⟨M20, hle23, S30, ⟨A1, c1, e1, hr1⟩⟩ := S5.pubrow (i := 0) (H' := [_, _]) rfl rfl (by show _ * 8 ≤ _; first | omega | (simp only [lens]; omega))
     clear S5; subst e1
     replace hdcrs := hdcrs.mono (Hp.un_mono hle23 S30.mx)
     refine ws_ret hC [_] rfl rfl ⟨rfl, trivial⟩ ?_
     refine ⟨_, rfl, _, hle23, (S30.pick [] [] (by decide) trivial), ?_⟩
     obtain rfl : j = d.crs.length := by omega
     subst hw2
     exact ⟨_, _, rfl, hr1⟩
end Go.Proofs.YtlmcnpbkmihjkaaDoor
namespace Go.Proofs.YtlmcnpbkmihjkaaDoor
open Go.ChangeShapes Go.WideShapes Go.ChangeAt Go.RowKit
theorem ringF_pre (nx : Nat → Nat) (seen : List Bool) (x : Nat) (acc : List Int) : ∃ t, (ringF nx seen x acc).2 = acc ++ t := by
 induction hk : free seen using Nat.strongRecOn generalizing seen x acc with
 | _ k ih =>
  by_cases h : x < seen.length ∧ ga seen x = false
  ·rw [ringF_go h.1 h.2]
   have := free_set h.1 h.2
   obtain ⟨t, ht⟩ := ih (free (seen.set x true)) (by omega) (seen.set x true) (nx x) (acc ++ [(x : Int)]) rfl
   exact ⟨(x : Int) :: t, by rw [ht]; simp⟩
  ·refine ⟨[], ?_⟩
   rw [ringF]
   simp [h]
theorem facesN_head (d : Dg) (k : Nat) (hk : k ≤ 4 * d.crs.length) : ∀ r ∈ (facesN d k).2, ∃ (c : Nat) (t : List Int), r = (c : Int) :: t ∧ 2 ≤ c ∧ c < 4 * d.crs.length + 2 := by
 induction k with
 | zero => intro r hr; simp [facesN] at hr
 | succ k ih =>
  by_cases hg : ga (facesN d k).1 (k + 2) = true
  ·rw [facesN_skip rfl hg]; exact ih (by omega)
  ·rw [facesN_ring rfl (by simpa using hg) rfl]
   intro r hr
   rcases List.mem_append.1 hr with hr | hr
   ·exact ih (by omega) r hr
   ·rw [List.mem_singleton] at hr
    subst hr
    have hl := facesN_len d k
    rw [ringF_go (by omega) (by simpa using hg)]
    obtain ⟨t, ht⟩ := ringF_pre (nxC d) ((facesN d k).1.set (k + 2) true) (nxC d (k + 2)) ([] ++ [((k + 2 : Nat) : Int)])
    exact ⟨k + 2, t, by rw [ht]; rfl, by omega, by omega⟩
def hd0 (d : Dg) (k : Nat) : Da := ga (ga (facesL d) k) 0
theorem hd0_ok {d : Dg} {k : Nat} (hk : k < (facesL d).length) : 0 < (ga (facesL d) k).length ∧ okD d (hd0 d k) := by
 have hm : ga (facesL d) k ∈ facesL d := by rw [ga_eq hk]; exact List.getElem_mem hk
 unfold facesL facesD at hm
 rw [List.mem_map] at hm
 obtain ⟨r, hr, e⟩ := hm
 obtain ⟨c, t, rfl, h1, h2⟩ := facesN_head d _ (Nat.le_refl _) r hr
 have e' : ga (facesL d) k = dA c :: dasL t := e.symm
 refine ⟨by rw [e']; simp, ?_⟩
 unfold hd0
 rw [e']
 exact dA_ok ⟨h1, h2⟩
/-- The crossing at which the first dart of a face ends. -/
def fcC (d : Dg) (k : Nat) : Nat := (endOf d (hd0 d k).a (hd0 d k).b).1
theorem fcC_lt {d : Dg} (h : arcsB d = true) {k : Nat} (hk : k < (facesL d).length) : fcC d k < d.crs.length := (endD h (hd0_ok hk).2 (hd0 d k).b).1
def negW (ws : List Int) (p : Int) : Nat → Int
 | 0 => 0
 | k + 1 => if ga ws k = p then negW ws p k - 1 else negW ws p k
def facW (d : Dg) (ws : List Int) (p : Int) (m : Int) : Nat → Int
 | 0 => m
 | k + 1 => if ga ws (fcC d k) = p then facW d ws p m k + 1 else facW d ws p m k
def rootOk (d : Dg) (p : Nat) : Bool := decide (ga (whoL d) p ≠ (p : Int)) || decide (facW d (whoL d) p (negW (whoL d) p d.crs.length) (facesL d).length = 2)
def planIs (d : Dg) : Bool := (List.range d.crs.length).all (rootOk d)
theorem planIs_t {d : Dg} (h : ∀ p, p < d.crs.length → rootOk d p = true) : planIs d = true := by
 unfold planIs
 rw [List.all_eq_true]
 intro p hp
 exact h p (List.mem_range.1 hp)
theorem planIs_f {d : Dg} {p : Nat} (hp : p < d.crs.length) (h : rootOk d p = false) : planIs d = false := by
 unfold planIs
 rw [List.all_eq_false]
 exact ⟨p, List.mem_range.2 hp, by rw [h]; decide⟩
theorem negW_bd (ws : List Int) (p : Int) (k : Nat) : -(k : Int) ≤ negW ws p k ∧ negW ws p k ≤ 0 := by
 induction k with
 | zero => simp [negW]
 | succ k ih => rw [negW]; split <;> omega
theorem facW_bd (d : Dg) (ws : List Int) (p m : Int) (k : Nat) : m ≤ facW d ws p m k ∧ facW d ws p m k ≤ m + k := by
 induction k with
 | zero => simp [facW]
 | succ k ih => rw [facW]; split <;> omega
theorem facesL_many (d : Dg) : (facesL d).length ≤ 4 * d.crs.length := by
 unfold facesL facesD
 rw [List.length_map]
 exact facesN_many d _
noncomputable def PlanarIs_n0 : Code := Tryd.f30.body.getD .skip
noncomputable def PlanarIs_n1 : Code := cL PlanarIs_n0
noncomputable def PlanarIs_n2 : Code := cR PlanarIs_n0
noncomputable def PlanarIs_n3 : Code := cL PlanarIs_n2
noncomputable def PlanarIs_n4 : Code := cR PlanarIs_n2
noncomputable def PlanarIs_n5 : Code := cL PlanarIs_n4
noncomputable def PlanarIs_n6 : Code := cR PlanarIs_n4
noncomputable def PlanarIs_n7 : Code := cL PlanarIs_n6
noncomputable def PlanarIs_n8 : Code := cR PlanarIs_n6
noncomputable def PlanarIs_n9 : Code := cL PlanarIs_n7
noncomputable def PlanarIs_n10 : Code := cR PlanarIs_n7
noncomputable def PlanarIs_n11 : Code := cL PlanarIs_n10
noncomputable def PlanarIs_n12 : Code := cL PlanarIs_n11
noncomputable def PlanarIs_n13 : Code := cL PlanarIs_n12
noncomputable def PlanarIs_n14 : Code := cR PlanarIs_n12
noncomputable def PlanarIs_n15 : Code := cL PlanarIs_n13
noncomputable def PlanarIs_n16 : Code := cR PlanarIs_n13
noncomputable def PlanarIs_n17 : Code := cL PlanarIs_n16
noncomputable def PlanarIs_n18 : Code := cR PlanarIs_n16
noncomputable def PlanarIs_n19 : Code := cL PlanarIs_n14
noncomputable def PlanarIs_n20 : Code := cR PlanarIs_n14
noncomputable def PlanarIs_n21 : Code := cL PlanarIs_n19
noncomputable def PlanarIs_n22 : Code := cL PlanarIs_n21
noncomputable def PlanarIs_n23 : Code := cR PlanarIs_n21
noncomputable def PlanarIs_n24 : Code := cL PlanarIs_n22
noncomputable def PlanarIs_n25 : Code := cR PlanarIs_n22
noncomputable def PlanarIs_n26 : Code := cL PlanarIs_n25
noncomputable def PlanarIs_n27 : Code := cR PlanarIs_n25
noncomputable def PlanarIs_n28 : Code := cL PlanarIs_n23
noncomputable def PlanarIs_n29 : Code := cR PlanarIs_n23
noncomputable def PlanarIs_n30 : Code := cL PlanarIs_n29
noncomputable def PlanarIs_n31 : Code := cR PlanarIs_n29
noncomputable def PlanarIs_n32 : Code := cL PlanarIs_n30
noncomputable def PlanarIs_n33 : Code := cR PlanarIs_n30
noncomputable def PlanarIs_n34 : Code := cL PlanarIs_n33
noncomputable def PlanarIs_n35 : Code := cL PlanarIs_n34
noncomputable def PlanarIs_n36 : Code := cL PlanarIs_n35
noncomputable def PlanarIs_n37 : Code := cR PlanarIs_n35
noncomputable def PlanarIs_n38 : Code := cL PlanarIs_n36
noncomputable def PlanarIs_n39 : Code := cR PlanarIs_n36
noncomputable def PlanarIs_n40 : Code := cL PlanarIs_n39
noncomputable def PlanarIs_n41 : Code := cR PlanarIs_n39
noncomputable def PlanarIs_n42 : Code := cL PlanarIs_n37
noncomputable def PlanarIs_n43 : Code := cR PlanarIs_n37
noncomputable def PlanarIs_n44 : Code := cL PlanarIs_n42
noncomputable def PlanarIs_n45 : Code := cL PlanarIs_n44
noncomputable def PlanarIs_n46 : Code := cR PlanarIs_n44
noncomputable def PlanarIs_n47 : Code := cL PlanarIs_n46
noncomputable def PlanarIs_n48 : Code := cR PlanarIs_n46
noncomputable def PlanarIs_n49 : Code := cL PlanarIs_n31
noncomputable def PlanarIs_n50 : Code := cR PlanarIs_n31
noncomputable def PlanarIs_n51 : Code := cL PlanarIs_n49
noncomputable def PlanarIs_n52 : Code := cR PlanarIs_n49
noncomputable def PlanarIs_n53 : Code := cL PlanarIs_n52
noncomputable def PlanarIs_n54 : Code := cL PlanarIs_n53
noncomputable def PlanarIs_n55 : Code := cL PlanarIs_n54
noncomputable def PlanarIs_n56 : Code := cR PlanarIs_n54
noncomputable def PlanarIs_n57 : Code := cL PlanarIs_n55
noncomputable def PlanarIs_n58 : Code := cR PlanarIs_n55
noncomputable def PlanarIs_n59 : Code := cL PlanarIs_n58
noncomputable def PlanarIs_n60 : Code := cR PlanarIs_n58
noncomputable def PlanarIs_n61 : Code := cL PlanarIs_n56
noncomputable def PlanarIs_n62 : Code := cR PlanarIs_n56
noncomputable def PlanarIs_n63 : Code := cL PlanarIs_n61
noncomputable def PlanarIs_n64 : Code := cL PlanarIs_n63
noncomputable def PlanarIs_n65 : Code := cR PlanarIs_n63
noncomputable def PlanarIs_n66 : Code := cL PlanarIs_n65
noncomputable def PlanarIs_n67 : Code := cR PlanarIs_n65
noncomputable def PlanarIs_n68 : Code := cL PlanarIs_n50
noncomputable def PlanarIs_n69 : Code := cR PlanarIs_n50
noncomputable def PlanarIs_n70 : Code := cL PlanarIs_n69
noncomputable def PlanarIs_n71 : Code := cR PlanarIs_n69
noncomputable def PlanarIs_n72 : Code := cL PlanarIs_n70
noncomputable def PlanarIs_n73 : Code := cR PlanarIs_n70
noncomputable def PlanarIs_n74 : Code := cL PlanarIs_n8
noncomputable def PlanarIs_n75 : Code := cR PlanarIs_n8
set_option maxHeartbeats 1000000 in
set_option maxRecDepth 10000 in
theorem PlanarIs_t {w : World} {M : Hp} {X : Fr} (d : Dg) {dcrsA : Option Addr} {dcrsc : Nat} (hdcrs : RdA cdCr (M.un X.h) dcrsA dcrsc d.crs) (hn : d.crs.length ≤ 16) (hab : arcsB d = true) (S : SH w M X []) : Ct Tryd.prog 30 [.agg [.slice dcrsA d.crs.length dcrsc, .int .i64 d.loops].toArray] w M X (fun u _ => u = .bool (planIs d)) := by
 unfold Ct
 have rmhdcrs : d.crs.length * 40 ≤ 140737488355328 := hdcrs.room
 refine calls_in (b := PlanarIs_n0) Tryd.func30 rfl Tryd.ntmps30 rfl (fun C hC => ?_)
 refine ws_sub [(0, _)] ⟨rfl, trivial⟩ ?_
 refine ws_seqN PlanarIs_n1 PlanarIs_n2 rfl rfl rfl ?_
 refine ws_region rfl ?_
 refine wlo 0 1 rfl rfl rfl (wo_box (l := [_, _]) rfl rfl rfl rfl rfl S ?_)
 intro gb1 w1 S1; clear S
 refine wla 1 2 rfl rfl rfl rfl rfl rfl rfl ?_
 refine wl_end rfl ?_
 refine nm_sub [(1, _)] ⟨rfl, trivial⟩ ?_
 refine nm_thn ?_
 refine ws_seqN PlanarIs_n3 PlanarIs_n4 rfl rfl rfl ?_
 refine ws_region rfl ?_
 refine wlo 0 1 rfl rfl rfl (wo_run rfl rfl (run_loadN (us := [_, _]) rfl rfl Tryd.underlying24 rfl sz24 (S1.boxcs (i := 0) rfl ⟨rfl, rfl, trivial⟩)) ?_)
 refine wlo 1 2 rfl rfl rfl (wo_ct rfl rfl rfl rfl rfl rfl rfl cf47 S1 (PiecesOf_t d (hdcrs.mono S1.un_XH) (hn) (hab) S1.lend) ?_)
 intro vw2 w2 M1 hle1 S2 hRw2; clear S1
 replace hdcrs := hdcrs.mono (Hp.un_mono hle1 S2.mx)
 obtain ⟨A1, c1, rfl, hr1⟩ := hRw2
 refine wla 2 3 rfl rfl rfl rfl rfl rfl rfl ?_
 refine wl_end rfl ?_
 refine nm_sub [(1, _), (3, _)] ⟨rfl, rfl, trivial⟩ ?_
 refine nm_thn ?_
 refine ws_seqN PlanarIs_n5 PlanarIs_n6 rfl rfl rfl ?_
 refine ws_region rfl ?_
 refine wlo 0 1 rfl rfl rfl (wo_run rfl rfl (run_loadN (us := [_, _]) rfl rfl Tryd.underlying24 rfl sz24 (S2.boxcs (i := 0) rfl ⟨rfl, rfl, trivial⟩)) ?_)
 refine wlo 1 2 rfl rfl rfl (wo_ct rfl rfl rfl rfl rfl rfl rfl cf48 S2 (FacesOf_t d (hdcrs.mono S2.un_XH) (hn) (hab) S2.lend) ?_)
 intro vw3 w3 M2 hle2 S3 hRw3; clear S2
 replace hdcrs := hdcrs.mono (Hp.un_mono hle2 S3.mx)
 replace hr1 := hr1.mono hle2
 obtain ⟨A2, c2, vs1, rfl, hr2, hd1⟩ := hRw3
 have hfl := hd1.1
 refine wla 2 3 rfl rfl rfl rfl rfl rfl rfl ?_
 refine wl_end rfl ?_
 refine nm_sub [(1, _), (3, _), (4, _)] ⟨rfl, rfl, rfl, trivial⟩ ?_
 refine nm_thn ?_
 refine ws_seqN PlanarIs_n7 PlanarIs_n8 rfl rfl rfl ?_
 refine ws_seqN PlanarIs_n9 PlanarIs_n10 rfl rfl rfl ?_
 refine ws_region rfl ?_
 refine wla 0 1 rfl rfl rfl rfl rfl rfl rfl ?_
 refine wl_end rfl ?_
 refine nm_thn ?_
 refine ws_blockN PlanarIs_n11 0 rfl rfl rfl ?_
 refine ws_loopE (fun mx_ ax_ wx_ => ∃ (p : Nat), mx_ = d.crs.length - p ∧ Env 71 [(1, .pointer (some ⟨gb1, 0, none⟩)), (3, .slice A1 (whoL d).length c1), (4, .slice A2 vs1.length c2), (5, .int .i64 (p : Int))] ax_ ∧ SH wx_ M2 X [Rs.box gb1 24 [.slice dcrsA d.crs.length dcrsc, .int .i64 d.loops]] ∧ p ≤ d.crs.length ∧ (∀ q, q < p → rootOk d q = true)) rfl ?_ ?_
 ·intro ax_ hax_
  refine ⟨_, ⟨0, rfl, hax_.sub ⟨rfl, rfl, rfl, rfl, trivial⟩, S3.pick [0] [_] (by decide) ⟨rfl, trivial⟩, ?hq1f0, ?hq1f1⟩⟩
  case hq1f0 => omega
  case hq1f1 => (intro q hq; omega)
 ·rintro m1 a1 w4 ⟨p, rfl, he1, S4, hp, hall⟩
  clear S3
  refine ws_in he1 (c := PlanarIs_n12) rfl ?_
  clear he1 a1
  have hwl := rndsW_len d d.crs.length
  replace hwl : (whoL d).length = d.crs.length := hwl
  have hfm := facesL_many d
  refine ws_seqN PlanarIs_n13 PlanarIs_n14 rfl rfl rfl ?_
  refine ws_seqN PlanarIs_n15 PlanarIs_n16 rfl rfl rfl ?_
  refine ws_region rfl ?_
  refine wlm 0 1 rfl rfl rfl rfl rfl rfl rfl ?_
  refine wlm 1 2 rfl rfl rfl rfl rfl rfl rfl ?_
  refine wlo 2 3 rfl rfl rfl (wo_run rfl rfl (run_len rfl rfl rfl rfl rfl rfl Tryd.underlying46) ?_)
  refine wlo 3 4 rfl rfl rfl (wo_run rfl rfl (run_lss rfl rfl rfl) ?_)
  refine wl_end rfl ?_
  refine nm_sub [(1, _), (3, _), (4, _), (5, _), (16, _)] ⟨rfl, rfl, rfl, rfl, rfl, trivial⟩ ?_
  refine nm_thn ?_
  refine ws_condN PlanarIs_n17 PlanarIs_n18 rfl rfl rfl rfl (fun hb16 => ?_) (fun hb16 => ?_)
  ·replace hb16 := of_decide_eq_true hb16
   refine ws_skip rfl ?_
   refine nm_sub [(1, _), (3, _), (4, _), (5, _)] ⟨rfl, rfl, rfl, rfl, trivial⟩ ?_
   refine nm_thn ?_
   refine ws_seqN PlanarIs_n19 PlanarIs_n20 rfl rfl rfl ?_
   refine ws_blockN PlanarIs_n21 1 rfl rfl rfl ?_
   refine ws_seqN PlanarIs_n22 PlanarIs_n23 rfl rfl rfl ?_
   refine ws_seqN PlanarIs_n24 PlanarIs_n25 rfl rfl rfl ?_
   refine ws_region rfl ?_
   refine wlm 0 1 rfl rfl rfl rfl rfl rfl rfl ?_
   refine wlm 1 2 rfl rfl rfl rfl rfl rfl rfl ?_
   refine wlo 2 3 rfl rfl rfl (wo_run rfl rfl (run_indexM (C := cdInt) p rfl rfl rfl sl46 (by first | rfl | omega) hr1 (by first | omega | (simp only [lens]; omega))) ?_)
   refine wlo 3 4 rfl rfl rfl (wo_run rfl rfl (run_load1 rfl rfl Tryd.underlying3 rfl (hr1.cell S4.m (i := p) (by first | omega | (simp only [lens]; omega)) 0 rfl rfl)) ?_)
   refine wlm 4 5 rfl rfl rfl rfl rfl rfl rfl ?_
   refine wlo 5 6 rfl rfl rfl (wo_run rfl rfl (run_neq rfl rfl rfl) ?_)
   refine wl_end rfl ?_
   refine nm_sub [(1, _), (3, _), (4, _), (5, _), (24, _)] ⟨rfl, rfl, rfl, rfl, rfl, trivial⟩ ?_
   refine nm_thn ?_
   refine ws_condN PlanarIs_n26 PlanarIs_n27 rfl rfl rfl rfl (fun hb24 => ?_) (fun hb24 => ?_)
   ·replace hb24 := of_decide_eq_true hb24
    refine ws_exit rfl rfl ?_
    refine nm_sub [(1, _), (3, _), (4, _), (5, _)] ⟨rfl, rfl, rfl, rfl, trivial⟩ ?_
    refine nm_thn ?_
    refine ws_region rfl ?_
    refine wlm 0 1 rfl rfl rfl rfl rfl rfl rfl ?_
    refine wlo 1 2 rfl rfl rfl (wo_run rfl rfl (run_add rfl rfl rfl (by first | omega | (simp only [lens]; omega))) ?_)
    refine wla 2 3 rfl rfl rfl rfl rfl rfl rfl ?_
    refine wl_end rfl ?_
    refine nm_lp ?_
    intro ax_ hax_
    refine ⟨_, ?hq2m, ⟨p + 1, rfl, hax_.sub ⟨rfl, rfl, rfl, rfl, trivial⟩, S4.pick [0] [_] (by decide) ⟨rfl, trivial⟩, ?hq2f0, ?hq2f1⟩⟩
    case hq2f0 => omega
    case hq2f1 => (intro q hq; by_cases h : q = p; (subst h; unfold rootOk; rw [Bool.or_eq_true]; first | (left; exact decide_eq_true (by omega)) | (right; exact decide_eq_true (by omega))); exact hall q (by omega))
    case hq2m => omega
   ·replace hb24 := of_decide_eq_false hb24
    refine ws_skip rfl ?_
    refine nm_sub [(1, _), (3, _), (4, _), (5, _)] ⟨rfl, rfl, rfl, rfl, trivial⟩ ?_
    refine nm_thn ?_
    refine ws_seqN PlanarIs_n28 PlanarIs_n29 rfl rfl rfl ?_
    refine ws_region rfl ?_
    refine wla 0 1 rfl rfl rfl rfl rfl rfl rfl ?_
    refine wl_end rfl ?_
    refine nm_thn ?_
    refine ws_seqN PlanarIs_n30 PlanarIs_n31 rfl rfl rfl ?_
    refine ws_seqN PlanarIs_n32 PlanarIs_n33 rfl rfl rfl ?_
    refine ws_region rfl ?_
    refine wla 0 1 rfl rfl rfl rfl rfl rfl rfl ?_
    refine wl_end rfl ?_
    refine nm_thn ?_
    refine ws_blockN PlanarIs_n34 2 rfl rfl rfl ?_
    refine ws_loopE (fun mx_ ax_ wx_ => ∃ (i : Nat) (m : Int), mx_ = d.crs.length - i ∧ Env 71 [(1, .pointer (some ⟨gb1, 0, none⟩)), (3, .slice A1 (whoL d).length c1), (4, .slice A2 vs1.length c2), (5, .int .i64 (p : Int)), (6, .int .i64 m), (7, .int .i64 (i : Int))] ax_ ∧ SH wx_ M2 X [Rs.box gb1 24 [.slice dcrsA d.crs.length dcrsc, .int .i64 d.loops]] ∧ i ≤ d.crs.length ∧ m = negW (whoL d) p i) rfl ?_ ?_
    ·intro ax_ hax_
     refine ⟨_, ⟨0, _, rfl, hax_.sub ⟨rfl, rfl, rfl, rfl, rfl, rfl, trivial⟩, S4.pick [0] [_] (by decide) ⟨rfl, trivial⟩, ?hq3f0, ?hq3f1⟩⟩
     case hq3f0 => omega
     case hq3f1 => rfl
    ·rintro m2 a2 w5 ⟨i, m, rfl, he2, S5, hi, hm⟩
     clear S4
     refine ws_in he2 (c := PlanarIs_n35) rfl ?_
     clear he2 a2
     have hnb := negW_bd (whoL d) p i
     refine ws_seqN PlanarIs_n36 PlanarIs_n37 rfl rfl rfl ?_
     refine ws_seqN PlanarIs_n38 PlanarIs_n39 rfl rfl rfl ?_
     refine ws_region rfl ?_
     refine wlm 0 1 rfl rfl rfl rfl rfl rfl rfl ?_
     refine wlm 1 2 rfl rfl rfl rfl rfl rfl rfl ?_
     refine wlo 2 3 rfl rfl rfl (wo_run rfl rfl (run_len rfl rfl rfl rfl rfl rfl Tryd.underlying46) ?_)
     refine wlo 3 4 rfl rfl rfl (wo_run rfl rfl (run_lss rfl rfl rfl) ?_)
     refine wl_end rfl ?_
     refine nm_sub [(1, _), (3, _), (4, _), (5, _), (6, _), (7, _), (28, _)] ⟨rfl, rfl, rfl, rfl, rfl, rfl, rfl, trivial⟩ ?_
     refine nm_thn ?_
     refine ws_condN PlanarIs_n40 PlanarIs_n41 rfl rfl rfl rfl (fun hb28 => ?_) (fun hb28 => ?_)
     ·replace hb28 := of_decide_eq_true hb28
      refine ws_skip rfl ?_
      refine nm_sub [(1, _), (3, _), (4, _), (5, _), (6, _), (7, _)] ⟨rfl, rfl, rfl, rfl, rfl, rfl, trivial⟩ ?_
      refine nm_thn ?_
      refine ws_seqN PlanarIs_n42 PlanarIs_n43 rfl rfl rfl ?_
      refine ws_blockN PlanarIs_n44 3 rfl rfl rfl ?_
      refine ws_seqN PlanarIs_n45 PlanarIs_n46 rfl rfl rfl ?_
      refine ws_region rfl ?_
      refine wlm 0 1 rfl rfl rfl rfl rfl rfl rfl ?_
      refine wlm 1 2 rfl rfl rfl rfl rfl rfl rfl ?_
      refine wlo 2 3 rfl rfl rfl (wo_run rfl rfl (run_indexM (C := cdInt) i rfl rfl rfl sl46 (by first | rfl | omega) hr1 (by first | omega | (simp only [lens]; omega))) ?_)
      refine wlo 3 4 rfl rfl rfl (wo_run rfl rfl (run_load1 rfl rfl Tryd.underlying3 rfl (hr1.cell S5.m (i := i) (by first | omega | (simp only [lens]; omega)) 0 rfl rfl)) ?_)
      refine wlm 4 5 rfl rfl rfl rfl rfl rfl rfl ?_
      refine wlo 5 6 rfl rfl rfl (wo_run rfl rfl (run_eql rfl rfl rfl) ?_)
      refine wl_end rfl ?_
      refine nm_sub [(1, _), (3, _), (4, _), (5, _), (6, _), (7, _), (36, _)] ⟨rfl, rfl, rfl, rfl, rfl, rfl, rfl, trivial⟩ ?_
      refine nm_thn ?_
      refine ws_condN PlanarIs_n47 PlanarIs_n48 rfl rfl rfl rfl (fun hb36 => ?_) (fun hb36 => ?_)
      ·replace hb36 := of_decide_eq_true hb36
       refine ws_region rfl ?_
       refine wlm 0 1 rfl rfl rfl rfl rfl rfl rfl ?_
       refine wlo 1 2 rfl rfl rfl (wo_run rfl rfl (run_sub rfl rfl rfl (by first | omega | (simp only [lens]; omega))) ?_)
       refine wla 2 3 rfl rfl rfl rfl rfl rfl rfl ?_
       refine wl_end rfl ?_
       refine nm_blk ?_
       refine nm_sub [(1, _), (3, _), (4, _), (5, _), (6, _), (7, _)] ⟨rfl, rfl, rfl, rfl, rfl, rfl, trivial⟩ ?_
       refine nm_thn ?_
       refine ws_region rfl ?_
       refine wlm 0 1 rfl rfl rfl rfl rfl rfl rfl ?_
       refine wlo 1 2 rfl rfl rfl (wo_run rfl rfl (run_add rfl rfl rfl (by first | omega | (simp only [lens]; omega))) ?_)
       refine wla 2 3 rfl rfl rfl rfl rfl rfl rfl ?_
       refine wl_end rfl ?_
       refine nm_lp ?_
       intro ax_ hax_
       refine ⟨_, ?hq4m, ⟨i + 1, _, rfl, hax_.sub ⟨rfl, rfl, rfl, rfl, rfl, rfl, trivial⟩, S5.pick [0] [_] (by decide) ⟨rfl, trivial⟩, ?hq4f0, ?hq4f1⟩⟩
       case hq4f0 => omega
       case hq4f1 => (rw [negW, hm]; first | rw [if_pos (by omega)] | rw [if_neg (by omega)])
       case hq4m => omega
      ·replace hb36 := of_decide_eq_false hb36
       refine ws_skip rfl ?_
       refine nm_blk ?_
       refine nm_sub [(1, _), (3, _), (4, _), (5, _), (6, _), (7, _)] ⟨rfl, rfl, rfl, rfl, rfl, rfl, trivial⟩ ?_
       refine nm_thn ?_
       refine ws_region rfl ?_
       refine wlm 0 1 rfl rfl rfl rfl rfl rfl rfl ?_
       refine wlo 1 2 rfl rfl rfl (wo_run rfl rfl (run_add rfl rfl rfl (by first | omega | (simp only [lens]; omega))) ?_)
       refine wla 2 3 rfl rfl rfl rfl rfl rfl rfl ?_
       refine wl_end rfl ?_
       refine nm_lp ?_
       intro ax_ hax_
       refine ⟨_, ?hq5m, ⟨i + 1, _, rfl, hax_.sub ⟨rfl, rfl, rfl, rfl, rfl, rfl, trivial⟩, S5.pick [0] [_] (by decide) ⟨rfl, trivial⟩, ?hq5f0, ?hq5f1⟩⟩
       case hq5f0 => omega
       case hq5f1 => (rw [negW, hm]; first | rw [if_pos (by omega)] | rw [if_neg (by omega)])
       case hq5m => omega
     ·replace hb28 := of_decide_eq_false hb28
      refine ws_exit rfl rfl ?_
      refine nm_sub [(1, _), (3, _), (4, _), (5, _), (6, _)] ⟨rfl, rfl, rfl, rfl, rfl, trivial⟩ ?_
      refine nm_thn ?_
      refine ws_seqN PlanarIs_n49 PlanarIs_n50 rfl rfl rfl ?_
      refine ws_seqN PlanarIs_n51 PlanarIs_n52 rfl rfl rfl ?_
      refine ws_region rfl ?_
      refine wla 0 1 rfl rfl rfl rfl rfl rfl rfl ?_
      refine wl_end rfl ?_
      refine nm_thn ?_
      refine ws_blockN PlanarIs_n53 4 rfl rfl rfl ?_
      refine ws_loopE (fun mx_ ax_ wx_ => ∃ (k : Nat) (m2 : Int), mx_ = (facesL d).length - k ∧ Env 71 [(1, .pointer (some ⟨gb1, 0, none⟩)), (3, .slice A1 (whoL d).length c1), (4, .slice A2 vs1.length c2), (5, .int .i64 (p : Int)), (6, .int .i64 m2), (8, .int .i64 (k : Int))] ax_ ∧ SH wx_ M2 X [Rs.box gb1 24 [.slice dcrsA d.crs.length dcrsc, .int .i64 d.loops]] ∧ k ≤ (facesL d).length ∧ m2 = facW d (whoL d) p (negW (whoL d) p d.crs.length) k) rfl ?_ ?_
      ·intro ax_ hax_
       refine ⟨_, ⟨0, _, rfl, hax_.sub ⟨rfl, rfl, rfl, rfl, rfl, rfl, trivial⟩, S5.pick [0] [_] (by decide) ⟨rfl, trivial⟩, ?hq6f0, ?hq6f1⟩⟩
       case hq6f0 => omega
       case hq6f1 => (rw [hm, show i = d.crs.length by omega]; rfl)
      ·rintro m3 a3 w6 ⟨k, m2, rfl, he3, S6, hk, hm2⟩
       clear S5
       refine ws_in he3 (c := PlanarIs_n54) rfl ?_
       clear he3 a3
       have hnb := negW_bd (whoL d) p d.crs.length
       have hfb := facW_bd d (whoL d) p (negW (whoL d) p d.crs.length) k
       refine ws_seqN PlanarIs_n55 PlanarIs_n56 rfl rfl rfl ?_
       refine ws_seqN PlanarIs_n57 PlanarIs_n58 rfl rfl rfl ?_
       refine ws_region rfl ?_
       refine wlm 0 1 rfl rfl rfl rfl rfl rfl rfl ?_
       refine wlm 1 2 rfl rfl rfl rfl rfl rfl rfl ?_
       refine wlo 2 3 rfl rfl rfl (wo_run rfl rfl (run_len rfl rfl rfl rfl rfl rfl Tryd.underlying92) ?_)
       refine wlo 3 4 rfl rfl rfl (wo_run rfl rfl (run_lss rfl rfl rfl) ?_)
       refine wl_end rfl ?_
       refine nm_sub [(1, _), (3, _), (4, _), (5, _), (6, _), (8, _), (42, _)] ⟨rfl, rfl, rfl, rfl, rfl, rfl, rfl, trivial⟩ ?_
       refine nm_thn ?_
       refine ws_condN PlanarIs_n59 PlanarIs_n60 rfl rfl rfl rfl (fun hb42 => ?_) (fun hb42 => ?_)
       ·replace hb42 := of_decide_eq_true hb42
        have hhd := hd0_ok (d := d) (k := k) (by omega)
        have hfc := fcC_lt hab (k := k) (by omega)
        obtain ⟨hh0, hok⟩ := hhd
        have hfe : fcC d k = (endOf d (ga (ga (facesL d) k) 0).a (ga (ga (facesL d) k) 0).b).1 := rfl
        rw [hfe] at hfc
        refine ws_skip rfl ?_
        refine nm_sub [(1, _), (3, _), (4, _), (5, _), (6, _), (8, _)] ⟨rfl, rfl, rfl, rfl, rfl, rfl, trivial⟩ ?_
        refine nm_thn ?_
        refine ws_seqN PlanarIs_n61 PlanarIs_n62 rfl rfl rfl ?_
        refine ws_blockN PlanarIs_n63 5 rfl rfl rfl ?_
        refine ws_seqN PlanarIs_n64 PlanarIs_n65 rfl rfl rfl ?_
        refine ws_draw rfl (by kernel_rfl) S6 22 rfl ?_
        clear S6
        refine wa_takeP (i := 0) (d := 45) 21 rfl (by kernel_rfl) (by kernel_rfl) (by kernel_rfl) rfl rfl rfl (fun w7 => run_move rfl rfl) ?_
        refine wa_take (i := 1) (d := 46) 20 rfl (by kernel_rfl) (by kernel_rfl) (by kernel_rfl) rfl rfl rfl (fun M4 N2 w8 hle7 S8 => .inl (run_loadN (us := [_, _]) rfl rfl Tryd.underlying24 rfl sz24 (S8.suf.boxcs (i := 0) rfl ⟨rfl, rfl, trivial⟩))) ?_
        refine wa_takeP (i := 2) (d := 47) 19 rfl (by kernel_rfl) (by kernel_rfl) (by kernel_rfl) rfl rfl rfl (fun w9 => run_move rfl rfl) ?_
        refine wa_takeP (i := 3) (d := 48) 18 rfl (by kernel_rfl) (by kernel_rfl) (by kernel_rfl) rfl rfl rfl (fun w10 => run_move rfl rfl) ?_
        refine wa_take (i := 4) (d := 49) 17 rfl (by kernel_rfl) (by kernel_rfl) (by kernel_rfl) rfl rfl rfl (fun M7 N5 w11 hle10 S11 => .inl (run_indexM (C := (cdV 97)) k rfl rfl rfl sl92 (by first | rfl | omega) (hr2.mono hle10) (by first | omega | (simp only [lens]; omega)))) ?_
        obtain ⟨hn1, hr3⟩ := hd1.2 k (by first | omega | (simp only [lens]; omega))
        have rmhr3 : (ga (facesL d) k).length * 16 ≤ 140737488355328 := hr3.room
        refine wa_take (i := 5) (d := 50) 16 rfl (by kernel_rfl) (by kernel_rfl) (by kernel_rfl) rfl rfl rfl (fun M8 N6 w12 hle11 S12 => .inl (run_load1 rfl rfl Tryd.underlying97 rfl ((hr2.mono hle11).cell S12.m (i := k) (by first | omega | (simp only [lens]; omega)) 0 rfl (congrArg (fun n => some (Value.slice _ n _)) hn1)))) ?_
        refine wa_take (i := 6) (d := 51) 15 rfl (by kernel_rfl) (by kernel_rfl) (by kernel_rfl) rfl rfl rfl (fun M9 N7 w13 hle12 S13 => .inl (run_indexM (C := cdDa) 0 rfl rfl rfl sl97 (by first | rfl | omega) (hr3.mono hle12) (by first | omega | (simp only [lens]; omega)))) ?_
        refine wa_takeP (i := 7) (d := 52) 14 rfl (by kernel_rfl) (by kernel_rfl) (by kernel_rfl) rfl rfl rfl (fun w14 => run_fieldAddr rfl rfl Tryd.underlying96 rfl (ce3) (nf3)) ?_
        refine wa_take (i := 8) (d := 53) 13 rfl (by kernel_rfl) (by kernel_rfl) (by kernel_rfl) rfl rfl rfl (fun M11 N9 w15 hle14 S15 => .inl (run_load1 rfl rfl Tryd.underlying3 rfl ((hr3.mono hle14).cell S15.m (i := 0) (by first | omega | (simp only [lens]; omega)) 0 rfl rfl))) ?_
        refine wa_takeP (i := 9) (d := 54) 12 rfl (by kernel_rfl) (by kernel_rfl) (by kernel_rfl) rfl rfl rfl (fun w16 => run_move rfl rfl) ?_
        refine wa_takeP (i := 10) (d := 55) 11 rfl (by kernel_rfl) (by kernel_rfl) (by kernel_rfl) rfl rfl rfl (fun w17 => run_move rfl rfl) ?_
        refine wa_take (i := 11) (d := 56) 10 rfl (by kernel_rfl) (by kernel_rfl) (by kernel_rfl) rfl rfl rfl (fun M14 N12 w18 hle17 S18 => .inl (run_indexM (C := (cdV 97)) k rfl rfl rfl sl92 (by first | rfl | omega) (hr2.mono hle17) (by first | omega | (simp only [lens]; omega)))) ?_
        obtain ⟨hn2, hr4⟩ := hd1.2 k (by first | omega | (simp only [lens]; omega))
        have rmhr4 : (ga (facesL d) k).length * 16 ≤ 140737488355328 := hr4.room
        refine wa_take (i := 12) (d := 57) 9 rfl (by kernel_rfl) (by kernel_rfl) (by kernel_rfl) rfl rfl rfl (fun M15 N13 w19 hle18 S19 => .inl (run_load1 rfl rfl Tryd.underlying97 rfl ((hr2.mono hle18).cell S19.m (i := k) (by first | omega | (simp only [lens]; omega)) 0 rfl (congrArg (fun n => some (Value.slice _ n _)) hn2)))) ?_
        refine wa_take (i := 13) (d := 58) 8 rfl (by kernel_rfl) (by kernel_rfl) (by kernel_rfl) rfl rfl rfl (fun M16 N14 w20 hle19 S20 => .inl (run_indexM (C := cdDa) 0 rfl rfl rfl sl97 (by first | rfl | omega) (hr4.mono hle19) (by first | omega | (simp only [lens]; omega)))) ?_
        refine wa_takeP (i := 14) (d := 59) 7 rfl (by kernel_rfl) (by kernel_rfl) (by kernel_rfl) rfl rfl rfl (fun w21 => run_fieldAddr rfl rfl Tryd.underlying96 rfl (ce4) (nf4)) ?_
        refine wa_take (i := 15) (d := 60) 6 rfl (by kernel_rfl) (by kernel_rfl) (by kernel_rfl) rfl rfl rfl (fun M18 N16 w22 hle21 S22 => .inl (run_load1 rfl rfl Tryd.underlying4 rfl ((hr4.mono hle21).cell S22.m (i := 0) (by first | omega | (simp only [lens]; omega)) 1 rfl rfl))) ?_
        refine wa_take (i := 16) (d := 61) 5 rfl (by kernel_rfl) (by kernel_rfl) (by kernel_rfl) rfl rfl rfl (fun M19 N17 w23 hle22 S23 => yield_cq rfl rfl rfl rfl rfl cf49 S23 (EndOf_q d ((ga (ga (facesL d) k) 0).a) ((ga (ga (facesL d) k) 0).b) ((hdcrs.mono (Hp.un_mono hle22 S23.mx)).mono S23.un_XH) S23.lend)) ?_
        refine wa_takeP (i := 17) (d := 62) 4 rfl (by kernel_rfl) (by kernel_rfl) (by kernel_rfl) rfl rfl rfl (fun w24 => run_field0 rfl rfl Tryd.underlying88 rfl Tryd.underlying3 rfl rfl) ?_
        refine wa_take (i := 18) (d := 63) 3 rfl (by kernel_rfl) (by kernel_rfl) (by kernel_rfl) rfl rfl rfl (fun M21 N19 w25 hle24 S25 => .inl (run_indexM (C := cdInt) ((endOf d ((ga (ga (facesL d) k) 0).a) ((ga (ga (facesL d) k) 0).b)).1) rfl rfl rfl sl46 (by first | rfl | omega) (hr1.mono hle24) (by first | omega | (simp only [lens]; omega)))) ?_
        refine wa_take (i := 19) (d := 64) 2 rfl (by kernel_rfl) (by kernel_rfl) (by kernel_rfl) rfl rfl rfl (fun M22 N20 w26 hle25 S26 => .inl (run_load1 rfl rfl Tryd.underlying3 rfl ((hr1.mono hle25).cell S26.m (i := (endOf d ((ga (ga (facesL d) k) 0).a) ((ga (ga (facesL d) k) 0).b)).1) (by first | omega | (simp only [lens]; omega)) 0 rfl rfl))) ?_
        refine wa_takeP (i := 20) (d := 65) 1 rfl (by kernel_rfl) (by kernel_rfl) (by kernel_rfl) rfl rfl rfl (fun w27 => run_move rfl rfl) ?_
        refine wa_takeP (i := 21) (d := 66) 0 rfl (by kernel_rfl) (by kernel_rfl) (by kernel_rfl) rfl rfl rfl (fun w28 => run_eql rfl rfl rfl) ?_
        refine wa_end (by kernel_rfl) (fun w29 S29 => ?_)
        refine nm_sub [(1, _), (3, _), (4, _), (5, _), (6, _), (8, _), (66, _)] ⟨rfl, rfl, rfl, rfl, rfl, rfl, rfl, trivial⟩ ?_
        refine nm_thn ?_
        refine ws_condN PlanarIs_n66 PlanarIs_n67 rfl rfl rfl rfl (fun hb66 => ?_) (fun hb66 => ?_)
        ·replace hb66 := of_decide_eq_true hb66
         refine ws_region rfl ?_
         refine wlm 0 1 rfl rfl rfl rfl rfl rfl rfl ?_
         refine wlo 1 2 rfl rfl rfl (wo_run rfl rfl (run_add rfl rfl rfl (by first | omega | (simp only [lens]; omega))) ?_)
         refine wla 2 3 rfl rfl rfl rfl rfl rfl rfl ?_
         refine wl_end rfl ?_
         refine nm_blk ?_
         refine nm_sub [(1, _), (3, _), (4, _), (5, _), (6, _), (8, _)] ⟨rfl, rfl, rfl, rfl, rfl, rfl, trivial⟩ ?_
         refine nm_thn ?_
         refine ws_region rfl ?_
         refine wlm 0 1 rfl rfl rfl rfl rfl rfl rfl ?_
         refine wlo 1 2 rfl rfl rfl (wo_run rfl rfl (run_add rfl rfl rfl (by first | omega | (simp only [lens]; omega))) ?_)
         refine wla 2 3 rfl rfl rfl rfl rfl rfl rfl ?_
         refine wl_end rfl ?_
         refine nm_lp ?_
         intro ax_ hax_
         refine ⟨_, ?hq7m, ⟨k + 1, _, rfl, hax_.sub ⟨rfl, rfl, rfl, rfl, rfl, rfl, trivial⟩, S29.pick [0] [_] (by decide) ⟨rfl, trivial⟩, ?hq7f0, ?hq7f1⟩⟩
         case hq7f0 => omega
         case hq7f1 => (rw [facW, hm2, hfe]; first | rw [if_pos (by omega)] | rw [if_neg (by omega)])
         case hq7m => omega
        ·replace hb66 := of_decide_eq_false hb66
         refine ws_skip rfl ?_
         refine nm_blk ?_
         refine nm_sub [(1, _), (3, _), (4, _), (5, _), (6, _), (8, _)] ⟨rfl, rfl, rfl, rfl, rfl, rfl, trivial⟩ ?_
         refine nm_thn ?_
         refine ws_region rfl ?_
         refine wlm 0 1 rfl rfl rfl rfl rfl rfl rfl ?_
         refine wlo 1 2 rfl rfl rfl (wo_run rfl rfl (run_add rfl rfl rfl (by first | omega | (simp only [lens]; omega))) ?_)
         refine wla 2 3 rfl rfl rfl rfl rfl rfl rfl ?_
         refine wl_end rfl ?_
         refine nm_lp ?_
         intro ax_ hax_
         refine ⟨_, ?hq8m, ⟨k + 1, _, rfl, hax_.sub ⟨rfl, rfl, rfl, rfl, rfl, rfl, trivial⟩, S29.pick [0] [_] (by decide) ⟨rfl, trivial⟩, ?hq8f0, ?hq8f1⟩⟩
         case hq8f0 => omega
         case hq8f1 => (rw [facW, hm2, hfe]; first | rw [if_pos (by omega)] | rw [if_neg (by omega)])
         case hq8m => omega
       ·replace hb42 := of_decide_eq_false hb42
        have hm3 : m2 = facW d (whoL d) p (negW (whoL d) p d.crs.length) (facesL d).length := by rw [hm2, show k = (facesL d).length by omega]
        refine ws_exit rfl rfl ?_
        refine nm_sub [(1, _), (3, _), (4, _), (5, _), (6, _)] ⟨rfl, rfl, rfl, rfl, rfl, trivial⟩ ?_
        refine nm_thn ?_
        refine ws_seqN PlanarIs_n68 PlanarIs_n69 rfl rfl rfl ?_
        refine ws_region rfl ?_
        refine wlm 0 1 rfl rfl rfl rfl rfl rfl rfl ?_
        refine wlo 1 2 rfl rfl rfl (wo_run rfl rfl (run_neq rfl rfl rfl) ?_)
        refine wl_end rfl ?_
        refine nm_sub [(1, _), (3, _), (4, _), (5, _), (70, _)] ⟨rfl, rfl, rfl, rfl, rfl, trivial⟩ ?_
        refine nm_thn ?_
        refine ws_condN PlanarIs_n70 PlanarIs_n71 rfl rfl rfl rfl (fun hb70 => ?_) (fun hb70 => ?_)
        ·replace hb70 := of_decide_eq_true hb70
         refine ws_seqN PlanarIs_n72 PlanarIs_n73 rfl rfl rfl ?_
         refine ws_region rfl ?_
         refine wla 0 1 rfl rfl rfl rfl rfl rfl rfl ?_
         refine wl_end rfl ?_
         refine nm_sub [(2, _)] ⟨rfl, trivial⟩ ?_
         refine nm_thn ?_
         refine ws_ret hC [_] rfl rfl ⟨rfl, trivial⟩ ?_
         refine ⟨_, rfl, _, hle1.trans hle2, (S6.pick [] [] (by decide) trivial), ?_⟩
         refine congrArg Value.bool (planIs_f (p := p) (by omega) ?_).symm
         unfold rootOk
         rw [Bool.or_eq_false_iff]
         exact ⟨decide_eq_false (by omega), decide_eq_false (by omega)⟩
        ·replace hb70 := of_decide_eq_false hb70
         refine ws_skip rfl ?_
         refine nm_blk ?_
         refine nm_sub [(1, _), (3, _), (4, _), (5, _)] ⟨rfl, rfl, rfl, rfl, trivial⟩ ?_
         refine nm_thn ?_
         refine ws_region rfl ?_
         refine wlm 0 1 rfl rfl rfl rfl rfl rfl rfl ?_
         refine wlo 1 2 rfl rfl rfl (wo_run rfl rfl (run_add rfl rfl rfl (by first | omega | (simp only [lens]; omega))) ?_)
         refine wla 2 3 rfl rfl rfl rfl rfl rfl rfl ?_
         refine wl_end rfl ?_
         refine nm_lp ?_
         intro ax_ hax_
         refine ⟨_, ?hq9m, ⟨p + 1, rfl, hax_.sub ⟨rfl, rfl, rfl, rfl, trivial⟩, S6.pick [0] [_] (by decide) ⟨rfl, trivial⟩, ?hq9f0, ?hq9f1⟩⟩
         case hq9f0 => omega
         case hq9f1 => (intro q hq; by_cases h : q = p; (subst h; unfold rootOk; rw [Bool.or_eq_true]; first | (left; exact decide_eq_true (by omega)) | (right; exact decide_eq_true (by omega))); exact hall q (by omega))
         case hq9m => omega
  ·replace hb16 := of_decide_eq_false hb16
   refine ws_exit rfl rfl ?_
   refine nm_sub [] trivial ?_
   refine nm_thn ?_
   refine ws_seqN PlanarIs_n74 PlanarIs_n75 rfl rfl rfl ?_
   refine ws_region rfl ?_
   refine wla 0 1 rfl rfl rfl rfl rfl rfl rfl ?_
   refine wl_end rfl ?_
   refine nm_thn ?_
   refine ws_ret hC [_] rfl rfl ⟨rfl, trivial⟩ ?_
   refine ⟨_, rfl, _, hle1.trans hle2, (S4.pick [] [] (by decide) trivial), ?_⟩
   exact congrArg Value.bool (planIs_t (fun q hq => hall q (by omega))).symm
end Go.Proofs.YtlmcnpbkmihjkaaDoor
namespace Go.Proofs.YtlmcnpbkmihjkaaDoor
open Go.Shelf
def srtL_ren : Go.Shelf.Ren := ⟨fun | 189 => 43 | 125 => 57 | 257 => 56 | 128 => 74 | 129 => 75 | 294 => 65 | 295 => 66 | 296 => 67 | 297 => 68 | 298 => 69 | 299 => 70 | 216 => 71 | 300 => 72 | 301 => 73 | 328 => 79 | 329 => 80 | 330 => 81 | 331 => 82 | 332 => 83 | 215 => 84 | 343 => 85 | n => n, fun | 28 => 46 | 3 => 3 | 46 => 56 | 0 => 0 | 51 => 75 | 53 => 77 | 4 => 4 | 183 => 121 | 182 => 120 | 131 => 125 | 5 => 5 | 9 => 9 | 218 => 130 | 222 => 134 | 228 => 136 | 229 => 137 | n => n, fun | n => n⟩
theorem srtL : Go.Proofs.Lays.n189 Tryd.prog srtL_ren := {
  mixed := by kernel_rfl
  f125 := Tryd.func57.trans (congrArg some (by kernel_rfl))
  f128 := Tryd.func74.trans (congrArg some (by kernel_rfl))
  f129 := Tryd.func75.trans (congrArg some (by kernel_rfl))
  f189 := Tryd.func43.trans (congrArg some (by kernel_rfl))
  f215 := Tryd.func84.trans (congrArg some (by kernel_rfl))
  f216 := Tryd.func71.trans (congrArg some (by kernel_rfl))
  f257 := Tryd.func56.trans (congrArg some (by kernel_rfl))
  f294 := Tryd.func65.trans (congrArg some (by kernel_rfl))
  f295 := Tryd.func66.trans (congrArg some (by kernel_rfl))
  f296 := Tryd.func67.trans (congrArg some (by kernel_rfl))
  f297 := Tryd.func68.trans (congrArg some (by kernel_rfl))
  f298 := Tryd.func69.trans (congrArg some (by kernel_rfl))
  f299 := Tryd.func70.trans (congrArg some (by kernel_rfl))
  f300 := Tryd.func72.trans (congrArg some (by kernel_rfl))
  f301 := Tryd.func73.trans (congrArg some (by kernel_rfl))
  f328 := Tryd.func79.trans (congrArg some (by kernel_rfl))
  f329 := Tryd.func80.trans (congrArg some (by kernel_rfl))
  f330 := Tryd.func81.trans (congrArg some (by kernel_rfl))
  f331 := Tryd.func82.trans (congrArg some (by kernel_rfl))
  f332 := Tryd.func83.trans (congrArg some (by kernel_rfl))
  f343 := Tryd.func85.trans (congrArg some (by kernel_rfl))
  t0 := Tryd.underlying0
  a0 := Tryd.isAgg0
  z0 := Tryd.sizeOf0
  v0 := Tryd.zeroValue0
  t3 := Tryd.underlying3
  a3 := Tryd.isAgg3
  z3 := Tryd.sizeOf3
  v3 := Tryd.zeroValue3
  t4 := Tryd.underlying4
  a4 := Tryd.isAgg4
  z4 := Tryd.sizeOf4
  v4 := Tryd.zeroValue4
  t5 := Tryd.underlying5
  a5 := Tryd.isAgg5
  z5 := Tryd.sizeOf5
  v5 := Tryd.zeroValue5
  t9 := Tryd.underlying9
  a9 := Tryd.isAgg9
  z9 := Tryd.sizeOf9
  v9 := Tryd.zeroValue9
  t28 := Tryd.underlying46
  a28 := Tryd.isAgg46
  z28 := Tryd.sizeOf46
  v28 := Tryd.zeroValue46
  t46 := Tryd.underlying56
  a46 := Tryd.isAgg56
  z46 := Tryd.sizeOf56
  v46 := Tryd.zeroValue56
  t51 := Tryd.underlying75
  a51 := Tryd.isAgg75
  z51 := Tryd.sizeOf75
  v51 := Tryd.zeroValue75
  t53 := Tryd.underlying77
  a53 := Tryd.isAgg77
  z53 := Tryd.sizeOf77
  v53 := Tryd.zeroValue77
  t131 := Tryd.underlying125
  a131 := Tryd.isAgg125
  z131 := Tryd.sizeOf125
  v131 := Tryd.zeroValue125
  t182 := Tryd.underlying120
  a182 := Tryd.isAgg120
  z182 := Tryd.sizeOf120
  v182 := Tryd.zeroValue120
  t183 := Tryd.underlying121
  a183 := Tryd.isAgg121
  z183 := Tryd.sizeOf121
  v183 := Tryd.zeroValue121
  t218 := Tryd.underlying130
  a218 := Tryd.isAgg130
  z218 := Tryd.sizeOf130
  v218 := Tryd.zeroValue130
  t222 := Tryd.underlying134
  a222 := Tryd.isAgg134
  z222 := Tryd.sizeOf134
  v222 := Tryd.zeroValue134
  t228 := Tryd.underlying136
  a228 := Tryd.isAgg136
  z228 := Tryd.sizeOf136
  v228 := Tryd.zeroValue136
  t229 := Tryd.underlying137
  a229 := Tryd.isAgg137
  z229 := Tryd.sizeOf137
  v229 := Tryd.zeroValue137 }
theorem sort_w {w : World} {M : Hp} {X : Fr} {v : Value} {xs : List Int} (hsz : xs.length < 4611686018427387904) (S : SH w M X [Rs.row cdInt v xs]) :
    C1 Tryd.prog 43 [v] w M X fun u M' r' => u = .tuple #[] ∧ M' = M ∧ r' = Rs.row cdInt v (srt xs) := c1_sort srtL hsz S
end Go.Proofs.YtlmcnpbkmihjkaaDoor
namespace Go.Proofs.YtlmcnpbkmihjkaaDoor
open Go.ChangeShapes Go.WideShapes Go.ChangeAt Go.RowKit
/-- The crossing that lies across the arc at a crossing's side; the search for a piece; the pieces. -/
def nbC (d : Dg) (x k : Nat) : Nat := (endOf d (arcAt d x k) (entryB d x k)).1
def addS (s : List Bool × List Int) (y : Nat) : List Bool × List Int := if ga s.1 y = true then s else (s.1.set y true, s.2 ++ [(y : Int)])
def bfsS (d : Dg) (x : Nat) (s : List Bool × List Int) : Nat → List Bool × List Int
 | 0 => s
 | k + 1 => addS (bfsS d x s k) (nbC d x k)
def bfsN (d : Dg) : Nat → Nat → List Bool × List Int → List Bool × List Int
 | 0, _, s => s
 | f + 1, i, s => if i < s.2.length then bfsN d f (i + 1) (bfsS d (ga s.2 i).toNat s 4) else s
def pcsN (d : Dg) : Nat → List Bool × List (List Int)
 | 0 => (List.replicate d.crs.length false, [])
 | c + 1 => if ga (pcsN d c).1 c = true then pcsN d c else ((bfsN d d.crs.length 0 ((pcsN d c).1.set c true, [(c : Int)])).1, (pcsN d c).2 ++ [srt (bfsN d d.crs.length 0 ((pcsN d c).1.set c true, [(c : Int)])).2])
def pcsL (d : Dg) : List (List Int) := (pcsN d d.crs.length).2
theorem bfsN_stop {d : Dg} {f i : Nat} {s : List Bool × List Int} (h : s.2.length ≤ i) : bfsN d f i s = s := by
 cases f with
 | zero => rfl
 | succ f => rw [bfsN, if_neg (by omega)]
theorem bfsN_go {d : Dg} {f i x : Nat} {s s' : List Bool × List Int} (h : i < s.2.length) (hx : ga s.2 i = (x : Int)) (hs : bfsS d x s 4 = s') : bfsN d (f + 1) i s = bfsN d f (i + 1) s' := by
 rw [bfsN, if_pos h, hx, Int.toNat_natCast, hs]
theorem pcsN_skip {d : Dg} {c : Nat} {s : List Bool × List (List Int)} (h : pcsN d c = s) (hg : ga s.1 c = true) : pcsN d (c + 1) = s := by
 rw [pcsN, h, if_pos hg]
theorem pcsN_add {d : Dg} {c : Nat} {s : List Bool × List (List Int)} {r : List Bool × List Int} (h : pcsN d c = s) (hg : ga s.1 c = false) (hr : bfsN d d.crs.length 0 (s.1.set c true, [(c : Int)]) = r) : pcsN d (c + 1) = (r.1, s.2 ++ [srt r.2]) := by
 rw [pcsN, h, if_neg (by rw [hg]; exact Bool.false_ne_true), hr]
theorem bfsN_len (d : Dg) (f i : Nat) (s : List Bool × List Int) : (bfsN d f i s).1.length = s.1.length := by
 have h1 : ∀ x s k, (bfsS d x s k).1.length = s.1.length := fun x s k => by
  induction k with
  | zero => rfl
  | succ k ih => rw [bfsS, addS]; split <;> simp [ih]
 induction f generalizing i s with
 | zero => rfl
 | succ f ih => rw [bfsN]; split <;> simp [ih, h1]
theorem pcsN_len (d : Dg) (c : Nat) : (pcsN d c).1.length = d.crs.length := by
 induction c with
 | zero => simp [pcsN]
 | succ c ih => rw [pcsN]; split <;> simp [ih, bfsN_len]
theorem pcsN_many (d : Dg) (c : Nat) : (pcsN d c).2.length ≤ c := by
 induction c with
 | zero => simp [pcsN]
 | succ c ih => rw [pcsN]; split; exact Nat.le_succ_of_le ih; rw [List.length_append]; show _ + 1 ≤ _; omega
theorem nbC_lt {d : Dg} (h : arcsB d = true) {x k : Nat} (hx : x < d.crs.length) (hk : k < 4) : nbC d x k < d.crs.length := (endD h (arcAt_bd h hx hk) _).1
noncomputable def Pieces_n0 : Code := Tryd.f51.body.getD .skip
noncomputable def Pieces_n1 : Code := cL Pieces_n0
noncomputable def Pieces_n2 : Code := cR Pieces_n0
noncomputable def Pieces_n3 : Code := cL Pieces_n2
noncomputable def Pieces_n4 : Code := cR Pieces_n2
noncomputable def Pieces_n5 : Code := cL Pieces_n4
noncomputable def Pieces_n6 : Code := cR Pieces_n4
noncomputable def Pieces_n7 : Code := cL Pieces_n6
noncomputable def Pieces_n8 : Code := cR Pieces_n6
noncomputable def Pieces_n9 : Code := cL Pieces_n7
noncomputable def Pieces_n10 : Code := cR Pieces_n7
noncomputable def Pieces_n11 : Code := cL Pieces_n10
noncomputable def Pieces_n12 : Code := cL Pieces_n11
noncomputable def Pieces_n13 : Code := cL Pieces_n12
noncomputable def Pieces_n14 : Code := cR Pieces_n12
noncomputable def Pieces_n15 : Code := cL Pieces_n14
noncomputable def Pieces_n16 : Code := cR Pieces_n14
noncomputable def Pieces_n17 : Code := cL Pieces_n15
noncomputable def Pieces_n18 : Code := cR Pieces_n15
noncomputable def Pieces_n19 : Code := cL Pieces_n16
noncomputable def Pieces_n20 : Code := cR Pieces_n16
noncomputable def Pieces_n21 : Code := cL Pieces_n19
noncomputable def Pieces_n22 : Code := cL Pieces_n21
noncomputable def Pieces_n23 : Code := cR Pieces_n21
noncomputable def Pieces_n24 : Code := cL Pieces_n23
noncomputable def Pieces_n25 : Code := cR Pieces_n23
noncomputable def Pieces_n26 : Code := cL Pieces_n24
noncomputable def Pieces_n27 : Code := cR Pieces_n24
noncomputable def Pieces_n28 : Code := cL Pieces_n27
noncomputable def Pieces_n29 : Code := cR Pieces_n27
noncomputable def Pieces_n30 : Code := cL Pieces_n25
noncomputable def Pieces_n31 : Code := cR Pieces_n25
noncomputable def Pieces_n32 : Code := cL Pieces_n31
noncomputable def Pieces_n33 : Code := cR Pieces_n31
noncomputable def Pieces_n34 : Code := cL Pieces_n33
noncomputable def Pieces_n35 : Code := cR Pieces_n33
noncomputable def Pieces_n36 : Code := cL Pieces_n34
noncomputable def Pieces_n37 : Code := cR Pieces_n34
noncomputable def Pieces_n38 : Code := cL Pieces_n37
noncomputable def Pieces_n39 : Code := cL Pieces_n38
noncomputable def Pieces_n40 : Code := cL Pieces_n39
noncomputable def Pieces_n41 : Code := cR Pieces_n39
noncomputable def Pieces_n42 : Code := cL Pieces_n40
noncomputable def Pieces_n43 : Code := cR Pieces_n40
noncomputable def Pieces_n44 : Code := cL Pieces_n43
noncomputable def Pieces_n45 : Code := cR Pieces_n43
noncomputable def Pieces_n46 : Code := cL Pieces_n41
noncomputable def Pieces_n47 : Code := cR Pieces_n41
noncomputable def Pieces_n48 : Code := cL Pieces_n46
noncomputable def Pieces_n49 : Code := cL Pieces_n48
noncomputable def Pieces_n50 : Code := cR Pieces_n48
noncomputable def Pieces_n51 : Code := cL Pieces_n50
noncomputable def Pieces_n52 : Code := cL Pieces_n51
noncomputable def Pieces_n53 : Code := cL Pieces_n52
noncomputable def Pieces_n54 : Code := cR Pieces_n52
noncomputable def Pieces_n55 : Code := cL Pieces_n54
noncomputable def Pieces_n56 : Code := cR Pieces_n54
noncomputable def Pieces_n57 : Code := cL Pieces_n55
noncomputable def Pieces_n58 : Code := cR Pieces_n55
noncomputable def Pieces_n59 : Code := cL Pieces_n56
noncomputable def Pieces_n60 : Code := cR Pieces_n56
noncomputable def Pieces_n61 : Code := cL Pieces_n59
noncomputable def Pieces_n62 : Code := cL Pieces_n61
noncomputable def Pieces_n63 : Code := cR Pieces_n61
noncomputable def Pieces_n64 : Code := cL Pieces_n63
noncomputable def Pieces_n65 : Code := cR Pieces_n63
noncomputable def Pieces_n66 : Code := cL Pieces_n65
noncomputable def Pieces_n67 : Code := cR Pieces_n65
noncomputable def Pieces_n68 : Code := cL Pieces_n67
noncomputable def Pieces_n69 : Code := cR Pieces_n67
noncomputable def Pieces_n70 : Code := cL Pieces_n68
noncomputable def Pieces_n71 : Code := cR Pieces_n68
noncomputable def Pieces_n72 : Code := cL Pieces_n35
noncomputable def Pieces_n73 : Code := cR Pieces_n35
noncomputable def Pieces_n74 : Code := cL Pieces_n8
noncomputable def Pieces_n75 : Code := cR Pieces_n8
set_option maxHeartbeats 1000000 in
set_option maxRecDepth 10000 in
theorem Pieces_t {w : World} {M : Hp} {X : Fr} (d : Dg) {gsh : Nat} {cA iA oA : Option Addr} {cc ic oc : Nat} (hsb : BxM (M.un X.h) gsh 53 [.slice cA d.crs.length cc, .int .i64 d.loops, .slice iA (tabL d false (4 * d.crs.length)).length ic, .slice oA (tabL d true (4 * d.crs.length)).length oc]) (hsc : RdA cdCr (M.un X.h) cA cc d.crs) (hsi : RdA cdPl (M.un X.h) iA ic (tabL d false (4 * d.crs.length))) (hso : RdA cdPl (M.un X.h) oA oc (tabL d true (4 * d.crs.length))) (hn : d.crs.length ≤ 16) (hab : arcsB d = true) (S : SH w M X []) : Ct Tryd.prog 51 [.pointer (some ⟨gsh, 0, none⟩)] w M X (fun u M => ∃ A c vs, u = .slice A vs.length c ∧ RdA (cdV 46) M A c vs ∧ Rd2 cdInt M vs (pcsL d)) := by
 unfold Ct
 refine calls_in (b := Pieces_n0) Tryd.func51 rfl Tryd.ntmps51 rfl (fun C hC => ?_)
 refine ws_sub [(0, _)] ⟨rfl, trivial⟩ ?_
 refine ws_seqN Pieces_n1 Pieces_n2 rfl rfl rfl ?_
 refine ws_region rfl ?_
 refine wla 0 1 rfl rfl rfl rfl rfl rfl rfl ?_
 refine wl_end rfl ?_
 refine nm_sub [(0, _)] ⟨rfl, trivial⟩ ?_
 refine nm_thn ?_
 refine ws_seqN Pieces_n3 Pieces_n4 rfl rfl rfl ?_
 refine ws_region rfl ?_
 refine wlm 0 1 rfl rfl rfl rfl rfl rfl rfl ?_
 refine wlo 1 2 rfl rfl rfl (wo_run rfl rfl (run_nilCheck rfl rfl) ?_)
 refine wlo 2 3 rfl rfl rfl (wo_run rfl rfl (run_fieldAddr rfl rfl Tryd.underlying53 rfl (ce24) (nf24)) ?_)
 refine wlo 3 4 rfl rfl rfl (wo_run rfl rfl (run_fieldAddr rfl rfl Tryd.underlying24 rfl (ce22) (nf22)) ?_)
 refine wlo 4 5 rfl rfl rfl (wo_run rfl rfl (run_load1 rfl rfl Tryd.underlying22 rfl (hsb.cell S.um rfl)) ?_)
 refine wlo 5 6 rfl rfl rfl (wo_run rfl rfl (run_len rfl rfl rfl rfl rfl rfl Tryd.underlying22) ?_)
 refine wlo 6 7 rfl rfl rfl (wo_make (C := cdBool) d.crs.length rfl rfl rfl rfl rfl sl108 (by first | rfl | omega) (by show _ * 1 ≤ _; first | omega | (simp only [lens]; omega)) S ?_)
 intro vr1 w1 S1; clear S
 refine wla 7 8 rfl rfl rfl rfl rfl rfl rfl ?_
 refine wl_end rfl ?_
 refine nm_sub [(0, _), (3, _)] ⟨rfl, rfl, trivial⟩ ?_
 refine nm_thn ?_
 refine ws_seqN Pieces_n5 Pieces_n6 rfl rfl rfl ?_
 refine ws_region rfl ?_
 refine wla 0 1 rfl rfl rfl rfl rfl rfl rfl ?_
 refine wl_end rfl ?_
 refine nm_thn ?_
 refine ws_seqN Pieces_n7 Pieces_n8 rfl rfl rfl ?_
 refine ws_seqN Pieces_n9 Pieces_n10 rfl rfl rfl ?_
 refine ws_region rfl ?_
 refine wlm 0 1 rfl rfl rfl rfl rfl rfl rfl ?_
 refine wlo 1 2 rfl rfl rfl (wo_run rfl rfl (run_nilCheck rfl rfl) ?_)
 refine wlo 2 3 rfl rfl rfl (wo_run rfl rfl (run_fieldAddr rfl rfl Tryd.underlying53 rfl (ce24) (nf24)) ?_)
 refine wlo 3 4 rfl rfl rfl (wo_run rfl rfl (run_fieldAddr rfl rfl Tryd.underlying24 rfl (ce22) (nf22)) ?_)
 refine wlo 4 5 rfl rfl rfl (wo_run rfl rfl (run_load1 rfl rfl Tryd.underlying22 rfl (hsb.cell S1.um rfl)) ?_)
 refine wlo 5 6 rfl rfl rfl (wo_run rfl rfl (run_len rfl rfl rfl rfl rfl rfl Tryd.underlying22) ?_)
 refine wlm 6 7 rfl rfl rfl rfl rfl rfl rfl ?_
 refine wl_end rfl ?_
 refine nm_sub [(0, _), (3, _), (4, _), (22, _), (23, _)] ⟨rfl, rfl, rfl, rfl, rfl, trivial⟩ ?_
 refine nm_thn ?_
 refine ws_blockN Pieces_n11 0 rfl rfl rfl ?_
 have S2 := S1.nilrow (cdV 46); clear S1
 refine ws_loopE (fun mx_ ax_ wx_ => ∃ (c : Nat) (seen : List Bool) (vs : List SlV) (pss : List (List Int)) (vrs : Value) (vro : Value) (M1 : Hp), M.le M1 ∧ mx_ = d.crs.length - c ∧ Env 74 [(0, .pointer (some ⟨gsh, 0, none⟩)), (3, vrs), (4, vro), (22, .int .i64 (d.crs.length : Int)), (23, .int .i64 (c : Int))] ax_ ∧ SH wx_ M1 X [Rs.row (cdV 46) vro vs, Rs.row cdBool vrs seen] ∧ c ≤ d.crs.length ∧ pcsN d c = (seen, pss) ∧ Rd2 cdInt M1 vs pss) rfl ?_ ?_
 ·intro ax_ hax_
  refine ⟨_, ⟨0, _, _, [], _, _, _, Hp.le_refl _, rfl, hax_.sub ⟨rfl, rfl, rfl, rfl, rfl, trivial⟩, S2.pick [0, 1] [_, _] (by decide) ⟨rfl, rfl, trivial⟩, ?hq1f0, ?hq1f1, ?hq1f2⟩⟩
  case hq1f0 => omega
  case hq1f1 => rfl
  case hq1f2 => first | exact Rd2.nil_ | (rw [e9]; exact Rd2.nil_)
 ·rintro m1 a1 w2 ⟨c, seen, vs, pss, vrs, vro, M1, hle1, rfl, he1, S3, hc, hpn, hdo⟩
  clear S2
  refine ws_in he1 (c := Pieces_n12) rfl ?_
  clear he1 a1
  replace hsb := hsb.mono (Hp.un_mono hle1 S3.mx)
  replace hsc := hsc.mono (Hp.un_mono hle1 S3.mx)
  replace hsi := hsi.mono (Hp.un_mono hle1 S3.mx)
  replace hso := hso.mono (Hp.un_mono hle1 S3.mx)
  have hvs := hdo.1
  have hmany := pcsN_many d c
  rw [hpn] at hmany
  replace hmany : pss.length ≤ c := hmany
  have hsl : seen.length = d.crs.length := by have h9 := pcsN_len d c; rw [hpn] at h9; exact h9
  refine ws_seqN Pieces_n13 Pieces_n14 rfl rfl rfl ?_
  refine ws_region rfl ?_
  refine wlo 0 1 rfl rfl rfl (wo_run rfl rfl (run_lss rfl rfl rfl) ?_)
  refine wl_end rfl ?_
  refine nm_thn ?_
  refine ws_seqN Pieces_n15 Pieces_n16 rfl rfl rfl ?_
  refine ws_condN Pieces_n17 Pieces_n18 rfl rfl rfl rfl (fun hb24 => ?_) (fun hb24 => ?_)
  ·replace hb24 := of_decide_eq_true hb24
   refine ws_skip rfl ?_
   refine nm_sub [(0, _), (3, _), (4, _), (22, _), (23, _)] ⟨rfl, rfl, rfl, rfl, rfl, trivial⟩ ?_
   refine nm_thn ?_
   refine ws_seqN Pieces_n19 Pieces_n20 rfl rfl rfl ?_
   refine ws_blockN Pieces_n21 1 rfl rfl rfl ?_
   refine ws_seqN Pieces_n22 Pieces_n23 rfl rfl rfl ?_
   refine ws_region rfl ?_
   refine wlm 0 1 rfl rfl rfl rfl rfl rfl rfl ?_
   refine wla 1 2 rfl rfl rfl rfl rfl rfl rfl ?_
   refine wl_end rfl ?_
   refine nm_sub [(0, _), (3, _), (4, _), (22, _), (23, _), (5, _)] ⟨rfl, rfl, rfl, rfl, rfl, rfl, trivial⟩ ?_
   refine nm_thn ?_
   refine ws_seqN Pieces_n24 Pieces_n25 rfl rfl rfl ?_
   refine ws_seqN Pieces_n26 Pieces_n27 rfl rfl rfl ?_
   refine ws_region rfl ?_
   refine wlm 0 1 rfl rfl rfl rfl rfl rfl rfl ?_
   refine wlm 1 2 rfl rfl rfl rfl rfl rfl rfl ?_
   refine wlo 2 3 rfl rfl rfl (wo_run rfl rfl (run_indexR (C := cdBool) (i := 1) c rfl rfl rfl sl108 S3 rfl (by first | rfl | omega) (by first | omega | (simp only [lens]; omega))) ?_)
   refine wlo 3 4 rfl rfl rfl (wo_run rfl rfl (run_load1 rfl rfl Tryd.underlying4 rfl (S3.rowc (i := 1) (e := c) (j := 0) rfl (by first | omega | (simp only [lens]; omega)) rfl rfl)) ?_)
   refine wl_end rfl ?_
   refine nm_sub [(0, _), (3, _), (4, _), (22, _), (23, _), (5, _), (29, _)] ⟨rfl, rfl, rfl, rfl, rfl, rfl, rfl, trivial⟩ ?_
   refine nm_thn ?_
   refine ws_condN Pieces_n28 Pieces_n29 rfl rfl rfl rfl (fun hb29 => ?_) (fun hb29 => ?_)
   ·refine ws_exit rfl rfl ?_
    refine nm_sub [(0, _), (3, _), (4, _), (22, _), (23, _)] ⟨rfl, rfl, rfl, rfl, rfl, trivial⟩ ?_
    refine nm_thn ?_
    refine ws_region rfl ?_
    refine wlo 0 1 rfl rfl rfl (wo_run rfl rfl (run_add rfl rfl rfl (by first | omega | (simp only [lens]; omega))) ?_)
    refine wlm 1 2 rfl rfl rfl rfl rfl rfl rfl ?_
    refine wl_end rfl ?_
    refine nm_lp ?_
    intro ax_ hax_
    refine ⟨_, ?hq2m, ⟨c + 1, _, _, pss, _, _, _, (hle1), rfl, hax_.sub ⟨rfl, rfl, rfl, rfl, rfl, trivial⟩, S3.pick [0, 1] [_, _] (by decide) ⟨rfl, rfl, trivial⟩, ?hq2f0, ?hq2f1, ?hq2f2⟩⟩
    case hq2f0 => omega
    case hq2f1 => first | exact pcsN_skip hpn hb29 | exact pcsN_add hpn (by simpa using hb29) (hbf.trans (bfsN_stop (by show l.length ≤ i; omega)))
    case hq2f2 => first | exact hdo | (rw [e9]; exact hdo)
    case hq2m => omega
   ·refine ws_skip rfl ?_
    refine nm_sub [(0, _), (3, _), (4, _), (22, _), (23, _), (5, _)] ⟨rfl, rfl, rfl, rfl, rfl, rfl, trivial⟩ ?_
    refine nm_thn ?_
    refine ws_seqN Pieces_n30 Pieces_n31 rfl rfl rfl ?_
    refine ws_region rfl ?_
    refine wlm 0 1 rfl rfl rfl rfl rfl rfl rfl ?_
    refine wlm 1 2 rfl rfl rfl rfl rfl rfl rfl ?_
    refine wlo 2 3 rfl rfl rfl (wo_run rfl rfl (run_indexR (C := cdBool) (i := 1) c rfl rfl rfl sl108 S3 rfl (by first | rfl | omega) (by first | omega | (simp only [lens]; omega))) ?_)
    refine wlo 3 4 rfl rfl rfl (wo_storeR (C := cdBool) (i := 1) (e := c) (j := 0) (us := [_]) (H' := [_, _]) true rfl rfl S3 rfl (by first | omega | (simp only [lens]; omega)) rfl rfl rfl sz4 rfl rfl rfl rfl ?_)
    intro w3 S4; clear S3
    refine wl_end rfl ?_
    refine nm_sub [(0, _), (3, _), (4, _), (22, _), (23, _), (5, _)] ⟨rfl, rfl, rfl, rfl, rfl, rfl, trivial⟩ ?_
    refine nm_thn ?_
    refine ws_seqN Pieces_n32 Pieces_n33 rfl rfl rfl ?_
    refine ws_region rfl ?_
    refine wlm 0 1 rfl rfl rfl rfl rfl rfl rfl ?_
    refine wlo 1 2 rfl rfl rfl (wo_buildSlice1 (C := cdInt) (l := [_]) rfl rfl rfl rfl sl46 rfl rfl rfl rfl S4 ?_)
    intro gb1 w4 S5; clear S4
    refine wla 2 3 rfl rfl rfl rfl rfl rfl rfl ?_
    refine wl_end rfl ?_
    refine nm_sub [(0, _), (3, _), (4, _), (22, _), (23, _), (6, _)] ⟨rfl, rfl, rfl, rfl, rfl, rfl, trivial⟩ ?_
    refine nm_thn ?_
    refine ws_seqN Pieces_n34 Pieces_n35 rfl rfl rfl ?_
    refine ws_seqN Pieces_n36 Pieces_n37 rfl rfl rfl ?_
    refine ws_region rfl ?_
    refine wla 0 1 rfl rfl rfl rfl rfl rfl rfl ?_
    refine wl_end rfl ?_
    refine nm_thn ?_
    refine ws_blockN Pieces_n38 2 rfl rfl rfl ?_
    have S6 := S5.boxrow (C := cdInt) [(c : Int)] (i := 0) (H' := [_, _, _]) rfl rfl (by simp) rfl; clear S5
    obtain ⟨vr3, er3⟩ : ∃ v, v = Value.slice (some ⟨gb1, 0, none⟩) ([(c : Int)]).length ([(c : Int)]).length := ⟨_, rfl⟩
    rw [← er3] at S6
    refine ws_eq 6 (vr3) rfl er3.symm ?_
    refine ws_loopE (fun mx_ ax_ wx_ => ∃ (i : Nat) (seen2 : List Bool) (l : List Int) (vrs2 : Value) (vrl : Value), mx_ = d.crs.length - i ∧ Env 74 [(0, .pointer (some ⟨gsh, 0, none⟩)), (3, vrs2), (4, vro), (22, .int .i64 (d.crs.length : Int)), (23, .int .i64 (c : Int)), (6, vrl), (7, .int .i64 (i : Int))] ax_ ∧ SH wx_ M1 X [Rs.row cdInt vrl l, Rs.row (cdV 46) vro vs, Rs.row cdBool vrs2 seen2] ∧ bfsN d d.crs.length 0 (seen.set c true, [(c : Int)]) = bfsN d (d.crs.length - i) i (seen2, l) ∧ i ≤ l.length ∧ l.length + free seen2 ≤ d.crs.length ∧ (∀ y, y ∈ l → 0 ≤ y ∧ y < (d.crs.length : Int)) ∧ seen2.length = d.crs.length) rfl ?_ ?_
    ·intro ax_ hax_
     refine ⟨_, ⟨0, _, _, _, _, rfl, hax_.sub ⟨rfl, rfl, rfl, rfl, rfl, rfl, rfl, trivial⟩, S6.pick [0, 1, 2] [_, _, _] (by decide) ⟨rfl, rfl, rfl, trivial⟩, ?hq3f0, ?hq3f1, ?hq3f2, ?hq3f3, ?hq3f4⟩⟩
     case hq3f0 => rfl
     case hq3f1 => (exact Nat.zero_le _)
     case hq3f2 => (have h8 := free_set (seen := seen) (x := c) (by omega) (by simpa using hb29); have h9 : free seen ≤ seen.length := List.countP_le_length; show 1 + _ ≤ _; omega)
     case hq3f3 => (intro y hy; rw [List.mem_singleton] at hy; subst hy; omega)
     case hq3f4 => (rw [List.length_set]; exact hsl)
    ·rintro m2 a2 w5 ⟨i, seen2, l, vrs2, vrl, rfl, he2, S7, hbf, hi, hfr, hin, hs2⟩
     clear S6
     refine ws_in he2 (c := Pieces_n39) rfl ?_
     clear he2 a2
     refine ws_seqN Pieces_n40 Pieces_n41 rfl rfl rfl ?_
     refine ws_seqN Pieces_n42 Pieces_n43 rfl rfl rfl ?_
     refine ws_region rfl ?_
     refine wlm 0 1 rfl rfl rfl rfl rfl rfl rfl ?_
     refine wlm 1 2 rfl rfl rfl rfl rfl rfl rfl ?_
     refine wlo 2 3 rfl rfl rfl (wo_run rfl rfl (run_lenR (C := cdInt) (i := 0) rfl rfl rfl rfl rfl rfl sl46 S7 rfl) ?_)
     refine wlo 3 4 rfl rfl rfl (wo_run rfl rfl (run_lss rfl rfl rfl) ?_)
     refine wl_end rfl ?_
     refine nm_sub [(0, _), (3, _), (4, _), (22, _), (23, _), (6, _), (7, _), (38, _)] ⟨rfl, rfl, rfl, rfl, rfl, rfl, rfl, rfl, trivial⟩ ?_
     refine nm_thn ?_
     refine ws_condN Pieces_n44 Pieces_n45 rfl rfl rfl rfl (fun hb38 => ?_) (fun hb38 => ?_)
     ·replace hb38 := of_decide_eq_true hb38
      have hil : i < l.length := by omega
      have hxm := hin (ga l i) (by rw [ga_eq hil]; exact List.getElem_mem hil)
      obtain ⟨x, hx⟩ : ∃ x : Nat, ga l i = (x : Int) := ⟨(ga l i).toNat, by omega⟩
      have hxn : x < d.crs.length := by omega
      refine ws_skip rfl ?_
      refine nm_sub [(0, _), (3, _), (4, _), (22, _), (23, _), (6, _), (7, _)] ⟨rfl, rfl, rfl, rfl, rfl, rfl, rfl, trivial⟩ ?_
      refine nm_thn ?_
      refine ws_seqN Pieces_n46 Pieces_n47 rfl rfl rfl ?_
      refine ws_blockN Pieces_n48 3 rfl rfl rfl ?_
      refine ws_seqN Pieces_n49 Pieces_n50 rfl rfl rfl ?_
      refine ws_region rfl ?_
      refine wlm 0 1 rfl rfl rfl rfl rfl rfl rfl ?_
      refine wl_end rfl ?_
      refine nm_thn ?_
      refine ws_blockN Pieces_n51 4 rfl rfl rfl ?_
      refine ws_loopE (fun mx_ ax_ wx_ => ∃ (k : Nat) (seen3 : List Bool) (l3 : List Int) (vrs3 : Value) (vrl3 : Value), mx_ = 4 - k ∧ Env 74 [(0, .pointer (some ⟨gsh, 0, none⟩)), (3, vrs3), (4, vro), (22, .int .i64 (d.crs.length : Int)), (23, .int .i64 (c : Int)), (6, vrl3), (7, .int .i64 (i : Int)), (41, .int .i64 (k : Int))] ax_ ∧ SH wx_ M1 X [Rs.row cdInt vrl3 l3, Rs.row (cdV 46) vro vs, Rs.row cdBool vrs3 seen3] ∧ k ≤ 4 ∧ bfsS d x (seen2, l) k = (seen3, l3) ∧ l3.length + free seen3 ≤ d.crs.length ∧ (∀ y, y ∈ l3 → 0 ≤ y ∧ y < (d.crs.length : Int)) ∧ seen3.length = d.crs.length ∧ i < l3.length ∧ ga l3 i = (x : Int)) rfl ?_ ?_
      ·intro ax_ hax_
       refine ⟨_, ⟨0, _, _, _, _, rfl, hax_.sub ⟨rfl, rfl, rfl, rfl, rfl, rfl, rfl, rfl, trivial⟩, S7.pick [0, 1, 2] [_, _, _] (by decide) ⟨rfl, rfl, rfl, trivial⟩, ?hq4f0, ?hq4f1, ?hq4f2, ?hq4f3, ?hq4f4, ?hq4f5, ?hq4f6⟩⟩
       case hq4f0 => omega
       case hq4f1 => rfl
       case hq4f2 => exact hfr
       case hq4f3 => exact hin
       case hq4f4 => exact hs2
       case hq4f5 => omega
       case hq4f6 => exact hx
      ·rintro m3 a3 w6 ⟨k, seen3, l3, vrs3, vrl3, rfl, he3, S8, hk, hbs, hfr3, hin3, hs3, hi3, hx3⟩
       clear S7
       refine ws_in he3 (c := Pieces_n52) rfl ?_
       clear he3 a3
       refine ws_seqN Pieces_n53 Pieces_n54 rfl rfl rfl ?_
       refine ws_region rfl ?_
       refine wlo 0 1 rfl rfl rfl (wo_run rfl rfl (run_lss rfl rfl rfl) ?_)
       refine wl_end rfl ?_
       refine nm_thn ?_
       refine ws_seqN Pieces_n55 Pieces_n56 rfl rfl rfl ?_
       refine ws_condN Pieces_n57 Pieces_n58 rfl rfl rfl rfl (fun hb42 => ?_) (fun hb42 => ?_)
       ·replace hb42 := of_decide_eq_true hb42
        refine ws_skip rfl ?_
        refine nm_sub [(0, _), (3, _), (4, _), (22, _), (23, _), (6, _), (7, _), (41, _)] ⟨rfl, rfl, rfl, rfl, rfl, rfl, rfl, rfl, trivial⟩ ?_
        refine nm_thn ?_
        refine ws_seqN Pieces_n59 Pieces_n60 rfl rfl rfl ?_
        refine ws_blockN Pieces_n61 5 rfl rfl rfl ?_
        refine ws_seqN Pieces_n62 Pieces_n63 rfl rfl rfl ?_
        refine ws_region rfl ?_
        refine wlm 0 1 rfl rfl rfl rfl rfl rfl rfl ?_
        refine wla 1 2 rfl rfl rfl rfl rfl rfl rfl ?_
        refine wl_end rfl ?_
        refine nm_sub [(0, _), (3, _), (4, _), (22, _), (23, _), (6, _), (7, _), (41, _), (8, _)] ⟨rfl, rfl, rfl, rfl, rfl, rfl, rfl, rfl, rfl, trivial⟩ ?_
        refine nm_thn ?_
        refine ws_seqN Pieces_n64 Pieces_n65 rfl rfl rfl ?_
        refine ws_region rfl ?_
        refine wlm 0 1 rfl rfl rfl rfl rfl rfl rfl ?_
        refine wlm 1 2 rfl rfl rfl rfl rfl rfl rfl ?_
        refine wlm 2 3 rfl rfl rfl rfl rfl rfl rfl ?_
        refine wlo 3 4 rfl rfl rfl (wo_run rfl rfl (run_indexR (C := cdInt) (i := 0) i rfl rfl rfl sl46 S8 rfl (by first | rfl | omega) (by first | omega | (simp only [lens]; omega))) ?_)
        refine wlo 4 5 rfl rfl rfl (wo_run rfl rfl (run_load1 rfl rfl Tryd.underlying3 rfl (S8.rowc (i := 0) (e := i) (j := 0) rfl (by first | omega | (simp only [lens]; omega)) rfl rfl)) ?_)
        refine wl_eq 48 (.int .i64 (x : Int)) rfl (int_eq hx3) ?_
        have hnb := nbC_lt hab (k := k) hxn (by omega)
        refine wlm 5 6 rfl rfl rfl rfl rfl rfl rfl ?_
        refine wlo 6 7 rfl rfl rfl (wo_run rfl rfl (run_build (l := [_, _]) rfl rfl st102 rfl rfl) ?_)
        refine wlo 7 8 rfl rfl rfl (wo_cq rfl rfl rfl rfl rfl rfl rfl cf62 S8 (Other_q d x k (hsb.mono S8.un_XH) (hsc.mono S8.un_XH) (hsi.mono S8.un_XH) (hso.mono S8.un_XH) (by first | assumption | omega) hab (by omega) (by omega) S8.lend) ?_)
        rintro _ w7 S9 rfl; clear S8
        refine wlo 8 9 rfl rfl rfl (wo_run rfl rfl (run_field0 rfl rfl Tryd.underlying102 rfl Tryd.underlying3 rfl rfl) ?_)
        refine wla 9 10 rfl rfl rfl rfl rfl rfl rfl ?_
        refine wl_end rfl ?_
        refine nm_sub [(0, _), (3, _), (4, _), (22, _), (23, _), (6, _), (7, _), (41, _), (9, _)] ⟨rfl, rfl, rfl, rfl, rfl, rfl, rfl, rfl, rfl, trivial⟩ ?_
        refine nm_thn ?_
        refine ws_seqN Pieces_n66 Pieces_n67 rfl rfl rfl ?_
        refine ws_eq 9 (.int .i64 ((nbC d x k : Nat) : Int)) rfl (int_eq rfl) ?_
        refine ws_region rfl ?_
        refine wlm 0 1 rfl rfl rfl rfl rfl rfl rfl ?_
        refine wlm 1 2 rfl rfl rfl rfl rfl rfl rfl ?_
        refine wlo 2 3 rfl rfl rfl (wo_run rfl rfl (run_indexR (C := cdBool) (i := 2) (nbC d x k) rfl rfl rfl sl108 S9 rfl (by first | rfl | omega) (by first | omega | (simp only [lens]; omega))) ?_)
        refine wlo 3 4 rfl rfl rfl (wo_run rfl rfl (run_load1 rfl rfl Tryd.underlying4 rfl (S9.rowc (i := 2) (e := nbC d x k) (j := 0) rfl (by first | omega | (simp only [lens]; omega)) rfl rfl)) ?_)
        refine wlo 4 5 rfl rfl rfl (wo_run rfl rfl (run_not rfl rfl) ?_)
        refine wl_end rfl ?_
        refine nm_sub [(0, _), (3, _), (4, _), (22, _), (23, _), (6, _), (7, _), (41, _), (9, _), (57, _)] ⟨rfl, rfl, rfl, rfl, rfl, rfl, rfl, rfl, rfl, rfl, trivial⟩ ?_
        refine nm_thn ?_
        refine ws_condN Pieces_n68 Pieces_n69 rfl rfl rfl rfl (fun hb57 => ?_) (fun hb57 => ?_)
        ·simp only [Bool.and_eq_true, Bool.or_eq_true, Bool.and_eq_false_iff, Bool.or_eq_false_iff, decide_eq_true_eq, decide_eq_false_iff_not, Bool.not_eq_true', Bool.not_eq_false'] at hb57
         have hga : ga seen3 (nbC d x k) = false := by simpa using hb57
         have hfs := free_set (seen := seen3) (x := nbC d x k) (by omega) hga
         refine ws_seqN Pieces_n70 Pieces_n71 rfl rfl rfl ?_
         refine ws_region rfl ?_
         refine wlm 0 1 rfl rfl rfl rfl rfl rfl rfl ?_
         refine wlm 1 2 rfl rfl rfl rfl rfl rfl rfl ?_
         refine wlo 2 3 rfl rfl rfl (wo_run rfl rfl (run_indexR (C := cdBool) (i := 2) (nbC d x k) rfl rfl rfl sl108 S9 rfl (by first | rfl | omega) (by first | omega | (simp only [lens]; omega))) ?_)
         refine wlo 3 4 rfl rfl rfl (wo_storeR (C := cdBool) (i := 2) (e := nbC d x k) (j := 0) (us := [_]) (H' := [_, _, _]) true rfl rfl S9 rfl (by first | omega | (simp only [lens]; omega)) rfl rfl rfl sz4 rfl rfl rfl rfl ?_)
         intro w8 S10; clear S9
         refine wl_end rfl ?_
         refine nm_sub [(0, _), (3, _), (4, _), (22, _), (23, _), (6, _), (7, _), (41, _), (9, _)] ⟨rfl, rfl, rfl, rfl, rfl, rfl, rfl, rfl, rfl, trivial⟩ ?_
         refine nm_thn ?_
         refine ws_region rfl ?_
         refine wlm 0 1 rfl rfl rfl rfl rfl rfl rfl ?_
         refine wlm 1 2 rfl rfl rfl rfl rfl rfl rfl ?_
         refine wlo 2 3 rfl rfl rfl (wo_buildSlice1 (C := cdInt) (l := [_]) rfl rfl rfl rfl sl46 rfl rfl rfl rfl S10 ?_)
         intro gb2 w9 S11; clear S10
         refine wlo 3 4 rfl rfl rfl (wo_append1 (C := cdInt) (i := 1) (q := 0) ((nbC d x k : Nat) : Int) rfl rfl rfl rfl rfl rfl rfl rfl sl46 S11 rfl rfl rfl (by show (_ + 1) * 8 ≤ _; first | omega | (simp only [lens]; omega)) ?_)
         intro vrl1 w10 S12; clear S11
         have S13 := S12.pick [1, 2, 3] [_, _, _] (by decide) ⟨rfl, rfl, rfl, trivial⟩; clear S12
         refine wla 4 5 rfl rfl rfl rfl rfl rfl rfl ?_
         refine wl_end rfl ?_
         refine nm_blk ?_
         refine nm_sub [(0, _), (3, _), (4, _), (22, _), (23, _), (6, _), (7, _), (41, _)] ⟨rfl, rfl, rfl, rfl, rfl, rfl, rfl, rfl, trivial⟩ ?_
         refine nm_thn ?_
         refine ws_region rfl ?_
         refine wlo 0 1 rfl rfl rfl (wo_run rfl rfl (run_add rfl rfl rfl (by first | omega | (simp only [lens]; omega))) ?_)
         refine wlm 1 2 rfl rfl rfl rfl rfl rfl rfl ?_
         refine wl_end rfl ?_
         refine nm_lp ?_
         intro ax_ hax_
         refine ⟨_, ?hq5m, ⟨k + 1, _, _, _, _, rfl, hax_.sub ⟨rfl, rfl, rfl, rfl, rfl, rfl, rfl, rfl, trivial⟩, S13.pick [0, 1, 2] [_, _, _] (by decide) ⟨rfl, rfl, rfl, trivial⟩, ?hq5f0, ?hq5f1, ?hq5f2, ?hq5f3, ?hq5f4, ?hq5f5, ?hq5f6⟩⟩
         case hq5f0 => omega
         case hq5f1 => (show addS _ _ = _; rw [hbs, addS]; first | rw [if_pos (by assumption)] | rw [if_neg (by rw [hga]; exact Bool.false_ne_true)])
         case hq5f2 => first | exact hfr3 | (rw [List.length_append]; show _ + 1 + _ ≤ _; omega)
         case hq5f3 => first | exact hin3 | (intro y hy; rcases List.mem_append.1 hy with hy | hy; exact hin3 y hy; rw [List.mem_singleton] at hy; subst hy; omega)
         case hq5f4 => first | exact hs3 | (rw [List.length_set]; exact hs3)
         case hq5f5 => first | exact hi3 | (rw [List.length_append]; omega)
         case hq5f6 => first | exact hx3 | (rw [ga_append_left _ _ _ (by omega)]; exact hx3)
         case hq5m => omega
        ·simp only [Bool.and_eq_true, Bool.or_eq_true, Bool.and_eq_false_iff, Bool.or_eq_false_iff, decide_eq_true_eq, decide_eq_false_iff_not, Bool.not_eq_true', Bool.not_eq_false'] at hb57
         refine ws_skip rfl ?_
         refine nm_blk ?_
         refine nm_sub [(0, _), (3, _), (4, _), (22, _), (23, _), (6, _), (7, _), (41, _)] ⟨rfl, rfl, rfl, rfl, rfl, rfl, rfl, rfl, trivial⟩ ?_
         refine nm_thn ?_
         refine ws_region rfl ?_
         refine wlo 0 1 rfl rfl rfl (wo_run rfl rfl (run_add rfl rfl rfl (by first | omega | (simp only [lens]; omega))) ?_)
         refine wlm 1 2 rfl rfl rfl rfl rfl rfl rfl ?_
         refine wl_end rfl ?_
         refine nm_lp ?_
         intro ax_ hax_
         refine ⟨_, ?hq6m, ⟨k + 1, _, _, _, _, rfl, hax_.sub ⟨rfl, rfl, rfl, rfl, rfl, rfl, rfl, rfl, trivial⟩, S9.pick [0, 1, 2] [_, _, _] (by decide) ⟨rfl, rfl, rfl, trivial⟩, ?hq6f0, ?hq6f1, ?hq6f2, ?hq6f3, ?hq6f4, ?hq6f5, ?hq6f6⟩⟩
         case hq6f0 => omega
         case hq6f1 => (show addS _ _ = _; rw [hbs, addS]; first | rw [if_pos (by assumption)] | rw [if_neg (by rw [hga]; exact Bool.false_ne_true)])
         case hq6f2 => first | exact hfr3 | (rw [List.length_append]; show _ + 1 + _ ≤ _; omega)
         case hq6f3 => first | exact hin3 | (intro y hy; rcases List.mem_append.1 hy with hy | hy; exact hin3 y hy; rw [List.mem_singleton] at hy; subst hy; omega)
         case hq6f4 => first | exact hs3 | (rw [List.length_set]; exact hs3)
         case hq6f5 => first | exact hi3 | (rw [List.length_append]; omega)
         case hq6f6 => first | exact hx3 | (rw [ga_append_left _ _ _ (by omega)]; exact hx3)
         case hq6m => omega
       ·replace hb42 := of_decide_eq_false hb42
        refine ws_exit rfl rfl ?_
        refine nm_blk ?_
        refine nm_sub [(0, _), (3, _), (4, _), (22, _), (23, _), (6, _), (7, _)] ⟨rfl, rfl, rfl, rfl, rfl, rfl, rfl, trivial⟩ ?_
        refine nm_thn ?_
        refine ws_region rfl ?_
        refine wlm 0 1 rfl rfl rfl rfl rfl rfl rfl ?_
        refine wlo 1 2 rfl rfl rfl (wo_run rfl rfl (run_add rfl rfl rfl (by first | omega | (simp only [lens]; omega))) ?_)
        refine wla 2 3 rfl rfl rfl rfl rfl rfl rfl ?_
        refine wl_end rfl ?_
        refine nm_lp ?_
        intro ax_ hax_
        refine ⟨_, ?hq7m, ⟨i + 1, _, _, _, _, rfl, hax_.sub ⟨rfl, rfl, rfl, rfl, rfl, rfl, rfl, trivial⟩, S8.pick [0, 1, 2] [_, _, _] (by decide) ⟨rfl, rfl, rfl, trivial⟩, ?hq7f0, ?hq7f1, ?hq7f2, ?hq7f3, ?hq7f4⟩⟩
        case hq7f0 => (rw [hbf, show d.crs.length - i = (d.crs.length - (i + 1)) + 1 by omega]; exact bfsN_go (by show i < l.length; omega) hx (hbs ▸ (by rw [show k = 4 by omega])))
        case hq7f1 => omega
        case hq7f2 => omega
        case hq7f3 => exact hin3
        case hq7f4 => exact hs3
        case hq7m => omega
     ·replace hb38 := of_decide_eq_false hb38
      have hsr := srt_len l
      refine ws_exit rfl rfl ?_
      refine nm_sub [(0, _), (3, _), (4, _), (22, _), (23, _), (6, _)] ⟨rfl, rfl, rfl, rfl, rfl, rfl, trivial⟩ ?_
      refine nm_thn ?_
      refine ws_seqN Pieces_n72 Pieces_n73 rfl rfl rfl ?_
      refine ws_region rfl ?_
      refine wlm 0 1 rfl rfl rfl rfl rfl rfl rfl ?_
      refine wlo 1 2 rfl rfl rfl (wo_c1 rfl rfl rfl rfl rfl rfl rfl cf43 S7 (i := 0) rfl (sort_w (by omega) (S7.lend1 (i := 0) rfl)) ?_)
      rintro vw11 w11 _ _ - S14 ⟨rfl, rfl, rfl⟩; clear S7
      change SH _ _ _ [_, _, _] at S14
      refine wl_end rfl ?_
      refine nm_sub [(0, _), (3, _), (4, _), (22, _), (23, _), (6, _)] ⟨rfl, rfl, rfl, rfl, rfl, rfl, trivial⟩ ?_
      refine nm_thn ?_
      refine ws_region rfl ?_
      refine wlm 0 1 rfl rfl rfl rfl rfl rfl rfl ?_
      refine wlm 1 2 rfl rfl rfl rfl rfl rfl rfl ?_
      obtain ⟨M2, hle4, S15, ⟨A1, c1, e1, hr1⟩⟩ := S14.pubrow (i := 0) (H' := [_, _, _]) rfl rfl (by show _ * 8 ≤ _; first | omega | (simp only [lens]; omega))
      clear S14; subst e1
      replace hsb := hsb.mono (Hp.un_mono hle4 S15.mx)
      replace hsc := hsc.mono (Hp.un_mono hle4 S15.mx)
      replace hsi := hsi.mono (Hp.un_mono hle4 S15.mx)
      replace hso := hso.mono (Hp.un_mono hle4 S15.mx)
      replace hdo := hdo.mono hle4
      refine wlo 2 3 rfl rfl rfl (wo_buildSlice1 (C := (cdV 46)) (l := [_]) rfl rfl rfl rfl sl98 rfl rfl rfl rfl S15 ?_)
      intro gb3 w12 S16; clear S15
      refine wlo 3 4 rfl rfl rfl (wo_append1 (C := (cdV 46)) (i := 2) (q := 0) (⟨A1, (srt l).length, c1⟩ : SlV) rfl rfl rfl rfl rfl rfl rfl rfl sl98 S16 rfl rfl rfl (by show (_ + 1) * 24 ≤ _; first | omega | (simp only [lens]; omega)) ?_)
      intro vro1 w13 S17; clear S16
      have S18 := S17.pick [1, 2, 3] [_, _, _] (by decide) ⟨rfl, rfl, rfl, trivial⟩; clear S17
      have hd1 := hdo.snoc (c := c1) hr1
      refine wla 4 5 rfl rfl rfl rfl rfl rfl rfl ?_
      refine wl_end rfl ?_
      refine nm_blk ?_
      refine nm_sub [(0, _), (3, _), (4, _), (22, _), (23, _)] ⟨rfl, rfl, rfl, rfl, rfl, trivial⟩ ?_
      refine nm_thn ?_
      refine ws_region rfl ?_
      refine wlo 0 1 rfl rfl rfl (wo_run rfl rfl (run_add rfl rfl rfl (by first | omega | (simp only [lens]; omega))) ?_)
      refine wlm 1 2 rfl rfl rfl rfl rfl rfl rfl ?_
      refine wl_end rfl ?_
      refine nm_lp ?_
      intro ax_ hax_
      refine ⟨_, ?hq8m, ⟨c + 1, _, _, (pss ++ [srt l]), _, _, _, (hle1.trans hle4), rfl, hax_.sub ⟨rfl, rfl, rfl, rfl, rfl, trivial⟩, S18.pick [1, 2] [_, _] (by decide) ⟨rfl, rfl, trivial⟩, ?hq8f0, ?hq8f1, ?hq8f2⟩⟩
      case hq8f0 => omega
      case hq8f1 => first | exact pcsN_skip hpn hb29 | exact pcsN_add hpn (by simpa using hb29) (hbf.trans (bfsN_stop (by show l.length ≤ i; omega)))
      case hq8f2 => first | exact hd1 | (rw [e9]; exact hd1)
      case hq8m => omega
  ·replace hb24 := of_decide_eq_false hb24
   refine ws_exit rfl rfl ?_
   refine nm_sub [(4, _)] ⟨rfl, trivial⟩ ?_
   refine nm_thn ?_
   refine ws_seqN Pieces_n74 Pieces_n75 rfl rfl rfl ?_
   refine ws_region rfl ?_
   refine wlm 0 1 rfl rfl rfl rfl rfl rfl rfl ?_
   refine wla 1 2 rfl rfl rfl rfl rfl rfl rfl ?_
   refine wl_end rfl ?_
   refine nm_sub [(2, _)] ⟨rfl, trivial⟩ ?_
   refine nm_thn ?_
   obtain ⟨M3, hle5, S19, ⟨A2, c2, e2, hr2⟩⟩ := S3.pubrow (i := 0) (H' := [_, _]) rfl rfl (by show _ * 24 ≤ _; first | omega | (simp only [lens]; omega))
   clear S3; subst e2
   replace hsb := hsb.mono (Hp.un_mono hle5 S19.mx)
   replace hsc := hsc.mono (Hp.un_mono hle5 S19.mx)
   replace hsi := hsi.mono (Hp.un_mono hle5 S19.mx)
   replace hso := hso.mono (Hp.un_mono hle5 S19.mx)
   replace hdo := hdo.mono hle5
   refine ws_ret hC [_] rfl rfl ⟨rfl, trivial⟩ ?_
   refine ⟨_, rfl, _, hle1.trans hle5, (S19.pick [] [] (by decide) trivial), ?_⟩
   obtain rfl : c = d.crs.length := by omega
   have e2 : pcsL d = pss := by unfold pcsL; rw [hpn]
   rw [e2]
   exact ⟨_, _, _, rfl, hr2, hdo⟩
end Go.Proofs.YtlmcnpbkmihjkaaDoor
namespace Go.Proofs.YtlmcnpbkmihjkaaDoor
open Go.ChangeShapes Go.WideShapes Go.ChangeAt Go.RowKit
theorem gs_same {xs : List Bool} {i : Nat} {y : Bool} (h : i < xs.length) : ga (xs.set i y) i = y := by rw [ga_set _ _ _ _ h, if_pos rfl]
theorem gs_ne {xs : List Bool} {i j : Nat} {y : Bool} (h : i ≠ j) : ga (xs.set i y) j = ga xs j := by unfold ga; simp [List.getElem?_set, h]
/-- What the search for the pieces finds, in plain Lean. -/
inductive Rc (d : Dg) : Nat → Nat → Prop
 | refl (x : Nat) : Rc d x x
 | step {x y k : Nat} : Rc d x y → k < 4 → Rc d x (nbC d y k)
structure BI (d : Dg) (n : Nat) (s0 : List Bool) (c : Nat) (s : List Bool × List Int) : Prop where
 len : s.1.length = n
 see : ∀ x, x < n → (ga s.1 x = true ↔ (ga s0 x = true ∨ (x : Int) ∈ s.2))
 nod : s.2.Nodup
 el : ∀ y ∈ s.2, ∃ z : Nat, y = (z : Int) ∧ z < n ∧ ga s0 z = false ∧ Rc d c z
 room : s.2.length + free s.1 ≤ n
theorem addS_bi {d : Dg} {n : Nat} {s0 : List Bool} {c : Nat} {s : List Bool × List Int} (h : BI d n s0 c s) {y : Nat} (hy : y < n) (hr : Rc d c y) :
  BI d n s0 c (addS s y) ∧ (∃ t, (addS s y).2 = s.2 ++ t) ∧ ga (addS s y).1 y = true ∧ ∀ x, ga s.1 x = true → ga (addS s y).1 x = true := by
 unfold addS
 by_cases hg : ga s.1 y = true
 ·rw [if_pos hg]
  exact ⟨h, ⟨[], by simp⟩, hg, fun x hx => hx⟩
 ·rw [if_neg hg]
  have hlen := h.len
  have hf : ga s.1 y = false := by simpa using hg
  have hnot : ¬ (ga s0 y = true ∨ (y : Int) ∈ s.2) := fun hh => hg ((h.see y hy).2 hh)
  have hfr := free_set (seen := s.1) (x := y) (by omega) hf
  have hro := h.room
  refine ⟨⟨by simp [hlen], fun x hx => ?_, ?_, fun z hz => ?_, ?_⟩, ⟨[(y : Int)], rfl⟩, ?_, fun x hx => ?_⟩
  ·by_cases e : x = y
   ·subst e
    exact ⟨fun _ => .inr (by simp), fun _ => gs_same (by omega)⟩
   ·show ga (s.1.set y true) x = true ↔ _
    rw [gs_ne (show y ≠ x from fun e' => e e'.symm)]
    rw [h.see x hx, List.mem_append, List.mem_singleton]
    constructor
    ·rintro (h1 | h1)
     ·exact .inl h1
     ·exact .inr (.inl h1)
    ·rintro (h1 | h1 | h1)
     ·exact .inl h1
     ·exact .inr h1
     ·exact absurd (Int.ofNat.inj h1) e
  ·rw [List.nodup_append]
   refine ⟨h.nod, by simp, fun a ha b hb e => ?_⟩
   rw [List.mem_singleton] at hb
   subst hb; subst e
   exact hnot (.inr ha)
  ·rcases List.mem_append.1 hz with hz | hz
   ·exact h.el z hz
   ·rw [List.mem_singleton] at hz
    exact ⟨y, hz, hy, by have := fun e => hnot (.inl e); simpa using this, hr⟩
  ·show (s.2 ++ [(y : Int)]).length + free (s.1.set y true) ≤ n
   rw [List.length_append]
   show s.2.length + 1 + _ ≤ n
   omega
  ·exact gs_same (by omega)
  ·by_cases e : x = y
   ·subst e; exact gs_same (by omega)
   ·show ga (s.1.set y true) x = true
    rw [gs_ne (show y ≠ x from fun e' => e e'.symm)]; exact hx
theorem bfsS_bi {d : Dg} {s0 : List Bool} {c x : Nat} {s : List Bool × List Int} (hab : arcsB d = true) (h : BI d d.crs.length s0 c s) (hx : x < d.crs.length) (hr : Rc d c x) (k : Nat) (hk : k ≤ 4) :
  BI d d.crs.length s0 c (bfsS d x s k) ∧ (∃ t, (bfsS d x s k).2 = s.2 ++ t) ∧ (∀ j, j < k → ga (bfsS d x s k).1 (nbC d x j) = true) ∧ ∀ z, ga s.1 z = true → ga (bfsS d x s k).1 z = true := by
 induction k with
 | zero => exact ⟨h, ⟨[], by simp [bfsS]⟩, fun j hj => by omega, fun z hz => hz⟩
 | succ k ih =>
  obtain ⟨h1, ⟨t1, h2⟩, h3, h4⟩ := ih (by omega)
  obtain ⟨g1, ⟨t2, g2⟩, g3, g4⟩ := addS_bi h1 (nbC_lt hab hx (show k < 4 by omega)) (hr.step (show k < 4 by omega))
  refine ⟨g1, ⟨t1 ++ t2, ?_⟩, fun j hj => ?_, fun z hz => g4 z (h4 z hz)⟩
  ·show (addS _ _).2 = _
   rw [g2, h2, List.append_assoc]
  ·by_cases e : j = k
   ·subst e; exact g3
   ·exact g4 _ (h3 j (by omega))
theorem bfsN_bi {d : Dg} {s0 : List Bool} {c : Nat} (hab : arcsB d = true) : ∀ (f i : Nat) (s : List Bool × List Int), BI d d.crs.length s0 c s → d.crs.length ≤ i + f → i ≤ s.2.length → (∀ j, j < i → ∀ k, k < 4 → ga s.1 (nbC d (ga s.2 j).toNat k) = true) →
  BI d d.crs.length s0 c (bfsN d f i s) ∧ (∃ t, (bfsN d f i s).2 = s.2 ++ t) ∧ ∀ j, j < (bfsN d f i s).2.length → ∀ k, k < 4 → ga (bfsN d f i s).1 (nbC d (ga (bfsN d f i s).2 j).toNat k) = true := by
 intro f
 induction f with
 | zero =>
  intro i s h hf hi hp
  have := h.room
  exact ⟨h, ⟨[], by simp [bfsN]⟩, fun j hj => hp j (by have hj' : j < s.2.length := hj; omega)⟩
 | succ f ih =>
  intro i s h hf hi hp
  by_cases hlt : i < s.2.length
  ·rw [bfsN, if_pos hlt]
   obtain ⟨z, hz, hzn, _, hrz⟩ := h.el _ (ga_mem hlt)
   rw [hz, Int.toNat_natCast]
   obtain ⟨h1, ⟨t, h2⟩, h3, h4⟩ := bfsS_bi hab h hzn hrz 4 (Nat.le_refl _)
   obtain ⟨g1, ⟨t', g2⟩, g3⟩ := ih (i + 1) (bfsS d z s 4) h1 (by omega) (by rw [h2, List.length_append]; omega) (fun j hj k hk => by
    rw [h2, ga_append_left _ _ _ (by omega)]
    by_cases e : j = i
    ·subst e; rw [hz, Int.toNat_natCast]; exact h3 k hk
    ·exact h4 _ (hp j (by omega) k hk))
   exact ⟨g1, ⟨t ++ t', by rw [g2, h2, List.append_assoc]⟩, g3⟩
  ·rw [bfsN_stop (by omega)]
   exact ⟨h, ⟨[], by simp⟩, fun j hj => hp j (by omega)⟩
structure PcI (d : Dg) (c : Nat) (s : List Bool × List (List Int)) : Prop where
 see : ∀ x, x < d.crs.length → (ga s.1 x = true ↔ ∃ i, i < s.2.length ∧ (x : Int) ∈ ga s.2 i)
 cov : ∀ x, x < c → ga s.1 x = true
 el : ∀ i, i < s.2.length → (ga s.2 i).Nodup ∧ ∃ c0 : Nat, c0 < d.crs.length ∧ (c0 : Int) ∈ ga s.2 i ∧ ∀ y ∈ ga s.2 i, ∃ z : Nat, y = (z : Int) ∧ z < d.crs.length ∧ Rc d c0 z
 clo : ∀ i, i < s.2.length → ∀ z : Nat, (z : Int) ∈ ga s.2 i → ∀ k, k < 4 → ((nbC d z k : Nat) : Int) ∈ ga s.2 i
 dis : ∀ i j, i < s.2.length → j < s.2.length → ∀ y, y ∈ ga s.2 i → y ∈ ga s.2 j → i = j
theorem pcsN_pi {d : Dg} (hab : arcsB d = true) (hsym : ∀ x k, x < d.crs.length → k < 4 → ∃ k', k' < 4 ∧ nbC d (nbC d x k) k' = x) (c : Nat) (hc : c ≤ d.crs.length) : PcI d c (pcsN d c) := by
 induction c with
 | zero =>
  refine ⟨fun x hx => ?_, fun x hx => by omega, fun i hi => ?_, fun i hi => ?_, fun i j hi => ?_⟩
  ·simp only [pcsN]
   rw [ga_rep _ _ _ hx]
   constructor
   ·intro h; cases h
   ·rintro ⟨i, hi, _⟩; exact absurd hi (Nat.not_lt_zero _)
  all_goals exact absurd hi (Nat.not_lt_zero _)
 | succ c ih =>
  have I := ih (by omega)
  have hlen := pcsN_len d c
  generalize hs : pcsN d c = s at I hlen
  obtain ⟨seen, pss⟩ := s
  by_cases hg : ga seen c = true
  ·rw [pcsN_skip hs hg]
   exact ⟨I.see, fun x hx => by by_cases e : x = c; (subst e; exact hg); exact I.cov x (by omega), I.el, I.clo, I.dis⟩
  ·have hgf : ga seen c = false := by simpa using hg
   rw [pcsN_add hs hgf rfl]
   have hlen' : seen.length = d.crs.length := hlen
   have B0 : BI d d.crs.length seen c (seen.set c true, [(c : Int)]) := by
    have hfr := free_set (seen := seen) (x := c) (by omega) hgf
    have hfl : free seen ≤ seen.length := List.countP_le_length
    refine ⟨by simp [hlen'], fun x hx => ?_, by simp, fun y hy => ?_, by show 1 + free (seen.set c true) ≤ _; omega⟩
    ·by_cases e : x = c
     ·subst e; exact ⟨fun _ => .inr (by simp), fun _ => gs_same (by omega)⟩
     ·show ga (seen.set c true) x = true ↔ _
      rw [gs_ne (show c ≠ x from fun e' => e e'.symm)]
      constructor
      ·exact .inl
      ·rintro (h1 | h1)
       ·exact h1
       ·rw [List.mem_singleton] at h1; exact absurd (Int.ofNat.inj h1) e
    ·rw [List.mem_singleton] at hy; exact ⟨c, hy, by omega, hgf, .refl c⟩
   obtain ⟨B1, ⟨t, B2⟩, B3⟩ := bfsN_bi hab d.crs.length 0 _ B0 (by omega) (Nat.zero_le _) (fun j hj => by omega)
   generalize hr : bfsN d d.crs.length 0 (seen.set c true, [(c : Int)]) = r at B1 B2 B3 ⊢
   have hcm : (c : Int) ∈ r.2 := by rw [B2]; simp
   have hnew : ga (pss ++ [srt r.2]) pss.length = srt r.2 := by rw [ga_append_right _ _ _ (Nat.le_refl _), Nat.sub_self]; rfl
   have hold : ∀ i, i < pss.length → ga (pss ++ [srt r.2]) i = ga pss i := fun i hi => ga_append_left _ _ _ hi
   have hL : (pss ++ [srt r.2]).length = pss.length + 1 := by simp
   have hcl : ∀ z : Nat, (z : Int) ∈ r.2 → ∀ k, k < 4 → ((nbC d z k : Nat) : Int) ∈ r.2 := fun z hz k hk => by
    obtain ⟨j, hj, ej⟩ := List.mem_iff_getElem.1 hz
    have h1 := B3 j hj k hk
    rw [ga_eq hj, ej, Int.toNat_natCast] at h1
    obtain ⟨z', e', hzn, hz0, _⟩ := B1.el _ hz
    obtain rfl : z = z' := by omega
    have hnl := nbC_lt hab hzn hk
    rcases (B1.see _ hnl).1 h1 with h2 | h2
    ·exfalso
     obtain ⟨i, hi, hm⟩ := (I.see _ hnl).1 h2
     obtain ⟨k', hk', e2⟩ := hsym z k hzn hk
     have h3 := I.clo i hi _ hm k' hk'
     rw [e2] at h3
     have h4 := (I.see z hzn).2 ⟨i, hi, h3⟩
     have h5 : ga seen z = true := h4
     rw [hz0] at h5; cases h5
    ·exact h2
   refine ⟨fun x hx => ?_, fun x hx => ?_, fun i hi => ?_, fun i hi => ?_, fun i j hi hj y hy hy' => ?_⟩
   ·show ga r.1 x = true ↔ ∃ i, i < (pss ++ [srt r.2]).length ∧ (x : Int) ∈ ga (pss ++ [srt r.2]) i
    rw [B1.see x hx]
    have hI : ga seen x = true ↔ ∃ i, i < pss.length ∧ (x : Int) ∈ ga pss i := I.see x hx
    rw [hI]
    constructor
    ·rintro (⟨i, hi, hm⟩ | hm)
     ·exact ⟨i, by omega, by rw [hold i hi]; exact hm⟩
     ·exact ⟨pss.length, by omega, by rw [hnew]; exact srt_mem.2 hm⟩
    ·rintro ⟨i, hi, hm⟩
     by_cases e : i < pss.length
     ·rw [hold i e] at hm; exact .inl ⟨i, e, hm⟩
     ·obtain rfl : i = pss.length := by omega
      rw [hnew] at hm; exact .inr (srt_mem.1 hm)
   ·show ga r.1 x = true
    rw [B1.see x (by omega)]
    by_cases e : x = c
    ·subst e; exact .inr hcm
    ·exact .inl (I.cov x (by omega))
   ·show (ga (pss ++ [srt r.2]) i).Nodup ∧ ∃ c0 : Nat, c0 < d.crs.length ∧ (c0 : Int) ∈ ga (pss ++ [srt r.2]) i ∧ ∀ y ∈ ga (pss ++ [srt r.2]) i, _
    have hi' : i < (pss ++ [srt r.2]).length := hi
    by_cases e : i < pss.length
    ·rw [hold i e]; exact I.el i e
    ·obtain rfl : i = pss.length := by omega
     rw [hnew]
     refine ⟨(srt_perm r.2).nodup_iff.2 B1.nod, c, by omega, srt_mem.2 hcm, fun y hy => ?_⟩
     obtain ⟨z, h1, h2, _, h3⟩ := B1.el y (srt_mem.1 hy)
     exact ⟨z, h1, h2, h3⟩
   ·show ∀ z : Nat, (z : Int) ∈ ga (pss ++ [srt r.2]) i → ∀ k, k < 4 → ((nbC d z k : Nat) : Int) ∈ ga (pss ++ [srt r.2]) i
    have hi' : i < (pss ++ [srt r.2]).length := hi
    by_cases e : i < pss.length
    ·rw [hold i e]; exact I.clo i e
    ·obtain rfl : i = pss.length := by omega
     rw [hnew]
     intro z hz k hk
     exact srt_mem.2 (hcl z (srt_mem.1 hz) k hk)
   ·have hi' : i < (pss ++ [srt r.2]).length := hi
    have hj' : j < (pss ++ [srt r.2]).length := hj
    have hy1 : y ∈ ga (pss ++ [srt r.2]) i := hy
    have hy2 : y ∈ ga (pss ++ [srt r.2]) j := hy'
    have key : ∀ i, i < pss.length → y ∈ ga pss i → y ∈ r.2 → False := fun i hi h1 h2 => by
     obtain ⟨z, rfl, hzn, hz0, _⟩ := B1.el y h2
     have h5 : ga seen z = true := (I.see z hzn).2 ⟨i, hi, h1⟩
     rw [hz0] at h5; cases h5
    by_cases e : i < pss.length
    ·rw [hold i e] at hy1
     by_cases e' : j < pss.length
     ·rw [hold j e'] at hy2; exact I.dis i j e e' y hy1 hy2
     ·obtain rfl : j = pss.length := by omega
      rw [hnew] at hy2
      exact (key i e hy1 (srt_mem.1 hy2)).elim
    ·obtain rfl : i = pss.length := by omega
     rw [hnew] at hy1
     by_cases e' : j < pss.length
     ·rw [hold j e'] at hy2
      exact (key j e' hy2 (srt_mem.1 hy1)).elim
     ·omega
end Go.Proofs.YtlmcnpbkmihjkaaDoor
