/- Walks printed by eng.py. -/
import Derived.Test.YtlbpgnimpcflaaaF6
set_option linter.unusedSimpArgs false
set_option linter.unusedVariables false
namespace Go.Proofs.Ytlbpgnimpcflaaa
open Go.ChangeShapes Go.WideShapes Go.ChangeAt Go.RowKit
/-- The labels of the pieces: one arc's step, a round, so many rounds. -/
def stepW (ws : List Int) (x y : Nat) : List Int := if ga ws x < ga ws y then ws.set y (ga ws x) else ws.set x (ga ws y)
def iniW (n : Nat) : Nat → List Int
  | 0 => List.replicate n 0
  | k + 1 => (iniW n k).set k (k : Int)
def endC (d : Dg) (k : Nat) (b : Bool) : Nat := (endOf d ((k + 1 : Nat) : Int) b).1
def roundW (d : Dg) (ws : List Int) : Nat → List Int
  | 0 => ws
  | k + 1 => stepW (roundW d ws k) (endC d k false) (endC d k true)
def rndsW (d : Dg) : Nat → List Int
  | 0 => iniW d.crs.length d.crs.length
  | j + 1 => roundW d (rndsW d j) (2 * d.crs.length)
def whoL (d : Dg) : List Int := rndsW d d.crs.length
theorem stepW_len (ws : List Int) (x y : Nat) : (stepW ws x y).length = ws.length := by
  unfold stepW
  split <;> rw [List.length_set]
theorem iniW_len (n k : Nat) : (iniW n k).length = n := by
  induction k with
  | zero => exact List.length_replicate
  | succ k ih => rw [iniW, List.length_set, ih]
theorem roundW_len (d : Dg) (ws : List Int) (k : Nat) : (roundW d ws k).length = ws.length := by
  induction k with
  | zero => rfl
  | succ k ih => rw [roundW, stepW_len, ih]
theorem rndsW_len (d : Dg) (j : Nat) : (rndsW d j).length = d.crs.length := by
  induction j with
  | zero => exact iniW_len _ _
  | succ j ih => rw [rndsW, roundW_len, ih]
theorem endC_lt {d : Dg} (h : arcsB d = true) {k : Nat} (hk : k < 2 * d.crs.length) (b : Bool) : endC d k b < d.crs.length := (endD h (a := ((k + 1 : Nat) : Int)) (by omega) b).1

noncomputable def PiecesOf_n0 : Code := Try.f70.body.getD .skip
noncomputable def PiecesOf_n1 : Code := cL PiecesOf_n0
noncomputable def PiecesOf_n2 : Code := cR PiecesOf_n0
noncomputable def PiecesOf_n3 : Code := cL PiecesOf_n2
noncomputable def PiecesOf_n4 : Code := cR PiecesOf_n2
noncomputable def PiecesOf_n5 : Code := cL PiecesOf_n4
noncomputable def PiecesOf_n6 : Code := cR PiecesOf_n4
noncomputable def PiecesOf_n7 : Code := cL PiecesOf_n6
noncomputable def PiecesOf_n8 : Code := cR PiecesOf_n6
noncomputable def PiecesOf_n9 : Code := cL PiecesOf_n7
noncomputable def PiecesOf_n10 : Code := cR PiecesOf_n7
noncomputable def PiecesOf_n11 : Code := cL PiecesOf_n10
noncomputable def PiecesOf_n12 : Code := cL PiecesOf_n11
noncomputable def PiecesOf_n13 : Code := cL PiecesOf_n12
noncomputable def PiecesOf_n14 : Code := cR PiecesOf_n12
noncomputable def PiecesOf_n15 : Code := cL PiecesOf_n13
noncomputable def PiecesOf_n16 : Code := cR PiecesOf_n13
noncomputable def PiecesOf_n17 : Code := cL PiecesOf_n16
noncomputable def PiecesOf_n18 : Code := cR PiecesOf_n16
noncomputable def PiecesOf_n19 : Code := cL PiecesOf_n14
noncomputable def PiecesOf_n20 : Code := cR PiecesOf_n14
noncomputable def PiecesOf_n21 : Code := cL PiecesOf_n19
noncomputable def PiecesOf_n22 : Code := cL PiecesOf_n8
noncomputable def PiecesOf_n23 : Code := cR PiecesOf_n8
noncomputable def PiecesOf_n24 : Code := cL PiecesOf_n22
noncomputable def PiecesOf_n25 : Code := cR PiecesOf_n22
noncomputable def PiecesOf_n26 : Code := cL PiecesOf_n25
noncomputable def PiecesOf_n27 : Code := cL PiecesOf_n26
noncomputable def PiecesOf_n28 : Code := cL PiecesOf_n27
noncomputable def PiecesOf_n29 : Code := cR PiecesOf_n27
noncomputable def PiecesOf_n30 : Code := cL PiecesOf_n28
noncomputable def PiecesOf_n31 : Code := cR PiecesOf_n28
noncomputable def PiecesOf_n32 : Code := cL PiecesOf_n31
noncomputable def PiecesOf_n33 : Code := cR PiecesOf_n31
noncomputable def PiecesOf_n34 : Code := cL PiecesOf_n29
noncomputable def PiecesOf_n35 : Code := cR PiecesOf_n29
noncomputable def PiecesOf_n36 : Code := cL PiecesOf_n34
noncomputable def PiecesOf_n37 : Code := cL PiecesOf_n36
noncomputable def PiecesOf_n38 : Code := cR PiecesOf_n36
noncomputable def PiecesOf_n39 : Code := cL PiecesOf_n38
noncomputable def PiecesOf_n40 : Code := cL PiecesOf_n39
noncomputable def PiecesOf_n41 : Code := cL PiecesOf_n40
noncomputable def PiecesOf_n42 : Code := cR PiecesOf_n40
noncomputable def PiecesOf_n43 : Code := cL PiecesOf_n41
noncomputable def PiecesOf_n44 : Code := cR PiecesOf_n41
noncomputable def PiecesOf_n45 : Code := cL PiecesOf_n44
noncomputable def PiecesOf_n46 : Code := cR PiecesOf_n44
noncomputable def PiecesOf_n47 : Code := cL PiecesOf_n42
noncomputable def PiecesOf_n48 : Code := cR PiecesOf_n42
noncomputable def PiecesOf_n49 : Code := cL PiecesOf_n47
noncomputable def PiecesOf_n50 : Code := cL PiecesOf_n49
noncomputable def PiecesOf_n51 : Code := cR PiecesOf_n49
noncomputable def PiecesOf_n52 : Code := cL PiecesOf_n51
noncomputable def PiecesOf_n53 : Code := cR PiecesOf_n51
noncomputable def PiecesOf_n54 : Code := cL PiecesOf_n53
noncomputable def PiecesOf_n55 : Code := cR PiecesOf_n53
noncomputable def PiecesOf_n56 : Code := cL PiecesOf_n23
noncomputable def PiecesOf_n57 : Code := cR PiecesOf_n23
set_option maxHeartbeats 1000000 in
set_option maxRecDepth 10000 in
theorem PiecesOf_t {w : World} {M : Hp} {X : Fr} (d : Dg) {dcrsA : Option Addr} {dcrsc : Nat} (hdcrs : RdA cdCr (M.un X.h) dcrsA dcrsc d.crs) (hn : d.crs.length ≤ 16) (hab : arcsB d = true) (S : SH w M X []) : Ct Try.prog 70 [.agg [.slice dcrsA d.crs.length dcrsc, .int .i64 d.loops].toArray] w M X (fun u M => ∃ A c, u = .slice A (whoL d).length c ∧ RdA cdInt M A c (whoL d)) := by
  unfold Ct
  have rmhdcrs : d.crs.length * 40 ≤ 140737488355328 := hdcrs.room
  refine calls_in (b := PiecesOf_n0) Try.func70 rfl Try.ntmps70 rfl (fun C hC => ?_)
  refine ws_sub [(0, _)] ⟨rfl, trivial⟩ ?_
  refine ws_seqN PiecesOf_n1 PiecesOf_n2 rfl rfl rfl ?_
  refine ws_region rfl ?_
  refine wl_op (k := 0) (k' := 1) rfl rfl rfl (wo_box (l := [_, _]) rfl rfl rfl rfl rfl S ?_)
  intro gb1 w1 S1; clear S
  refine wl_op (k := 1) (k' := 2) rfl rfl rfl (wo_run rfl rfl (run_assign rfl rfl) ?_)
  refine wl_end rfl ?_
  refine nm_sub [(1, _)] ⟨rfl, trivial⟩ ?_
  refine nm_thn ?_
  refine ws_seqN PiecesOf_n3 PiecesOf_n4 rfl rfl rfl ?_
  refine ws_region rfl ?_
  refine wl_op (k := 0) (k' := 1) rfl rfl rfl (wo_run rfl rfl (run_fieldAddr rfl rfl Try.underlying27 rfl (ce25) (nf25)) ?_)
  refine wl_op (k := 1) (k' := 2) rfl rfl rfl (wo_run rfl rfl (run_load1 rfl rfl Try.underlying25 rfl (S1.boxc (i := 0) rfl rfl)) ?_)
  refine wl_op (k := 2) (k' := 3) rfl rfl rfl (wo_run rfl rfl (run_len rfl rfl rfl rfl rfl rfl Try.underlying25) ?_)
  refine wl_op (k := 3) (k' := 4) rfl rfl rfl (wo_run rfl rfl (run_assign rfl rfl) ?_)
  refine wl_end rfl ?_
  refine nm_sub [(1, _), (3, _)] ⟨rfl, rfl, trivial⟩ ?_
  refine nm_thn ?_
  refine ws_seqN PiecesOf_n5 PiecesOf_n6 rfl rfl rfl ?_
  refine ws_region rfl ?_
  refine wl_op (k := 0) (k' := 1) rfl rfl rfl (wo_run rfl rfl (run_move rfl rfl) ?_)
  refine wl_op (k := 1) (k' := 2) rfl rfl rfl (wo_make (C := cdInt) d.crs.length rfl rfl rfl rfl rfl sl44 (by first | rfl | omega) (by show _ * 8 ≤ _; first | omega | (simp only [List.length_set, List.length_append, List.length_replicate, List.length_singleton, List.length_cons, List.length_nil]; omega)) S1 ?_)
  intro vr1 w2 S2; clear S1
  refine wl_op (k := 2) (k' := 3) rfl rfl rfl (wo_run rfl rfl (run_assign rfl rfl) ?_)
  refine wl_end rfl ?_
  refine nm_sub [(1, _), (3, _), (4, _)] ⟨rfl, rfl, rfl, trivial⟩ ?_
  refine nm_thn ?_
  refine ws_seqN PiecesOf_n7 PiecesOf_n8 rfl rfl rfl ?_
  refine ws_seqN PiecesOf_n9 PiecesOf_n10 rfl rfl rfl ?_
  refine ws_region rfl ?_
  refine wl_op (k := 0) (k' := 1) rfl rfl rfl (wo_run rfl rfl (run_assign rfl rfl) ?_)
  refine wl_end rfl ?_
  refine nm_thn ?_
  refine ws_blockN PiecesOf_n11 0 rfl rfl rfl ?_
  refine ws_loopE (fun mx_ ax_ wx_ => ∃ (i : Nat) (ws : List Int) (vrw : Value), mx_ = d.crs.length - i ∧ Env 67 [(1, .pointer (some ⟨gb1, 0, none⟩)), (3, .int .i64 (d.crs.length : Int)), (4, vrw), (5, .int .i64 (i : Int))] ax_ ∧ SH wx_ M X [Rs.row cdInt vrw ws, Rs.box gb1 27 [.slice dcrsA d.crs.length dcrsc, .int .i64 d.loops]] ∧ i ≤ d.crs.length ∧ ws = iniW d.crs.length i) rfl ?_ ?_
  · intro ax_ hax_
    refine ⟨_, ⟨0, _, _, rfl, hax_.sub ⟨rfl, rfl, rfl, rfl, trivial⟩, S2.pick [0, 1] [_, _] (by decide) ⟨rfl, rfl, trivial⟩, ?hq1f0, ?hq1f1⟩⟩
    case hq1f0 => omega
    case hq1f1 => rfl
  · rintro m1 a1 w3 ⟨i, ws, vrw, rfl, he1, S3, hi, hw⟩
    clear S2
    refine ws_in he1 (c := PiecesOf_n12) rfl ?_
    clear he1 a1
    have hl1 : ws.length = d.crs.length := by rw [hw, iniW_len]
    refine ws_seqN PiecesOf_n13 PiecesOf_n14 rfl rfl rfl ?_
    refine ws_seqN PiecesOf_n15 PiecesOf_n16 rfl rfl rfl ?_
    refine ws_region rfl ?_
    refine wl_op (k := 0) (k' := 1) rfl rfl rfl (wo_run rfl rfl (run_move rfl rfl) ?_)
    refine wl_op (k := 1) (k' := 2) rfl rfl rfl (wo_run rfl rfl (run_move rfl rfl) ?_)
    refine wl_op (k := 2) (k' := 3) rfl rfl rfl (wo_run rfl rfl (run_lss rfl rfl rfl) ?_)
    refine wl_end rfl ?_
    refine nm_sub [(1, _), (3, _), (4, _), (5, _), (17, _)] ⟨rfl, rfl, rfl, rfl, rfl, trivial⟩ ?_
    refine nm_thn ?_
    refine ws_condN PiecesOf_n17 PiecesOf_n18 rfl rfl rfl rfl (fun hb17 => ?_) (fun hb17 => ?_)
    · have hb17 := of_decide_eq_true hb17
      refine ws_skip rfl ?_
      refine nm_sub [(1, _), (3, _), (4, _), (5, _)] ⟨rfl, rfl, rfl, rfl, trivial⟩ ?_
      refine nm_thn ?_
      refine ws_seqN PiecesOf_n19 PiecesOf_n20 rfl rfl rfl ?_
      refine ws_blockN PiecesOf_n21 1 rfl rfl rfl ?_
      refine ws_region rfl ?_
      refine wl_op (k := 0) (k' := 1) rfl rfl rfl (wo_run rfl rfl (run_move rfl rfl) ?_)
      refine wl_op (k := 1) (k' := 2) rfl rfl rfl (wo_run rfl rfl (run_move rfl rfl) ?_)
      refine wl_op (k := 2) (k' := 3) rfl rfl rfl (wo_run rfl rfl (run_move rfl rfl) ?_)
      refine wl_op (k := 3) (k' := 4) rfl rfl rfl (wo_run rfl rfl (run_indexR (C := cdInt) (i := 0) i rfl rfl rfl sl44 S3 rfl (by first | rfl | omega) (by first | omega | (simp only [List.length_set, List.length_append, List.length_replicate, List.length_singleton, List.length_cons, List.length_nil]; omega))) ?_)
      refine wl_op (k := 4) (k' := 5) rfl rfl rfl (wo_storeR (C := cdInt) (i := 0) (e := i) (j := 0) (us := [_]) (H' := [_, _]) (i : Int) rfl rfl S3 rfl (by first | omega | (simp only [List.length_set, List.length_append, List.length_replicate, List.length_singleton, List.length_cons, List.length_nil]; omega)) rfl rfl rfl sz3 rfl rfl rfl rfl ?_)
      intro w4 S4; clear S3
      refine wl_end rfl ?_
      refine nm_blk ?_
      refine nm_sub [(1, _), (3, _), (4, _), (5, _)] ⟨rfl, rfl, rfl, rfl, trivial⟩ ?_
      refine nm_thn ?_
      refine ws_region rfl ?_
      refine wl_op (k := 0) (k' := 1) rfl rfl rfl (wo_run rfl rfl (run_move rfl rfl) ?_)
      refine wl_op (k := 1) (k' := 2) rfl rfl rfl (wo_run rfl rfl (run_add rfl rfl rfl (by first | omega | (simp only [List.length_set, List.length_append, List.length_replicate, List.length_singleton, List.length_cons, List.length_nil]; omega))) ?_)
      refine wl_op (k := 2) (k' := 3) rfl rfl rfl (wo_run rfl rfl (run_assign rfl rfl) ?_)
      refine wl_end rfl ?_
      refine nm_lp ?_
      intro ax_ hax_
      refine ⟨_, ?hq2m, ⟨i + 1, _, _, rfl, hax_.sub ⟨rfl, rfl, rfl, rfl, trivial⟩, S4.pick [0, 1] [_, _] (by decide) ⟨rfl, rfl, trivial⟩, ?hq2f0, ?hq2f1⟩⟩
      case hq2f0 => omega
      case hq2f1 => (rw [hw]; rfl)
      case hq2m => omega
    · have hb17 := of_decide_eq_false hb17
      refine ws_exit rfl rfl ?_
      refine nm_sub [(1, _), (3, _), (4, _)] ⟨rfl, rfl, rfl, trivial⟩ ?_
      refine nm_thn ?_
      refine ws_seqN PiecesOf_n22 PiecesOf_n23 rfl rfl rfl ?_
      refine ws_seqN PiecesOf_n24 PiecesOf_n25 rfl rfl rfl ?_
      refine ws_region rfl ?_
      refine wl_op (k := 0) (k' := 1) rfl rfl rfl (wo_run rfl rfl (run_assign rfl rfl) ?_)
      refine wl_end rfl ?_
      refine nm_thn ?_
      refine ws_blockN PiecesOf_n26 2 rfl rfl rfl ?_
      refine ws_loopE (fun mx_ ax_ wx_ => ∃ (j : Nat) (ws2 : List Int) (vrw2 : Value), mx_ = d.crs.length - j ∧ Env 67 [(1, .pointer (some ⟨gb1, 0, none⟩)), (3, .int .i64 (d.crs.length : Int)), (4, vrw2), (6, .int .i64 (j : Int))] ax_ ∧ SH wx_ M X [Rs.row cdInt vrw2 ws2, Rs.box gb1 27 [.slice dcrsA d.crs.length dcrsc, .int .i64 d.loops]] ∧ j ≤ d.crs.length ∧ ws2 = rndsW d j) rfl ?_ ?_
      · intro ax_ hax_
        refine ⟨_, ⟨0, _, _, rfl, hax_.sub ⟨rfl, rfl, rfl, rfl, trivial⟩, S3.pick [0, 1] [_, _] (by decide) ⟨rfl, rfl, trivial⟩, ?hq3f0, ?hq3f1⟩⟩
        case hq3f0 => omega
        case hq3f1 => (obtain rfl : i = d.crs.length := (by omega); exact hw)
      · rintro m2 a2 w5 ⟨j, ws2, vrw2, rfl, he2, S5, hj, hw2⟩
        clear S3
        refine ws_in he2 (c := PiecesOf_n27) rfl ?_
        clear he2 a2
        have hl2 : ws2.length = d.crs.length := by rw [hw2, rndsW_len]
        refine ws_seqN PiecesOf_n28 PiecesOf_n29 rfl rfl rfl ?_
        refine ws_seqN PiecesOf_n30 PiecesOf_n31 rfl rfl rfl ?_
        refine ws_region rfl ?_
        refine wl_op (k := 0) (k' := 1) rfl rfl rfl (wo_run rfl rfl (run_move rfl rfl) ?_)
        refine wl_op (k := 1) (k' := 2) rfl rfl rfl (wo_run rfl rfl (run_move rfl rfl) ?_)
        refine wl_op (k := 2) (k' := 3) rfl rfl rfl (wo_run rfl rfl (run_lss rfl rfl rfl) ?_)
        refine wl_end rfl ?_
        refine nm_sub [(1, _), (3, _), (4, _), (6, _), (26, _)] ⟨rfl, rfl, rfl, rfl, rfl, trivial⟩ ?_
        refine nm_thn ?_
        refine ws_condN PiecesOf_n32 PiecesOf_n33 rfl rfl rfl rfl (fun hb26 => ?_) (fun hb26 => ?_)
        · have hb26 := of_decide_eq_true hb26
          refine ws_skip rfl ?_
          refine nm_sub [(1, _), (3, _), (4, _), (6, _)] ⟨rfl, rfl, rfl, rfl, trivial⟩ ?_
          refine nm_thn ?_
          refine ws_seqN PiecesOf_n34 PiecesOf_n35 rfl rfl rfl ?_
          refine ws_blockN PiecesOf_n36 3 rfl rfl rfl ?_
          refine ws_seqN PiecesOf_n37 PiecesOf_n38 rfl rfl rfl ?_
          refine ws_region rfl ?_
          refine wl_op (k := 0) (k' := 1) rfl rfl rfl (wo_run rfl rfl (run_assign rfl rfl) ?_)
          refine wl_end rfl ?_
          refine nm_thn ?_
          refine ws_blockN PiecesOf_n39 4 rfl rfl rfl ?_
          refine ws_loopE (fun mx_ ax_ wx_ => ∃ (k : Nat) (ws3 : List Int) (vrw3 : Value), mx_ = 2 * d.crs.length - k ∧ Env 67 [(1, .pointer (some ⟨gb1, 0, none⟩)), (3, .int .i64 (d.crs.length : Int)), (4, vrw3), (6, .int .i64 (j : Int)), (7, .int .i64 ((k + 1 : Nat) : Int))] ax_ ∧ SH wx_ M X [Rs.row cdInt vrw3 ws3, Rs.box gb1 27 [.slice dcrsA d.crs.length dcrsc, .int .i64 d.loops]] ∧ k ≤ 2 * d.crs.length ∧ ws3 = roundW d ws2 k) rfl ?_ ?_
          · intro ax_ hax_
            refine ⟨_, ⟨0, _, _, rfl, hax_.sub ⟨rfl, rfl, rfl, rfl, rfl, trivial⟩, S5.pick [0, 1] [_, _] (by decide) ⟨rfl, rfl, trivial⟩, ?hq4f0, ?hq4f1⟩⟩
            case hq4f0 => omega
            case hq4f1 => rfl
          · rintro m3 a3 w6 ⟨k, ws3, vrw3, rfl, he3, S6, hk, hw3⟩
            clear S5
            refine ws_in he3 (c := PiecesOf_n40) rfl ?_
            clear he3 a3
            have hl3 : ws3.length = d.crs.length := by rw [hw3, roundW_len, hw2, rndsW_len]
            refine ws_seqN PiecesOf_n41 PiecesOf_n42 rfl rfl rfl ?_
            refine ws_seqN PiecesOf_n43 PiecesOf_n44 rfl rfl rfl ?_
            refine ws_region rfl ?_
            refine wl_op (k := 0) (k' := 1) rfl rfl rfl (wo_run rfl rfl (run_move rfl rfl) ?_)
            refine wl_op (k := 1) (k' := 2) rfl rfl rfl (wo_run rfl rfl (run_move rfl rfl) ?_)
            refine wl_op (k := 2) (k' := 3) rfl rfl rfl (wo_run rfl rfl (run_mul rfl rfl rfl (by first | omega | (simp only [List.length_set, List.length_append, List.length_replicate, List.length_singleton, List.length_cons, List.length_nil]; omega))) ?_)
            refine wl_op (k := 3) (k' := 4) rfl rfl rfl (wo_run rfl rfl (run_leq rfl rfl rfl) ?_)
            refine wl_end rfl ?_
            refine nm_sub [(1, _), (3, _), (4, _), (6, _), (7, _), (32, _)] ⟨rfl, rfl, rfl, rfl, rfl, rfl, trivial⟩ ?_
            refine nm_thn ?_
            refine ws_condN PiecesOf_n45 PiecesOf_n46 rfl rfl rfl rfl (fun hb32 => ?_) (fun hb32 => ?_)
            · have hb32 := of_decide_eq_true hb32
              have hx := endC_lt hab (k := k) (by omega) false
              have hy := endC_lt hab (k := k) (by omega) true
              refine ws_skip rfl ?_
              refine nm_sub [(1, _), (3, _), (4, _), (6, _), (7, _)] ⟨rfl, rfl, rfl, rfl, rfl, trivial⟩ ?_
              refine nm_thn ?_
              refine ws_seqN PiecesOf_n47 PiecesOf_n48 rfl rfl rfl ?_
              refine ws_blockN PiecesOf_n49 5 rfl rfl rfl ?_
              refine ws_seqN PiecesOf_n50 PiecesOf_n51 rfl rfl rfl ?_
              refine ws_draw rfl (by kernel_rfl) S6 10 rfl ?_
              clear S6
              refine wa_take (i := 0) (d := 35) 9 rfl (by kernel_rfl) (by kernel_rfl) (by kernel_rfl) rfl rfl rfl (fun M1 N1 w7 hle4 S7 => .inl (run_loadN (us := [_, _]) rfl rfl Try.underlying27 rfl sz27 (S7.suf.boxcs (i := 1) rfl ⟨rfl, rfl, trivial⟩))) ?_
              refine wa_takeP (i := 1) (d := 36) 8 rfl (by kernel_rfl) (by kernel_rfl) (by kernel_rfl) rfl rfl rfl (fun w8 => run_move rfl rfl) ?_
              refine wa_take (i := 2) (d := 37) 7 rfl (by kernel_rfl) (by kernel_rfl) (by kernel_rfl) rfl rfl rfl (fun M3 N3 w9 hle6 S9 => yield_cq rfl rfl rfl rfl rfl cf61 S9 (EndOf_q d ((k + 1 : Nat) : Int) false ((hdcrs.mono (Hp.un_mono hle6 S9.mx)).mono S9.un_XH) S9.lend)) ?_
              refine wa_takeP (i := 3) (d := 38) 6 rfl (by kernel_rfl) (by kernel_rfl) (by kernel_rfl) rfl rfl rfl (fun w10 => run_field0 rfl rfl Try.underlying88 rfl Try.underlying3 rfl rfl) ?_
              refine wa_take (i := 4) (d := 39) 5 rfl (by kernel_rfl) (by kernel_rfl) (by kernel_rfl) rfl rfl rfl (fun M5 N5 w11 hle8 S11 => .inl (run_loadN (us := [_, _]) rfl rfl Try.underlying27 rfl sz27 (S11.suf.boxcs (i := 1) rfl ⟨rfl, rfl, trivial⟩))) ?_
              refine wa_takeP (i := 5) (d := 40) 4 rfl (by kernel_rfl) (by kernel_rfl) (by kernel_rfl) rfl rfl rfl (fun w12 => run_move rfl rfl) ?_
              refine wa_take (i := 6) (d := 41) 3 rfl (by kernel_rfl) (by kernel_rfl) (by kernel_rfl) rfl rfl rfl (fun M7 N7 w13 hle10 S13 => yield_cq rfl rfl rfl rfl rfl cf61 S13 (EndOf_q d ((k + 1 : Nat) : Int) true ((hdcrs.mono (Hp.un_mono hle10 S13.mx)).mono S13.un_XH) S13.lend)) ?_
              refine wa_takeP (i := 7) (d := 42) 2 rfl (by kernel_rfl) (by kernel_rfl) (by kernel_rfl) rfl rfl rfl (fun w14 => run_field0 rfl rfl Try.underlying88 rfl Try.underlying3 rfl rfl) ?_
              refine wa_takeP (i := 8) (d := 8) 1 rfl (by kernel_rfl) (by kernel_rfl) (by kernel_rfl) rfl rfl rfl (fun w15 => run_assign rfl rfl) ?_
              refine wa_takeP (i := 9) (d := 9) 0 rfl (by kernel_rfl) (by kernel_rfl) (by kernel_rfl) rfl rfl rfl (fun w16 => run_assign rfl rfl) ?_
              refine wa_end (by kernel_rfl) (fun w17 S17 => ?_)
              refine nm_sub [(1, _), (3, _), (4, _), (6, _), (7, _), (8, _), (9, _)] ⟨rfl, rfl, rfl, rfl, rfl, rfl, rfl, trivial⟩ ?_
              refine nm_thn ?_
              refine ws_seqN PiecesOf_n52 PiecesOf_n53 rfl rfl rfl ?_
              refine ws_eq 8 (.int .i64 ((endC d k false : Nat) : Int)) rfl (int_eq rfl) ?_
              refine ws_eq 9 (.int .i64 ((endC d k true : Nat) : Int)) rfl (int_eq rfl) ?_
              refine ws_draw rfl (by kernel_rfl) S17 9 rfl ?_
              clear S17
              refine wa_takeP (i := 0) (d := 43) 8 rfl (by kernel_rfl) (by kernel_rfl) (by kernel_rfl) rfl rfl rfl (fun w18 => run_move rfl rfl) ?_
              refine wa_takeP (i := 1) (d := 44) 7 rfl (by kernel_rfl) (by kernel_rfl) (by kernel_rfl) rfl rfl rfl (fun w19 => run_move rfl rfl) ?_
              refine wa_take (i := 2) (d := 45) 6 rfl (by kernel_rfl) (by kernel_rfl) (by kernel_rfl) rfl rfl rfl (fun M13 N13 w20 hle16 S20 => .inl (run_indexR (C := cdInt) (i := 0) (endC d k false) rfl rfl rfl sl44 S20.suf rfl (by first | rfl | omega) (by first | omega | (simp only [List.length_set, List.length_append, List.length_replicate, List.length_singleton, List.length_cons, List.length_nil]; omega)))) ?_
              refine wa_take (i := 3) (d := 46) 5 rfl (by kernel_rfl) (by kernel_rfl) (by kernel_rfl) rfl rfl rfl (fun M14 N14 w21 hle17 S21 => .inl (run_load1 rfl rfl Try.underlying3 rfl (S21.suf.rowc (i := 0) (e := endC d k false) (j := 0) rfl (by first | omega | (simp only [List.length_set, List.length_append, List.length_replicate, List.length_singleton, List.length_cons, List.length_nil]; omega)) rfl rfl))) ?_
              refine wa_takeP (i := 4) (d := 47) 4 rfl (by kernel_rfl) (by kernel_rfl) (by kernel_rfl) rfl rfl rfl (fun w22 => run_move rfl rfl) ?_
              refine wa_takeP (i := 5) (d := 48) 3 rfl (by kernel_rfl) (by kernel_rfl) (by kernel_rfl) rfl rfl rfl (fun w23 => run_move rfl rfl) ?_
              refine wa_take (i := 6) (d := 49) 2 rfl (by kernel_rfl) (by kernel_rfl) (by kernel_rfl) rfl rfl rfl (fun M17 N17 w24 hle20 S24 => .inl (run_indexR (C := cdInt) (i := 0) (endC d k true) rfl rfl rfl sl44 S24.suf rfl (by first | rfl | omega) (by first | omega | (simp only [List.length_set, List.length_append, List.length_replicate, List.length_singleton, List.length_cons, List.length_nil]; omega)))) ?_
              refine wa_take (i := 7) (d := 50) 1 rfl (by kernel_rfl) (by kernel_rfl) (by kernel_rfl) rfl rfl rfl (fun M18 N18 w25 hle21 S25 => .inl (run_load1 rfl rfl Try.underlying3 rfl (S25.suf.rowc (i := 0) (e := endC d k true) (j := 0) rfl (by first | omega | (simp only [List.length_set, List.length_append, List.length_replicate, List.length_singleton, List.length_cons, List.length_nil]; omega)) rfl rfl))) ?_
              refine wa_takeP (i := 8) (d := 51) 0 rfl (by kernel_rfl) (by kernel_rfl) (by kernel_rfl) rfl rfl rfl (fun w26 => run_lss rfl rfl rfl) ?_
              refine wa_end (by kernel_rfl) (fun w27 S27 => ?_)
              refine nm_sub [(1, _), (3, _), (4, _), (6, _), (7, _), (8, _), (9, _), (51, _)] ⟨rfl, rfl, rfl, rfl, rfl, rfl, rfl, rfl, trivial⟩ ?_
              refine nm_thn ?_
              refine ws_condN PiecesOf_n54 PiecesOf_n55 rfl rfl rfl rfl (fun hb51 => ?_) (fun hb51 => ?_)
              · have hb51 := of_decide_eq_true hb51
                refine ws_region rfl ?_
                refine wl_op (k := 0) (k' := 1) rfl rfl rfl (wo_run rfl rfl (run_move rfl rfl) ?_)
                refine wl_op (k := 1) (k' := 2) rfl rfl rfl (wo_run rfl rfl (run_move rfl rfl) ?_)
                refine wl_op (k := 2) (k' := 3) rfl rfl rfl (wo_run rfl rfl (run_move rfl rfl) ?_)
                refine wl_op (k := 3) (k' := 4) rfl rfl rfl (wo_run rfl rfl (run_move rfl rfl) ?_)
                refine wl_op (k := 4) (k' := 5) rfl rfl rfl (wo_run rfl rfl (run_indexR (C := cdInt) (i := 0) (endC d k false) rfl rfl rfl sl44 S27 rfl (by first | rfl | omega) (by first | omega | (simp only [List.length_set, List.length_append, List.length_replicate, List.length_singleton, List.length_cons, List.length_nil]; omega))) ?_)
                refine wl_op (k := 5) (k' := 6) rfl rfl rfl (wo_run rfl rfl (run_load1 rfl rfl Try.underlying3 rfl (S27.rowc (i := 0) (e := endC d k false) (j := 0) rfl (by first | omega | (simp only [List.length_set, List.length_append, List.length_replicate, List.length_singleton, List.length_cons, List.length_nil]; omega)) rfl rfl)) ?_)
                refine wl_op (k := 6) (k' := 7) rfl rfl rfl (wo_run rfl rfl (run_indexR (C := cdInt) (i := 0) (endC d k true) rfl rfl rfl sl44 S27 rfl (by first | rfl | omega) (by first | omega | (simp only [List.length_set, List.length_append, List.length_replicate, List.length_singleton, List.length_cons, List.length_nil]; omega))) ?_)
                refine wl_op (k := 7) (k' := 8) rfl rfl rfl (wo_storeR (C := cdInt) (i := 0) (e := endC d k true) (j := 0) (us := [_]) (H' := [_, _]) (ga ws3 (endC d k false)) rfl rfl S27 rfl (by first | omega | (simp only [List.length_set, List.length_append, List.length_replicate, List.length_singleton, List.length_cons, List.length_nil]; omega)) rfl rfl rfl sz3 rfl rfl rfl rfl ?_)
                intro w28 S28; clear S27
                refine wl_end rfl ?_
                refine nm_blk ?_
                refine nm_sub [(1, _), (3, _), (4, _), (6, _), (7, _)] ⟨rfl, rfl, rfl, rfl, rfl, trivial⟩ ?_
                refine nm_thn ?_
                refine ws_region rfl ?_
                refine wl_op (k := 0) (k' := 1) rfl rfl rfl (wo_run rfl rfl (run_move rfl rfl) ?_)
                refine wl_op (k := 1) (k' := 2) rfl rfl rfl (wo_run rfl rfl (run_add rfl rfl rfl (by first | omega | (simp only [List.length_set, List.length_append, List.length_replicate, List.length_singleton, List.length_cons, List.length_nil]; omega))) ?_)
                refine wl_op (k := 2) (k' := 3) rfl rfl rfl (wo_run rfl rfl (run_assign rfl rfl) ?_)
                refine wl_end rfl ?_
                refine nm_lp ?_
                intro ax_ hax_
                refine ⟨_, ?hq5m, ⟨k + 1, _, _, rfl, hax_.sub ⟨rfl, rfl, rfl, rfl, rfl, trivial⟩, S28.pick [0, 1] [_, _] (by decide) ⟨rfl, rfl, trivial⟩, ?hq5f0, ?hq5f1⟩⟩
                case hq5f0 => omega
                case hq5f1 => (show _ = stepW _ _ _; rw [← hw3]; unfold stepW; first | rw [if_pos (by omega)] | rw [if_neg (by omega)])
                case hq5m => omega
              · have hb51 := of_decide_eq_false hb51
                refine ws_region rfl ?_
                refine wl_op (k := 0) (k' := 1) rfl rfl rfl (wo_run rfl rfl (run_move rfl rfl) ?_)
                refine wl_op (k := 1) (k' := 2) rfl rfl rfl (wo_run rfl rfl (run_move rfl rfl) ?_)
                refine wl_op (k := 2) (k' := 3) rfl rfl rfl (wo_run rfl rfl (run_move rfl rfl) ?_)
                refine wl_op (k := 3) (k' := 4) rfl rfl rfl (wo_run rfl rfl (run_move rfl rfl) ?_)
                refine wl_op (k := 4) (k' := 5) rfl rfl rfl (wo_run rfl rfl (run_indexR (C := cdInt) (i := 0) (endC d k true) rfl rfl rfl sl44 S27 rfl (by first | rfl | omega) (by first | omega | (simp only [List.length_set, List.length_append, List.length_replicate, List.length_singleton, List.length_cons, List.length_nil]; omega))) ?_)
                refine wl_op (k := 5) (k' := 6) rfl rfl rfl (wo_run rfl rfl (run_load1 rfl rfl Try.underlying3 rfl (S27.rowc (i := 0) (e := endC d k true) (j := 0) rfl (by first | omega | (simp only [List.length_set, List.length_append, List.length_replicate, List.length_singleton, List.length_cons, List.length_nil]; omega)) rfl rfl)) ?_)
                refine wl_op (k := 6) (k' := 7) rfl rfl rfl (wo_run rfl rfl (run_indexR (C := cdInt) (i := 0) (endC d k false) rfl rfl rfl sl44 S27 rfl (by first | rfl | omega) (by first | omega | (simp only [List.length_set, List.length_append, List.length_replicate, List.length_singleton, List.length_cons, List.length_nil]; omega))) ?_)
                refine wl_op (k := 7) (k' := 8) rfl rfl rfl (wo_storeR (C := cdInt) (i := 0) (e := endC d k false) (j := 0) (us := [_]) (H' := [_, _]) (ga ws3 (endC d k true)) rfl rfl S27 rfl (by first | omega | (simp only [List.length_set, List.length_append, List.length_replicate, List.length_singleton, List.length_cons, List.length_nil]; omega)) rfl rfl rfl sz3 rfl rfl rfl rfl ?_)
                intro w29 S29; clear S27
                refine wl_end rfl ?_
                refine nm_blk ?_
                refine nm_sub [(1, _), (3, _), (4, _), (6, _), (7, _)] ⟨rfl, rfl, rfl, rfl, rfl, trivial⟩ ?_
                refine nm_thn ?_
                refine ws_region rfl ?_
                refine wl_op (k := 0) (k' := 1) rfl rfl rfl (wo_run rfl rfl (run_move rfl rfl) ?_)
                refine wl_op (k := 1) (k' := 2) rfl rfl rfl (wo_run rfl rfl (run_add rfl rfl rfl (by first | omega | (simp only [List.length_set, List.length_append, List.length_replicate, List.length_singleton, List.length_cons, List.length_nil]; omega))) ?_)
                refine wl_op (k := 2) (k' := 3) rfl rfl rfl (wo_run rfl rfl (run_assign rfl rfl) ?_)
                refine wl_end rfl ?_
                refine nm_lp ?_
                intro ax_ hax_
                refine ⟨_, ?hq6m, ⟨k + 1, _, _, rfl, hax_.sub ⟨rfl, rfl, rfl, rfl, rfl, trivial⟩, S29.pick [0, 1] [_, _] (by decide) ⟨rfl, rfl, trivial⟩, ?hq6f0, ?hq6f1⟩⟩
                case hq6f0 => omega
                case hq6f1 => (show _ = stepW _ _ _; rw [← hw3]; unfold stepW; first | rw [if_pos (by omega)] | rw [if_neg (by omega)])
                case hq6m => omega
            · have hb32 := of_decide_eq_false hb32
              refine ws_exit rfl rfl ?_
              refine nm_blk ?_
              refine nm_sub [(1, _), (3, _), (4, _), (6, _)] ⟨rfl, rfl, rfl, rfl, trivial⟩ ?_
              refine nm_thn ?_
              refine ws_region rfl ?_
              refine wl_op (k := 0) (k' := 1) rfl rfl rfl (wo_run rfl rfl (run_move rfl rfl) ?_)
              refine wl_op (k := 1) (k' := 2) rfl rfl rfl (wo_run rfl rfl (run_add rfl rfl rfl (by first | omega | (simp only [List.length_set, List.length_append, List.length_replicate, List.length_singleton, List.length_cons, List.length_nil]; omega))) ?_)
              refine wl_op (k := 2) (k' := 3) rfl rfl rfl (wo_run rfl rfl (run_assign rfl rfl) ?_)
              refine wl_end rfl ?_
              refine nm_lp ?_
              intro ax_ hax_
              refine ⟨_, ?hq7m, ⟨j + 1, _, _, rfl, hax_.sub ⟨rfl, rfl, rfl, rfl, trivial⟩, S6.pick [0, 1] [_, _] (by decide) ⟨rfl, rfl, trivial⟩, ?hq7f0, ?hq7f1⟩⟩
              case hq7f0 => omega
              case hq7f1 => (obtain rfl : k = 2 * d.crs.length := (by omega); rw [hw3, hw2]; rfl)
              case hq7m => omega
        · have hb26 := of_decide_eq_false hb26
          refine ws_exit rfl rfl ?_
          refine nm_sub [(4, _)] ⟨rfl, trivial⟩ ?_
          refine nm_thn ?_
          refine ws_seqN PiecesOf_n56 PiecesOf_n57 rfl rfl rfl ?_
          refine ws_region rfl ?_
          refine wl_op (k := 0) (k' := 1) rfl rfl rfl (wo_run rfl rfl (run_move rfl rfl) ?_)
          refine wl_op (k := 1) (k' := 2) rfl rfl rfl (wo_run rfl rfl (run_assign rfl rfl) ?_)
          refine wl_end rfl ?_
          refine nm_sub [(2, _)] ⟨rfl, trivial⟩ ?_
          refine nm_thn ?_
          obtain ⟨M20, hle23, S30, ⟨A1, c1, e1, hr1⟩⟩ := S5.pubrow (i := 0) (H' := [_, _]) rfl rfl (by show _ * 8 ≤ _; first | omega | (simp only [List.length_set, List.length_append, List.length_replicate, List.length_singleton, List.length_cons, List.length_nil]; omega))
          clear S5; subst e1
          replace hdcrs := hdcrs.mono (Hp.un_mono hle23 S30.mx)
          refine ws_ret hC [_] rfl rfl ⟨rfl, trivial⟩ ?_
          refine ⟨_, rfl, _, hle23, (S30.pick [] [] (by decide) trivial), ?_⟩
          obtain rfl : j = d.crs.length := by omega
          subst hw2
          exact ⟨_, _, rfl, hr1⟩

end Go.Proofs.Ytlbpgnimpcflaaa
