/- Walks printed by eng.py. -/
import Derived.Test.YtlbpgnimpcflaaaQ3
set_option linter.unusedSimpArgs false
set_option linter.unusedVariables false
namespace Go.Proofs.Ytlbpgnimpcflaaa
open Go.ChangeShapes Go.WideShapes Go.ChangeAt Go.RowKit
noncomputable def StrandsOf_n0 : Code := Try.f21.body.getD .skip
noncomputable def StrandsOf_n1 : Code := cL StrandsOf_n0
noncomputable def StrandsOf_n2 : Code := cR StrandsOf_n0
noncomputable def StrandsOf_n3 : Code := cL StrandsOf_n2
noncomputable def StrandsOf_n4 : Code := cR StrandsOf_n2
noncomputable def StrandsOf_n5 : Code := cL StrandsOf_n4
noncomputable def StrandsOf_n6 : Code := cR StrandsOf_n4
noncomputable def StrandsOf_n7 : Code := cL StrandsOf_n6
noncomputable def StrandsOf_n8 : Code := cR StrandsOf_n6
noncomputable def StrandsOf_n9 : Code := cL StrandsOf_n8
noncomputable def StrandsOf_n10 : Code := cR StrandsOf_n8
noncomputable def StrandsOf_n11 : Code := cL StrandsOf_n9
noncomputable def StrandsOf_n12 : Code := cR StrandsOf_n9
noncomputable def StrandsOf_n13 : Code := cL StrandsOf_n12
noncomputable def StrandsOf_n14 : Code := cL StrandsOf_n13
noncomputable def StrandsOf_n15 : Code := cL StrandsOf_n14
noncomputable def StrandsOf_n16 : Code := cR StrandsOf_n14
noncomputable def StrandsOf_n17 : Code := cL StrandsOf_n15
noncomputable def StrandsOf_n18 : Code := cR StrandsOf_n15
noncomputable def StrandsOf_n19 : Code := cL StrandsOf_n18
noncomputable def StrandsOf_n20 : Code := cR StrandsOf_n18
noncomputable def StrandsOf_n21 : Code := cL StrandsOf_n16
noncomputable def StrandsOf_n22 : Code := cR StrandsOf_n16
noncomputable def StrandsOf_n23 : Code := cL StrandsOf_n21
noncomputable def StrandsOf_n24 : Code := cL StrandsOf_n23
noncomputable def StrandsOf_n25 : Code := cR StrandsOf_n23
noncomputable def StrandsOf_n26 : Code := cL StrandsOf_n25
noncomputable def StrandsOf_n27 : Code := cR StrandsOf_n25
noncomputable def StrandsOf_n28 : Code := cL StrandsOf_n27
noncomputable def StrandsOf_n29 : Code := cR StrandsOf_n27
noncomputable def StrandsOf_n30 : Code := cL StrandsOf_n28
noncomputable def StrandsOf_n31 : Code := cL StrandsOf_n30
noncomputable def StrandsOf_n32 : Code := cL StrandsOf_n31
noncomputable def StrandsOf_n33 : Code := cR StrandsOf_n31
noncomputable def StrandsOf_n34 : Code := cL StrandsOf_n32
noncomputable def StrandsOf_n35 : Code := cR StrandsOf_n32
noncomputable def StrandsOf_n36 : Code := cL StrandsOf_n35
noncomputable def StrandsOf_n37 : Code := cR StrandsOf_n35
noncomputable def StrandsOf_n38 : Code := cL StrandsOf_n33
noncomputable def StrandsOf_n39 : Code := cL StrandsOf_n38
noncomputable def StrandsOf_n40 : Code := cR StrandsOf_n38
noncomputable def StrandsOf_n41 : Code := cL StrandsOf_n40
noncomputable def StrandsOf_n42 : Code := cR StrandsOf_n40
noncomputable def StrandsOf_n43 : Code := cL StrandsOf_n42
noncomputable def StrandsOf_n44 : Code := cR StrandsOf_n42
noncomputable def StrandsOf_n45 : Code := cL StrandsOf_n29
noncomputable def StrandsOf_n46 : Code := cR StrandsOf_n29
noncomputable def StrandsOf_n47 : Code := cL StrandsOf_n46
noncomputable def StrandsOf_n48 : Code := cR StrandsOf_n46
noncomputable def StrandsOf_n49 : Code := cL StrandsOf_n10
noncomputable def StrandsOf_n50 : Code := cR StrandsOf_n10
set_option maxHeartbeats 1000000 in
set_option maxRecDepth 10000 in
theorem StrandsOf_t {w : World} {M : Hp} {X : Fr} (d : Dg) {dcrsA : Option Addr} {dcrsc : Nat} (hdcrs : RdA cdCr (M.un X.h) dcrsA dcrsc d.crs) (hn : d.crs.length ≤ 16) (hab : arcsB d = true) (S : SH w M X []) : Ct Try.prog 21 [.agg [.slice dcrsA d.crs.length dcrsc, .int .i64 d.loops].toArray] w M X (fun u N => ∃ A c vs, u = .slice A vs.length c ∧ RdA (cdV 44) N A c vs ∧ Rd2 cdInt N vs (strandsL d)) := by
  unfold Ct
  have rmhdcrs : d.crs.length * 40 ≤ 140737488355328 := hdcrs.room
  refine calls_in (b := StrandsOf_n0) Try.func21 rfl Try.ntmps21 rfl (fun C hC => ?_)
  refine ws_sub [(0, _)] ⟨rfl, trivial⟩ ?_
  refine ws_seqN StrandsOf_n1 StrandsOf_n2 rfl rfl rfl ?_
  refine ws_region rfl ?_
  refine wl_op (k := 0) (k' := 1) rfl rfl rfl (wo_box (l := [_, _]) rfl rfl rfl rfl rfl S ?_)
  intro gb1 w1 S1; clear S
  refine wl_op (k := 1) (k' := 2) rfl rfl rfl (wo_run rfl rfl (run_assign rfl rfl) ?_)
  refine wl_end rfl ?_
  refine nm_sub [(1, _)] ⟨rfl, trivial⟩ ?_
  refine nm_thn ?_
  refine ws_seqN StrandsOf_n3 StrandsOf_n4 rfl rfl rfl ?_
  refine ws_region rfl ?_
  refine wl_op (k := 0) (k' := 1) rfl rfl rfl (wo_run rfl rfl (run_fieldAddr rfl rfl Try.underlying27 rfl (ce25) (nf25)) ?_)
  refine wl_op (k := 1) (k' := 2) rfl rfl rfl (wo_run rfl rfl (run_load1 rfl rfl Try.underlying25 rfl (S1.boxc (i := 0) rfl rfl)) ?_)
  refine wl_op (k := 2) (k' := 3) rfl rfl rfl (wo_run rfl rfl (run_len rfl rfl rfl rfl rfl rfl Try.underlying25) ?_)
  refine wl_op (k := 3) (k' := 4) rfl rfl rfl (wo_run rfl rfl (run_mul rfl rfl rfl (by first | omega | (simp only [List.length_set, List.length_append, List.length_replicate, List.length_singleton, List.length_cons, List.length_nil]; omega))) ?_)
  refine wl_op (k := 4) (k' := 5) rfl rfl rfl (wo_run rfl rfl (run_assign rfl rfl) ?_)
  refine wl_end rfl ?_
  refine nm_sub [(1, _), (3, _)] ⟨rfl, rfl, trivial⟩ ?_
  refine nm_thn ?_
  refine ws_seqN StrandsOf_n5 StrandsOf_n6 rfl rfl rfl ?_
  refine ws_region rfl ?_
  refine wl_op (k := 0) (k' := 1) rfl rfl rfl (wo_run rfl rfl (run_move rfl rfl) ?_)
  refine wl_op (k := 1) (k' := 2) rfl rfl rfl (wo_run rfl rfl (run_add rfl rfl rfl (by first | omega | (simp only [List.length_set, List.length_append, List.length_replicate, List.length_singleton, List.length_cons, List.length_nil]; omega))) ?_)
  refine wl_op (k := 2) (k' := 3) rfl rfl rfl (wo_make (C := cdBool) ((2 * (d.crs.length : Int)).toNat + 1) rfl rfl rfl rfl rfl sl23 (by first | rfl | omega) (by show _ * 1 ≤ _; first | omega | (simp only [List.length_set, List.length_append, List.length_replicate, List.length_singleton, List.length_cons, List.length_nil]; omega)) S1 ?_)
  intro vr1 w2 S2; clear S1
  refine wl_op (k := 3) (k' := 4) rfl rfl rfl (wo_run rfl rfl (run_assign rfl rfl) ?_)
  refine wl_end rfl ?_
  refine nm_sub [(1, _), (3, _), (4, _)] ⟨rfl, rfl, rfl, trivial⟩ ?_
  refine nm_thn ?_
  refine ws_seqN StrandsOf_n7 StrandsOf_n8 rfl rfl rfl ?_
  refine ws_region rfl ?_
  refine wl_op (k := 0) (k' := 1) rfl rfl rfl (wo_run rfl rfl (run_assign rfl rfl) ?_)
  refine wl_end rfl ?_
  refine nm_thn ?_
  refine ws_seqN StrandsOf_n9 StrandsOf_n10 rfl rfl rfl ?_
  refine ws_seqN StrandsOf_n11 StrandsOf_n12 rfl rfl rfl ?_
  refine ws_region rfl ?_
  refine wl_op (k := 0) (k' := 1) rfl rfl rfl (wo_run rfl rfl (run_assign rfl rfl) ?_)
  refine wl_end rfl ?_
  refine nm_thn ?_
  refine ws_blockN StrandsOf_n13 0 rfl rfl rfl ?_
  have S3 := S2.nilrow (cdV 44); clear S2
  refine ws_loopE (fun mx_ ax_ wx_ => ∃ (A : Nat) (seen : List Bool) (outc : List (List Int)) (vs : List SlV) (vrs : Value) (vro : Value) (M1 : Hp), M.le M1 ∧ mx_ = 2 * d.crs.length - A ∧ Env 55 [(1, .pointer (some ⟨gb1, 0, none⟩)), (3, .int .i64 (2 * (d.crs.length : Int))), (4, vrs), (5, vro), (6, .int .i64 ((A + 1 : Nat) : Int))] ax_ ∧ SH wx_ M1 X [Rs.row (cdV 44) vro vs, Rs.row cdBool vrs seen, Rs.box gb1 27 [.slice dcrsA d.crs.length dcrsc, .int .i64 d.loops]] ∧ A ≤ 2 * d.crs.length ∧ ringsF (nextN d) (2 * d.crs.length + 1) A = (seen, outc) ∧ Rd2 cdInt M1 vs outc) rfl ?_ ?_
  · intro ax_ hax_
    refine ⟨_, ⟨0, _, [], _, _, _, _, Hp.le_refl _, rfl, hax_.sub ⟨rfl, rfl, rfl, rfl, rfl, trivial⟩, S3.pick [0, 1, 2] [_, _, _] (by decide) ⟨rfl, rfl, rfl, trivial⟩, ?hq1f0, ?hq1f1, ?hq1f2⟩⟩
    case hq1f0 => omega
    case hq1f1 => rfl
    case hq1f2 => exact Rd2.nil_
  · rintro m1 a1 w3 ⟨A, seen, outc, vs, vrs, vro, M1, hle1, rfl, he1, S4, hA, hfn, hdo⟩
    clear S3
    refine ws_in he1 (c := StrandsOf_n14) rfl ?_
    clear he1 a1
    replace hdcrs := hdcrs.mono (Hp.un_mono hle1 S4.mx)
    have hvs := hdo.1
    have hmany := rings_many (nextN d) (2 * d.crs.length + 1) A
    rw [hfn] at hmany
    replace hmany : outc.length ≤ A := hmany
    have hsl : seen.length = 2 * d.crs.length + 1 := by have h9 := ringsF_len (nextN d) (2 * d.crs.length + 1) A; rw [hfn] at h9; exact h9
    refine ws_seqN StrandsOf_n15 StrandsOf_n16 rfl rfl rfl ?_
    refine ws_seqN StrandsOf_n17 StrandsOf_n18 rfl rfl rfl ?_
    refine ws_region rfl ?_
    refine wl_op (k := 0) (k' := 1) rfl rfl rfl (wo_run rfl rfl (run_move rfl rfl) ?_)
    refine wl_op (k := 1) (k' := 2) rfl rfl rfl (wo_run rfl rfl (run_move rfl rfl) ?_)
    refine wl_op (k := 2) (k' := 3) rfl rfl rfl (wo_run rfl rfl (run_leq rfl rfl rfl) ?_)
    refine wl_end rfl ?_
    refine nm_sub [(1, _), (3, _), (4, _), (5, _), (6, _), (19, _)] ⟨rfl, rfl, rfl, rfl, rfl, rfl, trivial⟩ ?_
    refine nm_thn ?_
    refine ws_condN StrandsOf_n19 StrandsOf_n20 rfl rfl rfl rfl (fun hb19 => ?_) (fun hb19 => ?_)
    · have hb19 := of_decide_eq_true hb19
      refine ws_skip rfl ?_
      refine nm_sub [(1, _), (3, _), (4, _), (5, _), (6, _)] ⟨rfl, rfl, rfl, rfl, rfl, trivial⟩ ?_
      refine nm_thn ?_
      refine ws_seqN StrandsOf_n21 StrandsOf_n22 rfl rfl rfl ?_
      refine ws_blockN StrandsOf_n23 1 rfl rfl rfl ?_
      refine ws_seqN StrandsOf_n24 StrandsOf_n25 rfl rfl rfl ?_
      refine ws_region rfl ?_
      refine wl_op (k := 0) (k' := 1) rfl rfl rfl (wo_run rfl rfl (run_assign rfl rfl) ?_)
      refine wl_end rfl ?_
      refine nm_thn ?_
      refine ws_seqN StrandsOf_n26 StrandsOf_n27 rfl rfl rfl ?_
      refine ws_region rfl ?_
      refine wl_op (k := 0) (k' := 1) rfl rfl rfl (wo_run rfl rfl (run_move rfl rfl) ?_)
      refine wl_op (k := 1) (k' := 2) rfl rfl rfl (wo_run rfl rfl (run_assign rfl rfl) ?_)
      refine wl_end rfl ?_
      refine nm_sub [(1, _), (3, _), (4, _), (5, _), (6, _), (7, _), (8, _)] ⟨rfl, rfl, rfl, rfl, rfl, rfl, rfl, trivial⟩ ?_
      refine nm_thn ?_
      refine ws_seqN StrandsOf_n28 StrandsOf_n29 rfl rfl rfl ?_
      refine ws_blockN StrandsOf_n30 2 rfl rfl rfl ?_
      have S5 := S4.nilrow cdInt; clear S4
      refine ws_loopE (fun mx_ ax_ wx_ => ∃ (seen2 : List Bool) (x : Nat) (acc : List Int) (vrs2 : Value) (vring : Value), mx_ = free seen2 ∧ Env 55 [(1, .pointer (some ⟨gb1, 0, none⟩)), (3, .int .i64 (2 * (d.crs.length : Int))), (4, vrs2), (5, vro), (6, .int .i64 ((A + 1 : Nat) : Int)), (7, vring), (8, .int .i64 (x : Int))] ax_ ∧ SH wx_ M1 X [Rs.row cdInt vring acc, Rs.row (cdV 44) vro vs, Rs.row cdBool vrs2 seen2, Rs.box gb1 27 [.slice dcrsA d.crs.length dcrsc, .int .i64 d.loops]] ∧ ringF (nextN d) seen (A + 1) [] = ringF (nextN d) seen2 x acc ∧ (1 ≤ x ∧ x ≤ 2 * d.crs.length) ∧ seen2.length = 2 * d.crs.length + 1 ∧ acc.length + free seen2 ≤ 100 ∧ (acc.length = 0 → seen2 = seen ∧ x = A + 1) ∧ (0 < acc.length → ga seen (A + 1) = false)) rfl ?_ ?_
      · intro ax_ hax_
        refine ⟨_, ⟨seen, A + 1, [], _, _, rfl, hax_.sub ⟨rfl, rfl, rfl, rfl, rfl, rfl, rfl, trivial⟩, S5.pick [0, 1, 2, 3] [_, _, _, _] (by decide) ⟨rfl, rfl, rfl, rfl, trivial⟩, ?hq2f0, ?hq2f1, ?hq2f2, ?hq2f3, ?hq2f4, ?hq2f5⟩⟩
        case hq2f0 => rfl
        case hq2f1 => omega
        case hq2f2 => exact hsl
        case hq2f3 => (have h8 : free seen ≤ seen.length := List.countP_le_length; simp only [List.length_nil]; omega)
        case hq2f4 => exact fun _ => ⟨rfl, rfl⟩
        case hq2f5 => (intro h; exact absurd h (by simp))
      · rintro m2 a2 w4 ⟨seen2, x, acc, vrs2, vring, rfl, he2, S6, hrg, hx, hs2, hroom, hem, hne⟩
        clear S5
        refine ws_in he2 (c := StrandsOf_n31) rfl ?_
        clear he2 a2
        obtain ⟨hE1, hE2, hE3, hE4, hE5⟩ := endD hab (a := (x : Int)) (by omega) false
        obtain ⟨hce, hce1, hce2⟩ := nextN_eq hab hx.1 hx.2
        refine ws_seqN StrandsOf_n32 StrandsOf_n33 rfl rfl rfl ?_
        refine ws_seqN StrandsOf_n34 StrandsOf_n35 rfl rfl rfl ?_
        refine ws_region rfl ?_
        refine wl_op (k := 0) (k' := 1) rfl rfl rfl (wo_run rfl rfl (run_move rfl rfl) ?_)
        refine wl_op (k := 1) (k' := 2) rfl rfl rfl (wo_run rfl rfl (run_move rfl rfl) ?_)
        refine wl_op (k := 2) (k' := 3) rfl rfl rfl (wo_run rfl rfl (run_indexR (C := cdBool) (i := 2) x rfl rfl rfl sl23 S6 rfl (by first | rfl | omega) (by first | omega | (simp only [List.length_set, List.length_append, List.length_replicate, List.length_singleton, List.length_cons, List.length_nil]; omega))) ?_)
        refine wl_op (k := 3) (k' := 4) rfl rfl rfl (wo_run rfl rfl (run_load1 rfl rfl Try.underlying4 rfl (S6.rowc (i := 2) (e := x) (j := 0) rfl (by first | omega | (simp only [List.length_set, List.length_append, List.length_replicate, List.length_singleton, List.length_cons, List.length_nil]; omega)) rfl rfl)) ?_)
        refine wl_op (k := 4) (k' := 5) rfl rfl rfl (wo_run rfl rfl (run_not rfl rfl) ?_)
        refine wl_end rfl ?_
        refine nm_sub [(1, _), (3, _), (4, _), (5, _), (6, _), (7, _), (8, _), (27, _)] ⟨rfl, rfl, rfl, rfl, rfl, rfl, rfl, rfl, trivial⟩ ?_
        refine nm_thn ?_
        refine ws_condN StrandsOf_n36 StrandsOf_n37 rfl rfl rfl rfl (fun hb27 => ?_) (fun hb27 => ?_)
        · simp only [Bool.and_eq_true, Bool.or_eq_true, Bool.and_eq_false_iff, Bool.or_eq_false_iff, decide_eq_true_eq, decide_eq_false_iff_not, Bool.not_eq_true', Bool.not_eq_false'] at hb27
          refine ws_skip rfl ?_
          refine nm_sub [(1, _), (3, _), (4, _), (5, _), (6, _), (7, _), (8, _)] ⟨rfl, rfl, rfl, rfl, rfl, rfl, rfl, trivial⟩ ?_
          refine nm_thn ?_
          refine ws_blockN StrandsOf_n38 3 rfl rfl rfl ?_
          refine ws_seqN StrandsOf_n39 StrandsOf_n40 rfl rfl rfl ?_
          refine ws_region rfl ?_
          refine wl_op (k := 0) (k' := 1) rfl rfl rfl (wo_run rfl rfl (run_move rfl rfl) ?_)
          refine wl_op (k := 1) (k' := 2) rfl rfl rfl (wo_run rfl rfl (run_move rfl rfl) ?_)
          refine wl_op (k := 2) (k' := 3) rfl rfl rfl (wo_run rfl rfl (run_indexR (C := cdBool) (i := 2) x rfl rfl rfl sl23 S6 rfl (by first | rfl | omega) (by first | omega | (simp only [List.length_set, List.length_append, List.length_replicate, List.length_singleton, List.length_cons, List.length_nil]; omega))) ?_)
          refine wl_op (k := 3) (k' := 4) rfl rfl rfl (wo_storeR (C := cdBool) (i := 2) (e := x) (j := 0) (us := [_]) (H' := [_, _, _, _]) true rfl rfl S6 rfl (by first | omega | (simp only [List.length_set, List.length_append, List.length_replicate, List.length_singleton, List.length_cons, List.length_nil]; omega)) rfl rfl rfl sz4 rfl rfl rfl rfl ?_)
          intro w5 S7; clear S6
          refine wl_end rfl ?_
          refine nm_sub [(1, _), (3, _), (4, _), (5, _), (6, _), (7, _), (8, _)] ⟨rfl, rfl, rfl, rfl, rfl, rfl, rfl, trivial⟩ ?_
          refine nm_thn ?_
          refine ws_seqN StrandsOf_n41 StrandsOf_n42 rfl rfl rfl ?_
          refine ws_region rfl ?_
          refine wl_op (k := 0) (k' := 1) rfl rfl rfl (wo_run rfl rfl (run_move rfl rfl) ?_)
          refine wl_op (k := 1) (k' := 2) rfl rfl rfl (wo_run rfl rfl (run_move rfl rfl) ?_)
          refine wl_op (k := 2) (k' := 3) rfl rfl rfl (wo_buildSlice1 (C := cdInt) (l := [_]) rfl rfl rfl rfl sl44 rfl rfl rfl rfl S7 ?_)
          intro gb2 w6 S8; clear S7
          refine wl_op (k := 3) (k' := 4) rfl rfl rfl (wo_append1 (C := cdInt) (i := 1) (q := 0) (x : Int) rfl rfl rfl rfl rfl rfl rfl rfl sl44 S8 rfl rfl rfl (by show (_ + 1) * 8 ≤ _; first | omega | (simp only [List.length_set, List.length_append, List.length_replicate, List.length_singleton, List.length_cons, List.length_nil]; omega)) ?_)
          intro vring1 w7 S9; clear S8
          have S10 := S9.pick [1, 2, 3, 4] [_, _, _, _] (by decide) ⟨rfl, rfl, rfl, rfl, trivial⟩; clear S9
          refine wl_op (k := 4) (k' := 5) rfl rfl rfl (wo_run rfl rfl (run_assign rfl rfl) ?_)
          refine wl_end rfl ?_
          refine nm_sub [(1, _), (3, _), (4, _), (5, _), (6, _), (7, _), (8, _)] ⟨rfl, rfl, rfl, rfl, rfl, rfl, rfl, trivial⟩ ?_
          refine nm_thn ?_
          refine ws_seqN StrandsOf_n43 StrandsOf_n44 rfl rfl rfl ?_
          refine ws_region rfl ?_
          refine wl_op (k := 0) (k' := 1) rfl rfl rfl (wo_run rfl rfl (run_loadN (us := [_, _]) rfl rfl Try.underlying27 rfl sz27 (S10.boxcs (i := 3) rfl ⟨rfl, rfl, trivial⟩)) ?_)
          refine wl_op (k := 1) (k' := 2) rfl rfl rfl (wo_run rfl rfl (run_move rfl rfl) ?_)
          refine wl_op (k := 2) (k' := 3) rfl rfl rfl (wo_cq rfl rfl rfl rfl rfl rfl rfl cf61 S10 (EndOf_q d (x : Int) false (hdcrs.mono S10.un_XH) S10.lend) ?_)
          rintro _ w8 S11 rfl; clear S10
          refine wl_op (k := 3) (k' := 4) rfl rfl rfl (wo_alloc (l := [_, _]) rfl rfl rfl zr88 rfl S11 ?_)
          intro gb3 w9 S12; clear S11
          refine wl_op (k := 4) (k' := 5) rfl rfl rfl (wo_storeB (i := 0) (us := [_, _]) (l' := [_, _]) (H' := [_, _, _, _, _]) rfl rfl S12 rfl rfl rfl rfl sz88 rfl rfl rfl rfl ?_)
          intro w10 S13; clear S12
          refine wl_end rfl ?_
          refine nm_sub [(1, _), (3, _), (4, _), (5, _), (6, _), (7, _), (9, _)] ⟨rfl, rfl, rfl, rfl, rfl, rfl, rfl, trivial⟩ ?_
          refine nm_thn ?_
          refine ws_region rfl ?_
          refine wl_op (k := 0) (k' := 1) rfl rfl rfl (wo_run rfl rfl (run_loadN (us := [_, _]) rfl rfl Try.underlying27 rfl sz27 (S13.boxcs (i := 4) rfl ⟨rfl, rfl, trivial⟩)) ?_)
          refine wl_op (k := 1) (k' := 2) rfl rfl rfl (wo_run rfl rfl (run_fieldAddr rfl rfl Try.underlying88 rfl (ce3) (nf3)) ?_)
          refine wl_op (k := 2) (k' := 3) rfl rfl rfl (wo_run rfl rfl (run_load1 rfl rfl Try.underlying3 rfl (S13.boxc (i := 0) rfl rfl)) ?_)
          refine wl_op (k := 3) (k' := 4) rfl rfl rfl (wo_run rfl rfl (run_fieldAddr rfl rfl Try.underlying88 rfl (ce3) (nf3)) ?_)
          refine wl_op (k := 4) (k' := 5) rfl rfl rfl (wo_run rfl rfl (run_load1 rfl rfl Try.underlying3 rfl (S13.boxc (i := 0) rfl rfl)) ?_)
          refine wl_op (k := 5) (k' := 6) rfl rfl rfl (wo_run rfl rfl (run_add rfl rfl rfl (by first | omega | (simp only [List.length_set, List.length_append, List.length_replicate, List.length_singleton, List.length_cons, List.length_nil]; omega))) ?_)
          refine wl_op (k := 6) (k' := 7) rfl rfl rfl (wo_run rfl rfl (run_rem rfl rfl rfl (by first | omega | (simp only [List.length_set, List.length_append, List.length_replicate, List.length_singleton, List.length_cons, List.length_nil]; omega))) ?_)
          refine wl_eq 44 (.int .i64 ((((endOf d (x : Int) false).2 + 2) % 4 : Nat) : Int)) rfl (int_eq (by omega)) ?_
          have hlt4 : ((endOf d (x : Int) false).2 + 2) % 4 < 4 := Nat.mod_lt _ (by decide)
          refine wl_op (k := 7) (k' := 8) rfl rfl rfl (wo_run rfl rfl (run_build (l := [_, _]) rfl rfl st88 rfl rfl) ?_)
          refine wl_op (k := 8) (k' := 9) rfl rfl rfl (wo_cq rfl rfl rfl rfl rfl rfl rfl cf57 S13 (ArcAt_q d ((endOf d (x : Int) false).1) (((endOf d (x : Int) false).2 + 2) % 4) (hdcrs.mono S13.un_XH) (by omega) (by omega) S13.lend) ?_)
          rintro _ w11 S14 rfl; clear S13
          refine wl_eq 46 (.int .i64 (nextN d x : Int)) rfl (int_eq hce) ?_
          refine wl_op (k := 9) (k' := 10) rfl rfl rfl (wo_run rfl rfl (run_assign rfl rfl) ?_)
          refine wl_end rfl ?_
          refine nm_blk ?_
          refine nm_lp ?_
          have hga : ga seen2 x = false := by simpa using hb27
          have hfr := free_set (seen := seen2) (x := x) (by omega) hga
          intro ax_ hax_
          refine ⟨_, ?hq3m, ⟨seen2.set x true, (nextN d) x, acc ++ [(x : Int)], _, _, rfl, hax_.sub ⟨rfl, rfl, rfl, rfl, rfl, rfl, rfl, trivial⟩, S14.pick [1, 2, 3, 4] [_, _, _, _] (by decide) ⟨rfl, rfl, rfl, rfl, trivial⟩, ?hq3f0, ?hq3f1, ?hq3f2, ?hq3f3, ?hq3f4, ?hq3f5⟩⟩
          case hq3f0 => (rw [hrg]; exact ringF_go (by omega) hga)
          case hq3f1 => exact ⟨hce1, hce2⟩
          case hq3f2 => (rw [List.length_set]; exact hs2)
          case hq3f3 => (simp only [List.length_append, List.length_cons, List.length_nil]; omega)
          case hq3f4 => (intro h; rw [List.length_append] at h; exact absurd h (by simp))
          case hq3f5 => (intro _; by_cases h0 : acc.length = 0; (obtain ⟨q1, q2⟩ := hem h0; rw [← q1, ← q2]; exact hga); exact hne (by omega))
          case hq3m => omega
        · simp only [Bool.and_eq_true, Bool.or_eq_true, Bool.and_eq_false_iff, Bool.or_eq_false_iff, decide_eq_true_eq, decide_eq_false_iff_not, Bool.not_eq_true', Bool.not_eq_false'] at hb27
          refine ws_exit rfl rfl ?_
          refine nm_sub [(1, _), (3, _), (4, _), (5, _), (6, _), (7, _)] ⟨rfl, rfl, rfl, rfl, rfl, rfl, trivial⟩ ?_
          refine nm_thn ?_
          refine ws_seqN StrandsOf_n45 StrandsOf_n46 rfl rfl rfl ?_
          refine ws_region rfl ?_
          refine wl_op (k := 0) (k' := 1) rfl rfl rfl (wo_run rfl rfl (run_move rfl rfl) ?_)
          refine wl_op (k := 1) (k' := 2) rfl rfl rfl (wo_run rfl rfl (run_lenR (C := cdInt) (i := 0) rfl rfl rfl rfl rfl rfl sl44 S6 rfl) ?_)
          refine wl_op (k := 2) (k' := 3) rfl rfl rfl (wo_run rfl rfl (run_gtr rfl rfl rfl) ?_)
          refine wl_end rfl ?_
          refine nm_sub [(1, _), (3, _), (4, _), (5, _), (6, _), (7, _), (49, _)] ⟨rfl, rfl, rfl, rfl, rfl, rfl, rfl, trivial⟩ ?_
          refine nm_thn ?_
          refine ws_condN StrandsOf_n47 StrandsOf_n48 rfl rfl rfl rfl (fun hb49 => ?_) (fun hb49 => ?_)
          · have hb49 := of_decide_eq_true hb49
            have hgt : ga seen2 x = true := by simpa using hb27
            have hgn := hne (by omega)
            refine ws_region rfl ?_
            refine wl_op (k := 0) (k' := 1) rfl rfl rfl (wo_run rfl rfl (run_move rfl rfl) ?_)
            refine wl_op (k := 1) (k' := 2) rfl rfl rfl (wo_run rfl rfl (run_move rfl rfl) ?_)
            obtain ⟨M2, hle3, S15, ⟨A1, c1, e1, hr1⟩⟩ := S6.pubrow (i := 0) (H' := [_, _, _, _]) rfl rfl (by show _ * 8 ≤ _; first | omega | (simp only [List.length_set, List.length_append, List.length_replicate, List.length_singleton, List.length_cons, List.length_nil]; omega))
            clear S6; subst e1
            replace hdcrs := hdcrs.mono (Hp.un_mono hle3 S15.mx)
            replace hdo := hdo.mono hle3
            refine wl_op (k := 2) (k' := 3) rfl rfl rfl (wo_buildSlice1 (C := (cdV 44)) (l := [_]) rfl rfl rfl rfl sl37 rfl rfl rfl rfl S15 ?_)
            intro gb4 w12 S16; clear S15
            refine wl_op (k := 3) (k' := 4) rfl rfl rfl (wo_append1 (C := (cdV 44)) (i := 2) (q := 0) (⟨A1, acc.length, c1⟩ : SlV) rfl rfl rfl rfl rfl rfl rfl rfl sl37 S16 rfl rfl rfl (by show (_ + 1) * 24 ≤ _; first | omega | (simp only [List.length_set, List.length_append, List.length_replicate, List.length_singleton, List.length_cons, List.length_nil]; omega)) ?_)
            intro vro1 w13 S17; clear S16
            have S18 := S17.pick [1, 2, 3, 4] [_, _, _, _] (by decide) ⟨rfl, rfl, rfl, rfl, trivial⟩; clear S17
            have hd1 := hdo.snoc (c := c1) hr1
            refine wl_op (k := 4) (k' := 5) rfl rfl rfl (wo_run rfl rfl (run_assign rfl rfl) ?_)
            refine wl_end rfl ?_
            refine nm_blk ?_
            refine nm_sub [(1, _), (3, _), (4, _), (5, _), (6, _)] ⟨rfl, rfl, rfl, rfl, rfl, trivial⟩ ?_
            refine nm_thn ?_
            refine ws_region rfl ?_
            refine wl_op (k := 0) (k' := 1) rfl rfl rfl (wo_run rfl rfl (run_move rfl rfl) ?_)
            refine wl_op (k := 1) (k' := 2) rfl rfl rfl (wo_run rfl rfl (run_add rfl rfl rfl (by first | omega | (simp only [List.length_set, List.length_append, List.length_replicate, List.length_singleton, List.length_cons, List.length_nil]; omega))) ?_)
            refine wl_op (k := 2) (k' := 3) rfl rfl rfl (wo_run rfl rfl (run_assign rfl rfl) ?_)
            refine wl_end rfl ?_
            refine nm_lp ?_
            intro ax_ hax_
            refine ⟨_, ?hq4m, ⟨A + 1, _, (outc ++ [acc]), _, _, _, _, (hle1.trans hle3), rfl, hax_.sub ⟨rfl, rfl, rfl, rfl, rfl, trivial⟩, S18.pick [1, 2, 3] [_, _, _] (by decide) ⟨rfl, rfl, rfl, trivial⟩, ?hq4f0, ?hq4f1, ?hq4f2⟩⟩
            case hq4f0 => omega
            case hq4f1 => first | (rw [ringsF_ring (by rw [hfn]; exact hgn), hfn]; dsimp only; rw [hrg, ringF_stop hgt]) | (rw [q1]; exact (ringsF_skip (by rw [hfn]; show ga seen (A + 1) = true; rw [← q1, ← q2]; exact hgt)).trans hfn)
            case hq4f2 => exact hd1
            case hq4m => omega
          · have hb49 := of_decide_eq_false hb49
            have hgt : ga seen2 x = true := by simpa using hb27
            obtain ⟨q1, q2⟩ := hem (by omega)
            refine ws_skip rfl ?_
            refine nm_blk ?_
            refine nm_sub [(1, _), (3, _), (4, _), (5, _), (6, _)] ⟨rfl, rfl, rfl, rfl, rfl, trivial⟩ ?_
            refine nm_thn ?_
            refine ws_region rfl ?_
            refine wl_op (k := 0) (k' := 1) rfl rfl rfl (wo_run rfl rfl (run_move rfl rfl) ?_)
            refine wl_op (k := 1) (k' := 2) rfl rfl rfl (wo_run rfl rfl (run_add rfl rfl rfl (by first | omega | (simp only [List.length_set, List.length_append, List.length_replicate, List.length_singleton, List.length_cons, List.length_nil]; omega))) ?_)
            refine wl_op (k := 2) (k' := 3) rfl rfl rfl (wo_run rfl rfl (run_assign rfl rfl) ?_)
            refine wl_end rfl ?_
            refine nm_lp ?_
            intro ax_ hax_
            refine ⟨_, ?hq5m, ⟨A + 1, _, outc, _, _, _, _, (hle1), rfl, hax_.sub ⟨rfl, rfl, rfl, rfl, rfl, trivial⟩, S6.pick [1, 2, 3] [_, _, _] (by decide) ⟨rfl, rfl, rfl, trivial⟩, ?hq5f0, ?hq5f1, ?hq5f2⟩⟩
            case hq5f0 => omega
            case hq5f1 => first | (rw [ringsF_ring (by rw [hfn]; exact hgn), hfn]; dsimp only; rw [hrg, ringF_stop hgt]) | (rw [q1]; exact (ringsF_skip (by rw [hfn]; show ga seen (A + 1) = true; rw [← q1, ← q2]; exact hgt)).trans hfn)
            case hq5f2 => exact hdo
            case hq5m => omega
    · have hb19 := of_decide_eq_false hb19
      refine ws_exit rfl rfl ?_
      refine nm_sub [(5, _)] ⟨rfl, trivial⟩ ?_
      refine nm_thn ?_
      refine ws_seqN StrandsOf_n49 StrandsOf_n50 rfl rfl rfl ?_
      refine ws_region rfl ?_
      refine wl_op (k := 0) (k' := 1) rfl rfl rfl (wo_run rfl rfl (run_move rfl rfl) ?_)
      refine wl_op (k := 1) (k' := 2) rfl rfl rfl (wo_run rfl rfl (run_assign rfl rfl) ?_)
      refine wl_end rfl ?_
      refine nm_sub [(2, _)] ⟨rfl, trivial⟩ ?_
      refine nm_thn ?_
      obtain ⟨M3, hle4, S19, ⟨A2, c2, e2, hr2⟩⟩ := S4.pubrow (i := 0) (H' := [_, _, _]) rfl rfl (by show _ * 24 ≤ _; first | omega | (simp only [List.length_set, List.length_append, List.length_replicate, List.length_singleton, List.length_cons, List.length_nil]; omega))
      clear S4; subst e2
      replace hdcrs := hdcrs.mono (Hp.un_mono hle4 S19.mx)
      replace hdo := hdo.mono hle4
      refine ws_ret hC [_] rfl rfl ⟨rfl, trivial⟩ ?_
      refine ⟨_, rfl, _, hle1.trans hle4, (S19.pick [] [] (by decide) trivial), ?_⟩
      obtain rfl : A = 2 * d.crs.length := by omega
      have e2 : strandsL d = outc := by show (ringsF (nextN d) _ _).2 = _; rw [hfn]
      rw [e2]
      exact ⟨_, _, _, rfl, hr2, hdo⟩

noncomputable def CirclesOf_n0 : Code := Try.f50.body.getD .skip
noncomputable def CirclesOf_n1 : Code := cL CirclesOf_n0
noncomputable def CirclesOf_n2 : Code := cR CirclesOf_n0
noncomputable def CirclesOf_n3 : Code := cL CirclesOf_n2
noncomputable def CirclesOf_n4 : Code := cR CirclesOf_n2
noncomputable def CirclesOf_n5 : Code := cL CirclesOf_n4
noncomputable def CirclesOf_n6 : Code := cR CirclesOf_n4
noncomputable def CirclesOf_n7 : Code := cL CirclesOf_n6
noncomputable def CirclesOf_n8 : Code := cR CirclesOf_n6
noncomputable def CirclesOf_n9 : Code := cL CirclesOf_n8
noncomputable def CirclesOf_n10 : Code := cR CirclesOf_n8
noncomputable def CirclesOf_n11 : Code := cL CirclesOf_n9
noncomputable def CirclesOf_n12 : Code := cR CirclesOf_n9
noncomputable def CirclesOf_n13 : Code := cL CirclesOf_n12
noncomputable def CirclesOf_n14 : Code := cL CirclesOf_n13
noncomputable def CirclesOf_n15 : Code := cL CirclesOf_n14
noncomputable def CirclesOf_n16 : Code := cR CirclesOf_n14
noncomputable def CirclesOf_n17 : Code := cL CirclesOf_n15
noncomputable def CirclesOf_n18 : Code := cR CirclesOf_n15
noncomputable def CirclesOf_n19 : Code := cL CirclesOf_n18
noncomputable def CirclesOf_n20 : Code := cR CirclesOf_n18
noncomputable def CirclesOf_n21 : Code := cL CirclesOf_n16
noncomputable def CirclesOf_n22 : Code := cR CirclesOf_n16
noncomputable def CirclesOf_n23 : Code := cL CirclesOf_n21
noncomputable def CirclesOf_n24 : Code := cL CirclesOf_n23
noncomputable def CirclesOf_n25 : Code := cR CirclesOf_n23
noncomputable def CirclesOf_n26 : Code := cL CirclesOf_n25
noncomputable def CirclesOf_n27 : Code := cR CirclesOf_n25
noncomputable def CirclesOf_n28 : Code := cL CirclesOf_n27
noncomputable def CirclesOf_n29 : Code := cR CirclesOf_n27
noncomputable def CirclesOf_n30 : Code := cL CirclesOf_n28
noncomputable def CirclesOf_n31 : Code := cL CirclesOf_n30
noncomputable def CirclesOf_n32 : Code := cL CirclesOf_n31
noncomputable def CirclesOf_n33 : Code := cR CirclesOf_n31
noncomputable def CirclesOf_n34 : Code := cL CirclesOf_n32
noncomputable def CirclesOf_n35 : Code := cR CirclesOf_n32
noncomputable def CirclesOf_n36 : Code := cL CirclesOf_n35
noncomputable def CirclesOf_n37 : Code := cR CirclesOf_n35
noncomputable def CirclesOf_n38 : Code := cL CirclesOf_n33
noncomputable def CirclesOf_n39 : Code := cL CirclesOf_n38
noncomputable def CirclesOf_n40 : Code := cR CirclesOf_n38
noncomputable def CirclesOf_n41 : Code := cL CirclesOf_n40
noncomputable def CirclesOf_n42 : Code := cR CirclesOf_n40
noncomputable def CirclesOf_n43 : Code := cL CirclesOf_n42
noncomputable def CirclesOf_n44 : Code := cR CirclesOf_n42
noncomputable def CirclesOf_n45 : Code := cL CirclesOf_n44
noncomputable def CirclesOf_n46 : Code := cR CirclesOf_n44
noncomputable def CirclesOf_n47 : Code := cL CirclesOf_n46
noncomputable def CirclesOf_n48 : Code := cR CirclesOf_n46
noncomputable def CirclesOf_n49 : Code := cL CirclesOf_n48
noncomputable def CirclesOf_n50 : Code := cR CirclesOf_n48
noncomputable def CirclesOf_n51 : Code := cL CirclesOf_n50
noncomputable def CirclesOf_n52 : Code := cR CirclesOf_n50
noncomputable def CirclesOf_n53 : Code := cL CirclesOf_n52
noncomputable def CirclesOf_n54 : Code := cR CirclesOf_n52
noncomputable def CirclesOf_n55 : Code := cL CirclesOf_n29
noncomputable def CirclesOf_n56 : Code := cR CirclesOf_n29
noncomputable def CirclesOf_n57 : Code := cL CirclesOf_n56
noncomputable def CirclesOf_n58 : Code := cR CirclesOf_n56
noncomputable def CirclesOf_n59 : Code := cL CirclesOf_n10
noncomputable def CirclesOf_n60 : Code := cR CirclesOf_n10
set_option maxHeartbeats 1000000 in
set_option maxRecDepth 10000 in
theorem CirclesOf_t {w : World} {M : Hp} {X : Fr} (d : Dg) {dcrsA : Option Addr} {dcrsc : Nat} (hdcrs : RdA cdCr (M.un X.h) dcrsA dcrsc d.crs) (hn : d.crs.length ≤ 16) (hab : arcsB d = true) (S : SH w M X []) : Ct Try.prog 50 [.agg [.slice dcrsA d.crs.length dcrsc, .int .i64 d.loops].toArray] w M X (fun u N => ∃ A c vs, u = .slice A vs.length c ∧ RdA (cdV 44) N A c vs ∧ Rd2 cdInt N vs (circL d)) := by
  unfold Ct
  have rmhdcrs : d.crs.length * 40 ≤ 140737488355328 := hdcrs.room
  refine calls_in (b := CirclesOf_n0) Try.func50 rfl Try.ntmps50 rfl (fun C hC => ?_)
  refine ws_sub [(0, _)] ⟨rfl, trivial⟩ ?_
  refine ws_seqN CirclesOf_n1 CirclesOf_n2 rfl rfl rfl ?_
  refine ws_region rfl ?_
  refine wl_op (k := 0) (k' := 1) rfl rfl rfl (wo_box (l := [_, _]) rfl rfl rfl rfl rfl S ?_)
  intro gb1 w1 S1; clear S
  refine wl_op (k := 1) (k' := 2) rfl rfl rfl (wo_run rfl rfl (run_assign rfl rfl) ?_)
  refine wl_end rfl ?_
  refine nm_sub [(1, _)] ⟨rfl, trivial⟩ ?_
  refine nm_thn ?_
  refine ws_seqN CirclesOf_n3 CirclesOf_n4 rfl rfl rfl ?_
  refine ws_region rfl ?_
  refine wl_op (k := 0) (k' := 1) rfl rfl rfl (wo_run rfl rfl (run_fieldAddr rfl rfl Try.underlying27 rfl (ce25) (nf25)) ?_)
  refine wl_op (k := 1) (k' := 2) rfl rfl rfl (wo_run rfl rfl (run_load1 rfl rfl Try.underlying25 rfl (S1.boxc (i := 0) rfl rfl)) ?_)
  refine wl_op (k := 2) (k' := 3) rfl rfl rfl (wo_run rfl rfl (run_len rfl rfl rfl rfl rfl rfl Try.underlying25) ?_)
  refine wl_op (k := 3) (k' := 4) rfl rfl rfl (wo_run rfl rfl (run_mul rfl rfl rfl (by first | omega | (simp only [List.length_set, List.length_append, List.length_replicate, List.length_singleton, List.length_cons, List.length_nil]; omega))) ?_)
  refine wl_op (k := 4) (k' := 5) rfl rfl rfl (wo_run rfl rfl (run_assign rfl rfl) ?_)
  refine wl_end rfl ?_
  refine nm_sub [(1, _), (3, _)] ⟨rfl, rfl, trivial⟩ ?_
  refine nm_thn ?_
  refine ws_seqN CirclesOf_n5 CirclesOf_n6 rfl rfl rfl ?_
  refine ws_region rfl ?_
  refine wl_op (k := 0) (k' := 1) rfl rfl rfl (wo_run rfl rfl (run_move rfl rfl) ?_)
  refine wl_op (k := 1) (k' := 2) rfl rfl rfl (wo_run rfl rfl (run_add rfl rfl rfl (by first | omega | (simp only [List.length_set, List.length_append, List.length_replicate, List.length_singleton, List.length_cons, List.length_nil]; omega))) ?_)
  refine wl_op (k := 2) (k' := 3) rfl rfl rfl (wo_make (C := cdBool) ((2 * (d.crs.length : Int)).toNat + 1) rfl rfl rfl rfl rfl sl23 (by first | rfl | omega) (by show _ * 1 ≤ _; first | omega | (simp only [List.length_set, List.length_append, List.length_replicate, List.length_singleton, List.length_cons, List.length_nil]; omega)) S1 ?_)
  intro vr1 w2 S2; clear S1
  refine wl_op (k := 3) (k' := 4) rfl rfl rfl (wo_run rfl rfl (run_assign rfl rfl) ?_)
  refine wl_end rfl ?_
  refine nm_sub [(1, _), (3, _), (4, _)] ⟨rfl, rfl, rfl, trivial⟩ ?_
  refine nm_thn ?_
  refine ws_seqN CirclesOf_n7 CirclesOf_n8 rfl rfl rfl ?_
  refine ws_region rfl ?_
  refine wl_op (k := 0) (k' := 1) rfl rfl rfl (wo_run rfl rfl (run_assign rfl rfl) ?_)
  refine wl_end rfl ?_
  refine nm_thn ?_
  refine ws_seqN CirclesOf_n9 CirclesOf_n10 rfl rfl rfl ?_
  refine ws_seqN CirclesOf_n11 CirclesOf_n12 rfl rfl rfl ?_
  refine ws_region rfl ?_
  refine wl_op (k := 0) (k' := 1) rfl rfl rfl (wo_run rfl rfl (run_assign rfl rfl) ?_)
  refine wl_end rfl ?_
  refine nm_thn ?_
  refine ws_blockN CirclesOf_n13 0 rfl rfl rfl ?_
  have S3 := S2.nilrow (cdV 44); clear S2
  refine ws_loopE (fun mx_ ax_ wx_ => ∃ (A : Nat) (seen : List Bool) (outc : List (List Int)) (vs : List SlV) (vrs : Value) (vro : Value) (M1 : Hp), M.le M1 ∧ mx_ = 2 * d.crs.length - A ∧ Env 64 [(1, .pointer (some ⟨gb1, 0, none⟩)), (3, .int .i64 (2 * (d.crs.length : Int))), (4, vrs), (5, vro), (6, .int .i64 ((A + 1 : Nat) : Int))] ax_ ∧ SH wx_ M1 X [Rs.row (cdV 44) vro vs, Rs.row cdBool vrs seen, Rs.box gb1 27 [.slice dcrsA d.crs.length dcrsc, .int .i64 d.loops]] ∧ A ≤ 2 * d.crs.length ∧ ringsF (circN d) (2 * d.crs.length + 1) A = (seen, outc) ∧ Rd2 cdInt M1 vs outc) rfl ?_ ?_
  · intro ax_ hax_
    refine ⟨_, ⟨0, _, [], _, _, _, _, Hp.le_refl _, rfl, hax_.sub ⟨rfl, rfl, rfl, rfl, rfl, trivial⟩, S3.pick [0, 1, 2] [_, _, _] (by decide) ⟨rfl, rfl, rfl, trivial⟩, ?hq1f0, ?hq1f1, ?hq1f2⟩⟩
    case hq1f0 => omega
    case hq1f1 => rfl
    case hq1f2 => exact Rd2.nil_
  · rintro m1 a1 w3 ⟨A, seen, outc, vs, vrs, vro, M1, hle1, rfl, he1, S4, hA, hfn, hdo⟩
    clear S3
    refine ws_in he1 (c := CirclesOf_n14) rfl ?_
    clear he1 a1
    replace hdcrs := hdcrs.mono (Hp.un_mono hle1 S4.mx)
    have hvs := hdo.1
    have hmany := rings_many (circN d) (2 * d.crs.length + 1) A
    rw [hfn] at hmany
    replace hmany : outc.length ≤ A := hmany
    have hsl : seen.length = 2 * d.crs.length + 1 := by have h9 := ringsF_len (circN d) (2 * d.crs.length + 1) A; rw [hfn] at h9; exact h9
    refine ws_seqN CirclesOf_n15 CirclesOf_n16 rfl rfl rfl ?_
    refine ws_seqN CirclesOf_n17 CirclesOf_n18 rfl rfl rfl ?_
    refine ws_region rfl ?_
    refine wl_op (k := 0) (k' := 1) rfl rfl rfl (wo_run rfl rfl (run_move rfl rfl) ?_)
    refine wl_op (k := 1) (k' := 2) rfl rfl rfl (wo_run rfl rfl (run_move rfl rfl) ?_)
    refine wl_op (k := 2) (k' := 3) rfl rfl rfl (wo_run rfl rfl (run_leq rfl rfl rfl) ?_)
    refine wl_end rfl ?_
    refine nm_sub [(1, _), (3, _), (4, _), (5, _), (6, _), (20, _)] ⟨rfl, rfl, rfl, rfl, rfl, rfl, trivial⟩ ?_
    refine nm_thn ?_
    refine ws_condN CirclesOf_n19 CirclesOf_n20 rfl rfl rfl rfl (fun hb20 => ?_) (fun hb20 => ?_)
    · have hb20 := of_decide_eq_true hb20
      refine ws_skip rfl ?_
      refine nm_sub [(1, _), (3, _), (4, _), (5, _), (6, _)] ⟨rfl, rfl, rfl, rfl, rfl, trivial⟩ ?_
      refine nm_thn ?_
      refine ws_seqN CirclesOf_n21 CirclesOf_n22 rfl rfl rfl ?_
      refine ws_blockN CirclesOf_n23 1 rfl rfl rfl ?_
      refine ws_seqN CirclesOf_n24 CirclesOf_n25 rfl rfl rfl ?_
      refine ws_region rfl ?_
      refine wl_op (k := 0) (k' := 1) rfl rfl rfl (wo_run rfl rfl (run_assign rfl rfl) ?_)
      refine wl_end rfl ?_
      refine nm_thn ?_
      refine ws_seqN CirclesOf_n26 CirclesOf_n27 rfl rfl rfl ?_
      refine ws_region rfl ?_
      refine wl_op (k := 0) (k' := 1) rfl rfl rfl (wo_run rfl rfl (run_move rfl rfl) ?_)
      refine wl_op (k := 1) (k' := 2) rfl rfl rfl (wo_run rfl rfl (run_assign rfl rfl) ?_)
      refine wl_end rfl ?_
      refine nm_sub [(1, _), (3, _), (4, _), (5, _), (6, _), (7, _), (8, _)] ⟨rfl, rfl, rfl, rfl, rfl, rfl, rfl, trivial⟩ ?_
      refine nm_thn ?_
      refine ws_seqN CirclesOf_n28 CirclesOf_n29 rfl rfl rfl ?_
      refine ws_blockN CirclesOf_n30 2 rfl rfl rfl ?_
      have S5 := S4.nilrow cdInt; clear S4
      refine ws_loopE (fun mx_ ax_ wx_ => ∃ (seen2 : List Bool) (x : Nat) (acc : List Int) (vrs2 : Value) (vring : Value), mx_ = free seen2 ∧ Env 64 [(1, .pointer (some ⟨gb1, 0, none⟩)), (3, .int .i64 (2 * (d.crs.length : Int))), (4, vrs2), (5, vro), (6, .int .i64 ((A + 1 : Nat) : Int)), (7, vring), (8, .int .i64 (x : Int))] ax_ ∧ SH wx_ M1 X [Rs.row cdInt vring acc, Rs.row (cdV 44) vro vs, Rs.row cdBool vrs2 seen2, Rs.box gb1 27 [.slice dcrsA d.crs.length dcrsc, .int .i64 d.loops]] ∧ ringF (circN d) seen (A + 1) [] = ringF (circN d) seen2 x acc ∧ (1 ≤ x ∧ x ≤ 2 * d.crs.length) ∧ seen2.length = 2 * d.crs.length + 1 ∧ acc.length + free seen2 ≤ 100 ∧ (acc.length = 0 → seen2 = seen ∧ x = A + 1) ∧ (0 < acc.length → ga seen (A + 1) = false)) rfl ?_ ?_
      · intro ax_ hax_
        refine ⟨_, ⟨seen, A + 1, [], _, _, rfl, hax_.sub ⟨rfl, rfl, rfl, rfl, rfl, rfl, rfl, trivial⟩, S5.pick [0, 1, 2, 3] [_, _, _, _] (by decide) ⟨rfl, rfl, rfl, rfl, trivial⟩, ?hq2f0, ?hq2f1, ?hq2f2, ?hq2f3, ?hq2f4, ?hq2f5⟩⟩
        case hq2f0 => rfl
        case hq2f1 => omega
        case hq2f2 => exact hsl
        case hq2f3 => (have h8 : free seen ≤ seen.length := List.countP_le_length; simp only [List.length_nil]; omega)
        case hq2f4 => exact fun _ => ⟨rfl, rfl⟩
        case hq2f5 => (intro h; exact absurd h (by simp))
      · rintro m2 a2 w4 ⟨seen2, x, acc, vrs2, vring, rfl, he2, S6, hrg, hx, hs2, hroom, hem, hne⟩
        clear S5
        refine ws_in he2 (c := CirclesOf_n31) rfl ?_
        clear he2 a2
        obtain ⟨hE1, hE2, hE3, hE4, hE5⟩ := endD hab (a := (x : Int)) (by omega) false
        obtain ⟨hce, hce1, hce2⟩ := circN_eq hab hx.1 hx.2
        refine ws_seqN CirclesOf_n32 CirclesOf_n33 rfl rfl rfl ?_
        refine ws_seqN CirclesOf_n34 CirclesOf_n35 rfl rfl rfl ?_
        refine ws_region rfl ?_
        refine wl_op (k := 0) (k' := 1) rfl rfl rfl (wo_run rfl rfl (run_move rfl rfl) ?_)
        refine wl_op (k := 1) (k' := 2) rfl rfl rfl (wo_run rfl rfl (run_move rfl rfl) ?_)
        refine wl_op (k := 2) (k' := 3) rfl rfl rfl (wo_run rfl rfl (run_indexR (C := cdBool) (i := 2) x rfl rfl rfl sl23 S6 rfl (by first | rfl | omega) (by first | omega | (simp only [List.length_set, List.length_append, List.length_replicate, List.length_singleton, List.length_cons, List.length_nil]; omega))) ?_)
        refine wl_op (k := 3) (k' := 4) rfl rfl rfl (wo_run rfl rfl (run_load1 rfl rfl Try.underlying4 rfl (S6.rowc (i := 2) (e := x) (j := 0) rfl (by first | omega | (simp only [List.length_set, List.length_append, List.length_replicate, List.length_singleton, List.length_cons, List.length_nil]; omega)) rfl rfl)) ?_)
        refine wl_op (k := 4) (k' := 5) rfl rfl rfl (wo_run rfl rfl (run_not rfl rfl) ?_)
        refine wl_end rfl ?_
        refine nm_sub [(1, _), (3, _), (4, _), (5, _), (6, _), (7, _), (8, _), (28, _)] ⟨rfl, rfl, rfl, rfl, rfl, rfl, rfl, rfl, trivial⟩ ?_
        refine nm_thn ?_
        refine ws_condN CirclesOf_n36 CirclesOf_n37 rfl rfl rfl rfl (fun hb28 => ?_) (fun hb28 => ?_)
        · simp only [Bool.and_eq_true, Bool.or_eq_true, Bool.and_eq_false_iff, Bool.or_eq_false_iff, decide_eq_true_eq, decide_eq_false_iff_not, Bool.not_eq_true', Bool.not_eq_false'] at hb28
          refine ws_skip rfl ?_
          refine nm_sub [(1, _), (3, _), (4, _), (5, _), (6, _), (7, _), (8, _)] ⟨rfl, rfl, rfl, rfl, rfl, rfl, rfl, trivial⟩ ?_
          refine nm_thn ?_
          refine ws_blockN CirclesOf_n38 3 rfl rfl rfl ?_
          refine ws_seqN CirclesOf_n39 CirclesOf_n40 rfl rfl rfl ?_
          refine ws_region rfl ?_
          refine wl_op (k := 0) (k' := 1) rfl rfl rfl (wo_run rfl rfl (run_move rfl rfl) ?_)
          refine wl_op (k := 1) (k' := 2) rfl rfl rfl (wo_run rfl rfl (run_move rfl rfl) ?_)
          refine wl_op (k := 2) (k' := 3) rfl rfl rfl (wo_run rfl rfl (run_indexR (C := cdBool) (i := 2) x rfl rfl rfl sl23 S6 rfl (by first | rfl | omega) (by first | omega | (simp only [List.length_set, List.length_append, List.length_replicate, List.length_singleton, List.length_cons, List.length_nil]; omega))) ?_)
          refine wl_op (k := 3) (k' := 4) rfl rfl rfl (wo_storeR (C := cdBool) (i := 2) (e := x) (j := 0) (us := [_]) (H' := [_, _, _, _]) true rfl rfl S6 rfl (by first | omega | (simp only [List.length_set, List.length_append, List.length_replicate, List.length_singleton, List.length_cons, List.length_nil]; omega)) rfl rfl rfl sz4 rfl rfl rfl rfl ?_)
          intro w5 S7; clear S6
          refine wl_end rfl ?_
          refine nm_sub [(1, _), (3, _), (4, _), (5, _), (6, _), (7, _), (8, _)] ⟨rfl, rfl, rfl, rfl, rfl, rfl, rfl, trivial⟩ ?_
          refine nm_thn ?_
          refine ws_seqN CirclesOf_n41 CirclesOf_n42 rfl rfl rfl ?_
          refine ws_region rfl ?_
          refine wl_op (k := 0) (k' := 1) rfl rfl rfl (wo_run rfl rfl (run_move rfl rfl) ?_)
          refine wl_op (k := 1) (k' := 2) rfl rfl rfl (wo_run rfl rfl (run_move rfl rfl) ?_)
          refine wl_op (k := 2) (k' := 3) rfl rfl rfl (wo_buildSlice1 (C := cdInt) (l := [_]) rfl rfl rfl rfl sl44 rfl rfl rfl rfl S7 ?_)
          intro gb2 w6 S8; clear S7
          refine wl_op (k := 3) (k' := 4) rfl rfl rfl (wo_append1 (C := cdInt) (i := 1) (q := 0) (x : Int) rfl rfl rfl rfl rfl rfl rfl rfl sl44 S8 rfl rfl rfl (by show (_ + 1) * 8 ≤ _; first | omega | (simp only [List.length_set, List.length_append, List.length_replicate, List.length_singleton, List.length_cons, List.length_nil]; omega)) ?_)
          intro vring1 w7 S9; clear S8
          have S10 := S9.pick [1, 2, 3, 4] [_, _, _, _] (by decide) ⟨rfl, rfl, rfl, rfl, trivial⟩; clear S9
          refine wl_op (k := 4) (k' := 5) rfl rfl rfl (wo_run rfl rfl (run_assign rfl rfl) ?_)
          refine wl_end rfl ?_
          refine nm_sub [(1, _), (3, _), (4, _), (5, _), (6, _), (7, _), (8, _)] ⟨rfl, rfl, rfl, rfl, rfl, rfl, rfl, trivial⟩ ?_
          refine nm_thn ?_
          refine ws_seqN CirclesOf_n43 CirclesOf_n44 rfl rfl rfl ?_
          refine ws_region rfl ?_
          refine wl_op (k := 0) (k' := 1) rfl rfl rfl (wo_run rfl rfl (run_loadN (us := [_, _]) rfl rfl Try.underlying27 rfl sz27 (S10.boxcs (i := 3) rfl ⟨rfl, rfl, trivial⟩)) ?_)
          refine wl_op (k := 1) (k' := 2) rfl rfl rfl (wo_run rfl rfl (run_move rfl rfl) ?_)
          refine wl_op (k := 2) (k' := 3) rfl rfl rfl (wo_cq rfl rfl rfl rfl rfl rfl rfl cf61 S10 (EndOf_q d (x : Int) false (hdcrs.mono S10.un_XH) S10.lend) ?_)
          rintro _ w8 S11 rfl; clear S10
          refine wl_op (k := 3) (k' := 4) rfl rfl rfl (wo_alloc (l := [_, _]) rfl rfl rfl zr88 rfl S11 ?_)
          intro gb3 w9 S12; clear S11
          refine wl_op (k := 4) (k' := 5) rfl rfl rfl (wo_storeB (i := 0) (us := [_, _]) (l' := [_, _]) (H' := [_, _, _, _, _]) rfl rfl S12 rfl rfl rfl rfl sz88 rfl rfl rfl rfl ?_)
          intro w10 S13; clear S12
          refine wl_end rfl ?_
          refine nm_sub [(1, _), (3, _), (4, _), (5, _), (6, _), (7, _), (9, _)] ⟨rfl, rfl, rfl, rfl, rfl, rfl, rfl, trivial⟩ ?_
          refine nm_thn ?_
          refine ws_seqN CirclesOf_n45 CirclesOf_n46 rfl rfl rfl ?_
          refine ws_region rfl ?_
          refine wl_op (k := 0) (k' := 1) rfl rfl rfl (wo_run rfl rfl (run_fieldAddr rfl rfl Try.underlying27 rfl (ce25) (nf25)) ?_)
          refine wl_op (k := 1) (k' := 2) rfl rfl rfl (wo_run rfl rfl (run_load1 rfl rfl Try.underlying25 rfl (S13.boxc (i := 4) rfl rfl)) ?_)
          refine wl_op (k := 2) (k' := 3) rfl rfl rfl (wo_run rfl rfl (run_fieldAddr rfl rfl Try.underlying88 rfl (ce3) (nf3)) ?_)
          refine wl_op (k := 3) (k' := 4) rfl rfl rfl (wo_run rfl rfl (run_load1 rfl rfl Try.underlying3 rfl (S13.boxc (i := 0) rfl rfl)) ?_)
          refine wl_op (k := 4) (k' := 5) rfl rfl rfl (wo_run rfl rfl (run_indexM (C := cdCr) ((endOf d (x : Int) false).1) rfl rfl rfl sl25 (by first | rfl | omega) hdcrs (by first | omega | (simp only [List.length_set, List.length_append, List.length_replicate, List.length_singleton, List.length_cons, List.length_nil]; omega))) ?_)
          refine wl_op (k := 5) (k' := 6) rfl rfl rfl (wo_run rfl rfl (run_loadN (us := [_, _, _, _, _]) rfl rfl Try.underlying73 rfl sz73 (hdcrs.cellsAt S13.um (e := (endOf d (x : Int) false).1) (by first | omega | (simp only [List.length_set, List.length_append, List.length_replicate, List.length_singleton, List.length_cons, List.length_nil]; omega)) (j := 0) ⟨rfl, rfl, rfl, rfl, rfl, trivial⟩)) ?_)
          refine wl_op (k := 6) (k' := 7) rfl rfl rfl (wo_alloc (l := [_, _, _, _, _]) rfl rfl rfl zr73 rfl S13 ?_)
          intro gb4 w11 S14; clear S13
          refine wl_op (k := 7) (k' := 8) rfl rfl rfl (wo_storeB (i := 0) (us := [_, _, _, _, _]) (l' := [_, _, _, _, _]) (H' := [_, _, _, _, _, _]) rfl rfl S14 rfl rfl rfl rfl sz73 rfl rfl rfl rfl ?_)
          intro w12 S15; clear S14
          refine wl_end rfl ?_
          refine nm_sub [(1, _), (3, _), (4, _), (5, _), (6, _), (7, _), (9, _), (10, _)] ⟨rfl, rfl, rfl, rfl, rfl, rfl, rfl, rfl, trivial⟩ ?_
          refine nm_thn ?_
          refine ws_seqN CirclesOf_n47 CirclesOf_n48 rfl rfl rfl ?_
          refine ws_region rfl ?_
          refine wl_op (k := 0) (k' := 1) rfl rfl rfl (wo_run rfl rfl (run_fieldAddr rfl rfl Try.underlying88 rfl (ce3) (nf3)) ?_)
          refine wl_op (k := 1) (k' := 2) rfl rfl rfl (wo_run rfl rfl (run_load1 rfl rfl Try.underlying3 rfl (S15.boxc (i := 1) rfl rfl)) ?_)
          refine wl_op (k := 2) (k' := 3) rfl rfl rfl (wo_run rfl rfl (run_neq rfl rfl rfl) ?_)
          refine wl_end rfl ?_
          refine nm_sub [(1, _), (3, _), (4, _), (5, _), (6, _), (7, _), (10, _), (47, _)] ⟨rfl, rfl, rfl, rfl, rfl, rfl, rfl, rfl, trivial⟩ ?_
          refine nm_thn ?_
          refine ws_condN CirclesOf_n49 CirclesOf_n50 rfl rfl rfl rfl (fun hb47 => ?_) (fun hb47 => ?_)
          · have hb47 := of_decide_eq_true hb47
            refine ws_region rfl ?_
            refine wl_op (k := 0) (k' := 1) rfl rfl rfl (wo_run rfl rfl (run_fieldAddr rfl rfl Try.underlying73 rfl (ce3) (nf3)) ?_)
            refine wl_op (k := 1) (k' := 2) rfl rfl rfl (wo_run rfl rfl (run_load1 rfl rfl Try.underlying3 rfl (S15.boxc (i := 0) rfl rfl)) ?_)
            refine wl_eq 49 (.int .i64 (circN d x : Int)) rfl (int_eq (by rw [← hce]; unfold nxtC abv; first | rw [if_neg (by omega)] | rw [if_pos (by omega), if_pos (by assumption)] | rw [if_pos (by omega), if_neg (by rw [hb51]; exact Bool.false_ne_true)])) ?_
            refine wl_op (k := 2) (k' := 3) rfl rfl rfl (wo_run rfl rfl (run_assign rfl rfl) ?_)
            refine wl_end rfl ?_
            refine nm_blk ?_
            refine nm_lp ?_
            have hga : ga seen2 x = false := by simpa using hb28
            have hfr := free_set (seen := seen2) (x := x) (by omega) hga
            intro ax_ hax_
            refine ⟨_, ?hq3m, ⟨seen2.set x true, (circN d) x, acc ++ [(x : Int)], _, _, rfl, hax_.sub ⟨rfl, rfl, rfl, rfl, rfl, rfl, rfl, trivial⟩, S15.pick [2, 3, 4, 5] [_, _, _, _] (by decide) ⟨rfl, rfl, rfl, rfl, trivial⟩, ?hq3f0, ?hq3f1, ?hq3f2, ?hq3f3, ?hq3f4, ?hq3f5⟩⟩
            case hq3f0 => (rw [hrg]; exact ringF_go (by omega) hga)
            case hq3f1 => exact ⟨hce1, hce2⟩
            case hq3f2 => (rw [List.length_set]; exact hs2)
            case hq3f3 => (simp only [List.length_append, List.length_cons, List.length_nil]; omega)
            case hq3f4 => (intro h; rw [List.length_append] at h; exact absurd h (by simp))
            case hq3f5 => (intro _; by_cases h0 : acc.length = 0; (obtain ⟨q1, q2⟩ := hem h0; rw [← q1, ← q2]; exact hga); exact hne (by omega))
            case hq3m => omega
          · have hb47 := of_decide_eq_false hb47
            refine ws_seqN CirclesOf_n51 CirclesOf_n52 rfl rfl rfl ?_
            refine ws_region rfl ?_
            refine wl_op (k := 0) (k' := 1) rfl rfl rfl (wo_run rfl rfl (run_fieldAddr rfl rfl Try.underlying73 rfl (ce4) (nf4)) ?_)
            refine wl_op (k := 1) (k' := 2) rfl rfl rfl (wo_run rfl rfl (run_load1 rfl rfl Try.underlying4 rfl (S15.boxc (i := 0) rfl rfl)) ?_)
            refine wl_end rfl ?_
            refine nm_sub [(1, _), (3, _), (4, _), (5, _), (6, _), (7, _), (10, _), (51, _)] ⟨rfl, rfl, rfl, rfl, rfl, rfl, rfl, rfl, trivial⟩ ?_
            refine nm_thn ?_
            refine ws_condN CirclesOf_n53 CirclesOf_n54 rfl rfl rfl rfl (fun hb51 => ?_) (fun hb51 => ?_)
            · refine ws_region rfl ?_
              refine wl_op (k := 0) (k' := 1) rfl rfl rfl (wo_run rfl rfl (run_fieldAddr rfl rfl Try.underlying73 rfl (ce3) (nf3)) ?_)
              refine wl_op (k := 1) (k' := 2) rfl rfl rfl (wo_run rfl rfl (run_load1 rfl rfl Try.underlying3 rfl (S15.boxc (i := 0) rfl rfl)) ?_)
              refine wl_eq 53 (.int .i64 (circN d x : Int)) rfl (int_eq (by rw [← hce]; unfold nxtC abv; first | rw [if_neg (by omega)] | rw [if_pos (by omega), if_pos (by assumption)] | rw [if_pos (by omega), if_neg (by rw [hb51]; exact Bool.false_ne_true)])) ?_
              refine wl_op (k := 2) (k' := 3) rfl rfl rfl (wo_run rfl rfl (run_assign rfl rfl) ?_)
              refine wl_end rfl ?_
              refine nm_blk ?_
              refine nm_lp ?_
              have hga : ga seen2 x = false := by simpa using hb28
              have hfr := free_set (seen := seen2) (x := x) (by omega) hga
              intro ax_ hax_
              refine ⟨_, ?hq4m, ⟨seen2.set x true, (circN d) x, acc ++ [(x : Int)], _, _, rfl, hax_.sub ⟨rfl, rfl, rfl, rfl, rfl, rfl, rfl, trivial⟩, S15.pick [2, 3, 4, 5] [_, _, _, _] (by decide) ⟨rfl, rfl, rfl, rfl, trivial⟩, ?hq4f0, ?hq4f1, ?hq4f2, ?hq4f3, ?hq4f4, ?hq4f5⟩⟩
              case hq4f0 => (rw [hrg]; exact ringF_go (by omega) hga)
              case hq4f1 => exact ⟨hce1, hce2⟩
              case hq4f2 => (rw [List.length_set]; exact hs2)
              case hq4f3 => (simp only [List.length_append, List.length_cons, List.length_nil]; omega)
              case hq4f4 => (intro h; rw [List.length_append] at h; exact absurd h (by simp))
              case hq4f5 => (intro _; by_cases h0 : acc.length = 0; (obtain ⟨q1, q2⟩ := hem h0; rw [← q1, ← q2]; exact hga); exact hne (by omega))
              case hq4m => omega
            · refine ws_region rfl ?_
              refine wl_op (k := 0) (k' := 1) rfl rfl rfl (wo_run rfl rfl (run_fieldAddr rfl rfl Try.underlying73 rfl (ce3) (nf3)) ?_)
              refine wl_op (k := 1) (k' := 2) rfl rfl rfl (wo_run rfl rfl (run_load1 rfl rfl Try.underlying3 rfl (S15.boxc (i := 0) rfl rfl)) ?_)
              refine wl_eq 55 (.int .i64 (circN d x : Int)) rfl (int_eq (by rw [← hce]; unfold nxtC abv; first | rw [if_neg (by omega)] | rw [if_pos (by omega), if_pos (by assumption)] | rw [if_pos (by omega), if_neg (by rw [hb51]; exact Bool.false_ne_true)])) ?_
              refine wl_op (k := 2) (k' := 3) rfl rfl rfl (wo_run rfl rfl (run_assign rfl rfl) ?_)
              refine wl_end rfl ?_
              refine nm_blk ?_
              refine nm_lp ?_
              have hga : ga seen2 x = false := by simpa using hb28
              have hfr := free_set (seen := seen2) (x := x) (by omega) hga
              intro ax_ hax_
              refine ⟨_, ?hq5m, ⟨seen2.set x true, (circN d) x, acc ++ [(x : Int)], _, _, rfl, hax_.sub ⟨rfl, rfl, rfl, rfl, rfl, rfl, rfl, trivial⟩, S15.pick [2, 3, 4, 5] [_, _, _, _] (by decide) ⟨rfl, rfl, rfl, rfl, trivial⟩, ?hq5f0, ?hq5f1, ?hq5f2, ?hq5f3, ?hq5f4, ?hq5f5⟩⟩
              case hq5f0 => (rw [hrg]; exact ringF_go (by omega) hga)
              case hq5f1 => exact ⟨hce1, hce2⟩
              case hq5f2 => (rw [List.length_set]; exact hs2)
              case hq5f3 => (simp only [List.length_append, List.length_cons, List.length_nil]; omega)
              case hq5f4 => (intro h; rw [List.length_append] at h; exact absurd h (by simp))
              case hq5f5 => (intro _; by_cases h0 : acc.length = 0; (obtain ⟨q1, q2⟩ := hem h0; rw [← q1, ← q2]; exact hga); exact hne (by omega))
              case hq5m => omega
        · simp only [Bool.and_eq_true, Bool.or_eq_true, Bool.and_eq_false_iff, Bool.or_eq_false_iff, decide_eq_true_eq, decide_eq_false_iff_not, Bool.not_eq_true', Bool.not_eq_false'] at hb28
          refine ws_exit rfl rfl ?_
          refine nm_sub [(1, _), (3, _), (4, _), (5, _), (6, _), (7, _)] ⟨rfl, rfl, rfl, rfl, rfl, rfl, trivial⟩ ?_
          refine nm_thn ?_
          refine ws_seqN CirclesOf_n55 CirclesOf_n56 rfl rfl rfl ?_
          refine ws_region rfl ?_
          refine wl_op (k := 0) (k' := 1) rfl rfl rfl (wo_run rfl rfl (run_move rfl rfl) ?_)
          refine wl_op (k := 1) (k' := 2) rfl rfl rfl (wo_run rfl rfl (run_lenR (C := cdInt) (i := 0) rfl rfl rfl rfl rfl rfl sl44 S6 rfl) ?_)
          refine wl_op (k := 2) (k' := 3) rfl rfl rfl (wo_run rfl rfl (run_gtr rfl rfl rfl) ?_)
          refine wl_end rfl ?_
          refine nm_sub [(1, _), (3, _), (4, _), (5, _), (6, _), (7, _), (58, _)] ⟨rfl, rfl, rfl, rfl, rfl, rfl, rfl, trivial⟩ ?_
          refine nm_thn ?_
          refine ws_condN CirclesOf_n57 CirclesOf_n58 rfl rfl rfl rfl (fun hb58 => ?_) (fun hb58 => ?_)
          · have hb58 := of_decide_eq_true hb58
            have hgt : ga seen2 x = true := by simpa using hb28
            have hgn := hne (by omega)
            refine ws_region rfl ?_
            refine wl_op (k := 0) (k' := 1) rfl rfl rfl (wo_run rfl rfl (run_move rfl rfl) ?_)
            refine wl_op (k := 1) (k' := 2) rfl rfl rfl (wo_run rfl rfl (run_move rfl rfl) ?_)
            obtain ⟨M2, hle3, S16, ⟨A1, c1, e1, hr1⟩⟩ := S6.pubrow (i := 0) (H' := [_, _, _, _]) rfl rfl (by show _ * 8 ≤ _; first | omega | (simp only [List.length_set, List.length_append, List.length_replicate, List.length_singleton, List.length_cons, List.length_nil]; omega))
            clear S6; subst e1
            replace hdcrs := hdcrs.mono (Hp.un_mono hle3 S16.mx)
            replace hdo := hdo.mono hle3
            refine wl_op (k := 2) (k' := 3) rfl rfl rfl (wo_buildSlice1 (C := (cdV 44)) (l := [_]) rfl rfl rfl rfl sl37 rfl rfl rfl rfl S16 ?_)
            intro gb5 w13 S17; clear S16
            refine wl_op (k := 3) (k' := 4) rfl rfl rfl (wo_append1 (C := (cdV 44)) (i := 2) (q := 0) (⟨A1, acc.length, c1⟩ : SlV) rfl rfl rfl rfl rfl rfl rfl rfl sl37 S17 rfl rfl rfl (by show (_ + 1) * 24 ≤ _; first | omega | (simp only [List.length_set, List.length_append, List.length_replicate, List.length_singleton, List.length_cons, List.length_nil]; omega)) ?_)
            intro vro1 w14 S18; clear S17
            have S19 := S18.pick [1, 2, 3, 4] [_, _, _, _] (by decide) ⟨rfl, rfl, rfl, rfl, trivial⟩; clear S18
            have hd1 := hdo.snoc (c := c1) hr1
            refine wl_op (k := 4) (k' := 5) rfl rfl rfl (wo_run rfl rfl (run_assign rfl rfl) ?_)
            refine wl_end rfl ?_
            refine nm_blk ?_
            refine nm_sub [(1, _), (3, _), (4, _), (5, _), (6, _)] ⟨rfl, rfl, rfl, rfl, rfl, trivial⟩ ?_
            refine nm_thn ?_
            refine ws_region rfl ?_
            refine wl_op (k := 0) (k' := 1) rfl rfl rfl (wo_run rfl rfl (run_move rfl rfl) ?_)
            refine wl_op (k := 1) (k' := 2) rfl rfl rfl (wo_run rfl rfl (run_add rfl rfl rfl (by first | omega | (simp only [List.length_set, List.length_append, List.length_replicate, List.length_singleton, List.length_cons, List.length_nil]; omega))) ?_)
            refine wl_op (k := 2) (k' := 3) rfl rfl rfl (wo_run rfl rfl (run_assign rfl rfl) ?_)
            refine wl_end rfl ?_
            refine nm_lp ?_
            intro ax_ hax_
            refine ⟨_, ?hq6m, ⟨A + 1, _, (outc ++ [acc]), _, _, _, _, (hle1.trans hle3), rfl, hax_.sub ⟨rfl, rfl, rfl, rfl, rfl, trivial⟩, S19.pick [1, 2, 3] [_, _, _] (by decide) ⟨rfl, rfl, rfl, trivial⟩, ?hq6f0, ?hq6f1, ?hq6f2⟩⟩
            case hq6f0 => omega
            case hq6f1 => first | (rw [ringsF_ring (by rw [hfn]; exact hgn), hfn]; dsimp only; rw [hrg, ringF_stop hgt]) | (rw [q1]; exact (ringsF_skip (by rw [hfn]; show ga seen (A + 1) = true; rw [← q1, ← q2]; exact hgt)).trans hfn)
            case hq6f2 => exact hd1
            case hq6m => omega
          · have hb58 := of_decide_eq_false hb58
            have hgt : ga seen2 x = true := by simpa using hb28
            obtain ⟨q1, q2⟩ := hem (by omega)
            refine ws_skip rfl ?_
            refine nm_blk ?_
            refine nm_sub [(1, _), (3, _), (4, _), (5, _), (6, _)] ⟨rfl, rfl, rfl, rfl, rfl, trivial⟩ ?_
            refine nm_thn ?_
            refine ws_region rfl ?_
            refine wl_op (k := 0) (k' := 1) rfl rfl rfl (wo_run rfl rfl (run_move rfl rfl) ?_)
            refine wl_op (k := 1) (k' := 2) rfl rfl rfl (wo_run rfl rfl (run_add rfl rfl rfl (by first | omega | (simp only [List.length_set, List.length_append, List.length_replicate, List.length_singleton, List.length_cons, List.length_nil]; omega))) ?_)
            refine wl_op (k := 2) (k' := 3) rfl rfl rfl (wo_run rfl rfl (run_assign rfl rfl) ?_)
            refine wl_end rfl ?_
            refine nm_lp ?_
            intro ax_ hax_
            refine ⟨_, ?hq7m, ⟨A + 1, _, outc, _, _, _, _, (hle1), rfl, hax_.sub ⟨rfl, rfl, rfl, rfl, rfl, trivial⟩, S6.pick [1, 2, 3] [_, _, _] (by decide) ⟨rfl, rfl, rfl, trivial⟩, ?hq7f0, ?hq7f1, ?hq7f2⟩⟩
            case hq7f0 => omega
            case hq7f1 => first | (rw [ringsF_ring (by rw [hfn]; exact hgn), hfn]; dsimp only; rw [hrg, ringF_stop hgt]) | (rw [q1]; exact (ringsF_skip (by rw [hfn]; show ga seen (A + 1) = true; rw [← q1, ← q2]; exact hgt)).trans hfn)
            case hq7f2 => exact hdo
            case hq7m => omega
    · have hb20 := of_decide_eq_false hb20
      refine ws_exit rfl rfl ?_
      refine nm_sub [(5, _)] ⟨rfl, trivial⟩ ?_
      refine nm_thn ?_
      refine ws_seqN CirclesOf_n59 CirclesOf_n60 rfl rfl rfl ?_
      refine ws_region rfl ?_
      refine wl_op (k := 0) (k' := 1) rfl rfl rfl (wo_run rfl rfl (run_move rfl rfl) ?_)
      refine wl_op (k := 1) (k' := 2) rfl rfl rfl (wo_run rfl rfl (run_assign rfl rfl) ?_)
      refine wl_end rfl ?_
      refine nm_sub [(2, _)] ⟨rfl, trivial⟩ ?_
      refine nm_thn ?_
      obtain ⟨M3, hle4, S20, ⟨A2, c2, e2, hr2⟩⟩ := S4.pubrow (i := 0) (H' := [_, _, _]) rfl rfl (by show _ * 24 ≤ _; first | omega | (simp only [List.length_set, List.length_append, List.length_replicate, List.length_singleton, List.length_cons, List.length_nil]; omega))
      clear S4; subst e2
      replace hdcrs := hdcrs.mono (Hp.un_mono hle4 S20.mx)
      replace hdo := hdo.mono hle4
      refine ws_ret hC [_] rfl rfl ⟨rfl, trivial⟩ ?_
      refine ⟨_, rfl, _, hle1.trans hle4, (S20.pick [] [] (by decide) trivial), ?_⟩
      obtain rfl : A = 2 * d.crs.length := by omega
      have e2 : circL d = outc := by show (ringsF (circN d) _ _).2 = _; rw [hfn]
      rw [e2]
      exact ⟨_, _, _, rfl, hr2, hdo⟩

end Go.Proofs.Ytlbpgnimpcflaaa
