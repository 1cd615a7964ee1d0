/- Part 6 of the proof of the law HomflyTells: the walks through its functions and the plain laws that they need. -/
import Derived.Test.YthppkofceancjaaGreatHfZ5
import Derived.Lib.AppendZeros
set_option linter.unusedSimpArgs false
set_option linter.unusedVariables false
namespace Go.Proofs.YthppkofceancjaaGreat
open Go.ChangeShapes Go.WideShapes Go.ChangeAt Go.RowKit
/-- The arc behind an arc when each crossing is undone. -/
def abv (x : Cr) : Int × Int := if x.plus = true then (x.d, x.b) else (x.b, x.d)
noncomputable def Above_n0 : Code := Tryz.f139.body.getD .skip
noncomputable def Above_n1 : Code := cL Above_n0
noncomputable def Above_n2 : Code := cR Above_n0
noncomputable def Above_n3 : Code := cL Above_n2
noncomputable def Above_n4 : Code := cR Above_n2
noncomputable def Above_n5 : Code := cL Above_n3
noncomputable def Above_n6 : Code := cR Above_n3
noncomputable def Above_n7 : Code := cL Above_n6
noncomputable def Above_n8 : Code := cR Above_n6
noncomputable def Above_n9 : Code := cL Above_n7
noncomputable def Above_n10 : Code := cR Above_n7
noncomputable def Above_n11 : Code := cL Above_n4
noncomputable def Above_n12 : Code := cR Above_n4
set_option maxRecDepth 10000 in
theorem Above_q {w : World} {M : Hp} {X : Fr} (x : Cr) (S : SH w M X []) : Cq Tryz.prog 139 [.agg [.int .i64 x.a, .int .i64 x.b, .int .i64 x.c, .int .i64 x.d, .bool x.plus].toArray] w M X (fun u => u = .agg [.int .i64 (abv x).1, .int .i64 (abv x).2].toArray) := by
 unfold Cq
 refine calls_in (b := Above_n0) Tryz.func139 rfl Tryz.ntmps139 rfl (fun C hC => (ws_sub [(0, _)] ⟨rfl, trivial⟩ (ws_seqN Above_n1 Above_n2 rfl rfl rfl (ws_region rfl (wlo 0 1 rfl rfl rfl (wo_box (l := [_, _, _, _, _]) rfl rfl rfl rfl rfl S ?_))))))
 intro gb1 w1 S1; clear S
 refine wlo 1 2 rfl rfl rfl (wo_alloc (l := [_, _]) rfl rfl rfl zr128 rfl S1 ?_)
 intro gb2 w2 S2; clear S1
 refine wl_end rfl (nmk [1, 2] rfl (nm_thn (ws_seqN Above_n3 Above_n4 rfl rfl rfl (ws_seqN Above_n5 Above_n6 rfl rfl rfl (ws_region rfl (wlo 0 1 rfl rfl rfl (wo_run rfl rfl (run_fieldAddr rfl rfl Tryz.underlying77 rfl (ce4) (nf4)) (wlo 1 2 rfl rfl rfl (wo_run rfl rfl (run_load1 rfl rfl Tryz.underlying4 rfl (S2.boxc (i := 1) rfl rfl)) (wl_end rfl ?_))))))))))
 refine nmk [1, 2, 4] rfl (nm_thn ?_)
 refine ws_condN Above_n7 Above_n8 rfl rfl rfl rfl (fun hb4 => ?_) (fun hb4 => ?_)
 ·refine ws_seqN Above_n9 Above_n10 rfl rfl rfl (ws_region rfl (wlo 0 1 rfl rfl rfl (wo_run rfl rfl (run_fieldAddr rfl rfl Tryz.underlying77 rfl (ce3) (nf3)) (wlo 1 2 rfl rfl rfl (wo_run rfl rfl (run_load1 rfl rfl Tryz.underlying3 rfl (S2.boxc (i := 1) rfl rfl)) (wlo 2 3 rfl rfl rfl (wo_run rfl rfl (run_fieldAddr rfl rfl Tryz.underlying77 rfl (ce3) (nf3)) (wlo 3 4 rfl rfl rfl (wo_run rfl rfl (run_load1 rfl rfl Tryz.underlying3 rfl (S2.boxc (i := 1) rfl rfl)) (wlo 4 5 rfl rfl rfl (wo_run rfl rfl (run_buildA (l := [_, _]) (pl := [(0, 1), (1, 1)]) rfl rfl Tryz.underlying128 zr128 sz3 rfl rfl rfl) (wlo 5 6 rfl rfl rfl (wo_storeB (i := 0) (us := [_, _]) (l' := [_, _]) (H' := [_, _]) rfl rfl S2 rfl rfl rfl rfl sz128 rfl rfl rfl rfl ?_)))))))))))))
  intro w3 S3; clear S2
  refine wl_end rfl (nmk [2] rfl (nm_thn (ws_ret hC [_] rfl rfl ⟨⟨_, rfl, loadVarN (us := [_, _]) Tryz.underlying128 rfl sz128 (S3.boxcs (i := 0) rfl ⟨rfl, rfl, trivial⟩)⟩, trivial⟩ ?_)))
  exact ⟨_, rfl, (S3.pick [] [] (by decide) trivial), (by show Value.agg _ = _; unfold abv; first | rw [if_pos (by assumption)] | rw [if_neg (by simp [*])])⟩
 ·refine ws_skip rfl (nmk [1, 2] rfl (nm_thn (ws_seqN Above_n11 Above_n12 rfl rfl rfl (ws_region rfl (wlo 0 1 rfl rfl rfl (wo_run rfl rfl (run_fieldAddr rfl rfl Tryz.underlying77 rfl (ce3) (nf3)) (wlo 1 2 rfl rfl rfl (wo_run rfl rfl (run_load1 rfl rfl Tryz.underlying3 rfl (S2.boxc (i := 1) rfl rfl)) (wlo 2 3 rfl rfl rfl (wo_run rfl rfl (run_fieldAddr rfl rfl Tryz.underlying77 rfl (ce3) (nf3)) (wlo 3 4 rfl rfl rfl (wo_run rfl rfl (run_load1 rfl rfl Tryz.underlying3 rfl (S2.boxc (i := 1) rfl rfl)) ?_))))))))))))
  refine wlo 4 5 rfl rfl rfl (wo_run rfl rfl (run_buildA (l := [_, _]) (pl := [(0, 1), (1, 1)]) rfl rfl Tryz.underlying128 zr128 sz3 rfl rfl rfl) (wlo 5 6 rfl rfl rfl (wo_storeB (i := 0) (us := [_, _]) (l' := [_, _]) (H' := [_, _]) rfl rfl S2 rfl rfl rfl rfl sz128 rfl rfl rfl rfl ?_)))
  intro w4 S4; clear S2
  refine wl_end rfl (nmk [2] rfl (nm_thn (ws_ret hC [_] rfl rfl ⟨⟨_, rfl, loadVarN (us := [_, _]) Tryz.underlying128 rfl sz128 (S4.boxcs (i := 0) rfl ⟨rfl, rfl, trivial⟩)⟩, trivial⟩ ?_)))
  exact ⟨_, rfl, (S4.pick [] [] (by decide) trivial), (by show Value.agg _ = _; unfold abv; first | rw [if_pos (by assumption)] | rw [if_neg (by simp [*])])⟩
noncomputable def Below_n0 : Code := Tryz.f138.body.getD .skip
noncomputable def Below_n1 : Code := cL Below_n0
noncomputable def Below_n2 : Code := cR Below_n0
noncomputable def Below_n3 : Code := cL Below_n2
noncomputable def Below_n4 : Code := cR Below_n2
set_option maxRecDepth 10000 in
theorem Below_q {w : World} {M : Hp} {X : Fr} (x : Cr) (S : SH w M X []) : Cq Tryz.prog 138 [.agg [.int .i64 x.a, .int .i64 x.b, .int .i64 x.c, .int .i64 x.d, .bool x.plus].toArray] w M X (fun u => u = .agg [.int .i64 x.a, .int .i64 x.c].toArray) := by
 unfold Cq
 refine calls_in (b := Below_n0) Tryz.func138 rfl Tryz.ntmps138 rfl (fun C hC => (ws_sub [(0, _)] ⟨rfl, trivial⟩ (ws_seqN Below_n1 Below_n2 rfl rfl rfl (ws_region rfl (wlo 0 1 rfl rfl rfl (wo_box (l := [_, _, _, _, _]) rfl rfl rfl rfl rfl S ?_))))))
 intro gb1 w1 S1; clear S
 refine wlo 1 2 rfl rfl rfl (wo_alloc (l := [_, _]) rfl rfl rfl zr128 rfl S1 ?_)
 intro gb2 w2 S2; clear S1
 refine wl_end rfl (nmk [1, 2] rfl (nm_thn (ws_seqN Below_n3 Below_n4 rfl rfl rfl (ws_region rfl (wlo 0 1 rfl rfl rfl (wo_run rfl rfl (run_fieldAddr rfl rfl Tryz.underlying77 rfl (ce3) (nf3)) (wlo 1 2 rfl rfl rfl (wo_run rfl rfl (run_load1 rfl rfl Tryz.underlying3 rfl (S2.boxc (i := 1) rfl rfl)) (wlo 2 3 rfl rfl rfl (wo_run rfl rfl (run_fieldAddr rfl rfl Tryz.underlying77 rfl (ce3) (nf3)) (wlo 3 4 rfl rfl rfl (wo_run rfl rfl (run_load1 rfl rfl Tryz.underlying3 rfl (S2.boxc (i := 1) rfl rfl)) ?_))))))))))))
 refine wlo 4 5 rfl rfl rfl (wo_run rfl rfl (run_buildA (l := [_, _]) (pl := [(0, 1), (1, 1)]) rfl rfl Tryz.underlying128 zr128 sz3 rfl rfl rfl) (wlo 5 6 rfl rfl rfl (wo_storeB (i := 0) (us := [_, _]) (l' := [_, _]) (H' := [_, _]) rfl rfl S2 rfl rfl rfl rfl sz128 rfl rfl rfl rfl ?_)))
 intro w3 S3; clear S2
 refine wl_end rfl (nmk [2] rfl (nm_thn (ws_ret hC [_] rfl rfl ⟨⟨_, rfl, loadVarN (us := [_, _]) Tryz.underlying128 rfl sz128 (S3.boxcs (i := 0) rfl ⟨rfl, rfl, trivial⟩)⟩, trivial⟩ ?_)))
 exact ⟨_, rfl, (S3.pick [] [] (by decide) trivial), rfl⟩
end Go.Proofs.YthppkofceancjaaGreat
namespace Go.Proofs.YthppkofceancjaaGreat
open Go.ChangeShapes Go.WideShapes Go.ChangeAt Go.RowKit
noncomputable def StrandsOf_n0 : Code := Tryz.f51.body.getD .skip
noncomputable def StrandsOf_n1 : Code := cL StrandsOf_n0
noncomputable def StrandsOf_n2 : Code := cR StrandsOf_n0
noncomputable def StrandsOf_n3 : Code := cL StrandsOf_n2
noncomputable def StrandsOf_n4 : Code := cR StrandsOf_n2
noncomputable def StrandsOf_n5 : Code := cL StrandsOf_n4
noncomputable def StrandsOf_n6 : Code := cR StrandsOf_n4
noncomputable def StrandsOf_n7 : Code := cL StrandsOf_n6
noncomputable def StrandsOf_n8 : Code := cR StrandsOf_n6
noncomputable def StrandsOf_n9 : Code := cL StrandsOf_n8
noncomputable def StrandsOf_n10 : Code := cR StrandsOf_n8
noncomputable def StrandsOf_n11 : Code := cL StrandsOf_n9
noncomputable def StrandsOf_n12 : Code := cR StrandsOf_n9
noncomputable def StrandsOf_n13 : Code := cL StrandsOf_n12
noncomputable def StrandsOf_n14 : Code := cL StrandsOf_n13
noncomputable def StrandsOf_n15 : Code := cL StrandsOf_n14
noncomputable def StrandsOf_n16 : Code := cR StrandsOf_n14
noncomputable def StrandsOf_n17 : Code := cL StrandsOf_n15
noncomputable def StrandsOf_n18 : Code := cR StrandsOf_n15
noncomputable def StrandsOf_n19 : Code := cL StrandsOf_n18
noncomputable def StrandsOf_n20 : Code := cR StrandsOf_n18
noncomputable def StrandsOf_n21 : Code := cL StrandsOf_n16
noncomputable def StrandsOf_n22 : Code := cR StrandsOf_n16
noncomputable def StrandsOf_n23 : Code := cL StrandsOf_n21
noncomputable def StrandsOf_n24 : Code := cL StrandsOf_n23
noncomputable def StrandsOf_n25 : Code := cR StrandsOf_n23
noncomputable def StrandsOf_n26 : Code := cL StrandsOf_n25
noncomputable def StrandsOf_n27 : Code := cR StrandsOf_n25
noncomputable def StrandsOf_n28 : Code := cL StrandsOf_n27
noncomputable def StrandsOf_n29 : Code := cR StrandsOf_n27
noncomputable def StrandsOf_n30 : Code := cL StrandsOf_n28
noncomputable def StrandsOf_n31 : Code := cL StrandsOf_n30
noncomputable def StrandsOf_n32 : Code := cL StrandsOf_n31
noncomputable def StrandsOf_n33 : Code := cR StrandsOf_n31
noncomputable def StrandsOf_n34 : Code := cL StrandsOf_n32
noncomputable def StrandsOf_n35 : Code := cR StrandsOf_n32
noncomputable def StrandsOf_n36 : Code := cL StrandsOf_n35
noncomputable def StrandsOf_n37 : Code := cR StrandsOf_n35
noncomputable def StrandsOf_n38 : Code := cL StrandsOf_n33
noncomputable def StrandsOf_n39 : Code := cL StrandsOf_n38
noncomputable def StrandsOf_n40 : Code := cR StrandsOf_n38
noncomputable def StrandsOf_n41 : Code := cL StrandsOf_n40
noncomputable def StrandsOf_n42 : Code := cR StrandsOf_n40
noncomputable def StrandsOf_n43 : Code := cL StrandsOf_n42
noncomputable def StrandsOf_n44 : Code := cR StrandsOf_n42
noncomputable def StrandsOf_n45 : Code := cL StrandsOf_n29
noncomputable def StrandsOf_n46 : Code := cR StrandsOf_n29
noncomputable def StrandsOf_n47 : Code := cL StrandsOf_n46
noncomputable def StrandsOf_n48 : Code := cR StrandsOf_n46
noncomputable def StrandsOf_n49 : Code := cL StrandsOf_n10
noncomputable def StrandsOf_n50 : Code := cR StrandsOf_n10
set_option maxHeartbeats 1000000 in
set_option maxRecDepth 10000 in
theorem StrandsOf_t {w : World} {M : Hp} {X : Fr} (d : Dg) {dcrsA : Option Addr} {dcrsc : Nat} (hdcrs : RdA cdCr (M.un X.h) dcrsA dcrsc d.crs) (hn : d.crs.length ≤ 16) (hab : arcsB d = true) (S : SH w M X []) : Ct Tryz.prog 51 [.agg [.slice dcrsA d.crs.length dcrsc, .int .i64 d.loops].toArray] w M X (fun u N => ∃ A c vs, u = .slice A vs.length c ∧ RdA (cdV 53) N A c vs ∧ Rd2 cdInt N vs (strandsL d)) := by
 unfold Ct
 have rmhdcrs : d.crs.length * 40 ≤ 140737488355328 := hdcrs.room
 refine calls_in (b := StrandsOf_n0) Tryz.func51 rfl Tryz.ntmps51 rfl (fun C hC => (ws_sub [(0, _)] ⟨rfl, trivial⟩ (ws_seqN StrandsOf_n1 StrandsOf_n2 rfl rfl rfl (ws_region rfl (wlo 0 1 rfl rfl rfl (wo_box (l := [_, _]) rfl rfl rfl rfl rfl S ?_))))))
 intro gb1 w1 S1; clear S
 refine wla 1 2 rfl rfl rfl rfl rfl rfl rfl (wl_end rfl (nmk [1] rfl (nm_thn (ws_seqN StrandsOf_n3 StrandsOf_n4 rfl rfl rfl (ws_region rfl (wlo 0 1 rfl rfl rfl (wo_run rfl rfl (run_fieldAddr rfl rfl Tryz.underlying24 rfl (ce22) (nf22)) (wlo 1 2 rfl rfl rfl (wo_run rfl rfl (run_load1 rfl rfl Tryz.underlying22 rfl (S1.boxc (i := 0) rfl rfl)) (wlo 2 3 rfl rfl rfl (wo_run rfl rfl (run_len rfl rfl rfl rfl rfl rfl Tryz.underlying22) ?_)))))))))))
 refine wlo 3 4 rfl rfl rfl (wo_run rfl rfl (run_mul rfl rfl rfl (by first | omega | (simp only [lens]; omega))) ?_)
 refine wla 4 5 rfl rfl rfl rfl rfl rfl rfl (wl_end rfl (nmk [1, 3] rfl (nm_thn (ws_seqN StrandsOf_n5 StrandsOf_n6 rfl rfl rfl (ws_region rfl (wlm 0 1 rfl rfl rfl rfl rfl rfl rfl (wlo 1 2 rfl rfl rfl (wo_run rfl rfl (run_add rfl rfl rfl (by first | omega | (simp only [lens]; omega))) ?_))))))))
 refine wlo 2 3 rfl rfl rfl (wo_make (C := cdBool) ((2 * (d.crs.length : Int)).toNat + 1) rfl rfl rfl rfl rfl sl130 (by first | rfl | omega) (by show _ * 1 ≤ _; first | omega | (simp only [lens]; omega)) S1 ?_)
 intro vr1 w2 S2; clear S1
 refine wla 3 4 rfl rfl rfl rfl rfl rfl rfl (wl_end rfl (nmk [1, 3, 4] rfl (nm_thn (ws_seqN StrandsOf_n7 StrandsOf_n8 rfl rfl rfl (ws_region rfl (wla 0 1 rfl rfl rfl rfl rfl rfl rfl (wl_end rfl (nm_thn ?_))))))))
 refine ws_seqN StrandsOf_n9 StrandsOf_n10 rfl rfl rfl (ws_seqN StrandsOf_n11 StrandsOf_n12 rfl rfl rfl (ws_region rfl (wla 0 1 rfl rfl rfl rfl rfl rfl rfl (wl_end rfl (nm_thn (ws_blockN StrandsOf_n13 0 rfl rfl rfl ?_))))))
 have S3 := S2.nilrow (cdV 53); clear S2
 refine ws_loopE (fun mx_ ax_ wx_ => ∃ (A : Nat) (seen : List Bool) (outc : List (List Int)) (vs : List SlV) (vrs : Value) (vro : Value) (M1 : Hp), M.le M1 ∧ mx_ = 2 * d.crs.length - A ∧ Env 55 [(1, .pointer (some ⟨gb1, 0, none⟩)), (3, .int .i64 (2 * (d.crs.length : Int))), (4, vrs), (5, vro), (6, .int .i64 ((A + 1 : Nat) : Int))] ax_ ∧ SH wx_ M1 X [Rs.row (cdV 53) vro vs, Rs.row cdBool vrs seen, Rs.box gb1 24 [.slice dcrsA d.crs.length dcrsc, .int .i64 d.loops]] ∧ A ≤ 2 * d.crs.length ∧ ringsF (nextN d) (2 * d.crs.length + 1) A = (seen, outc) ∧ Rd2 cdInt M1 vs outc) rfl ?_ ?_
 ·intro ax_ hax_
  refine ⟨_, ⟨0, _, [], _, _, _, _, Hp.le_refl _, rfl, hax_.sub ⟨rfl, rfl, rfl, rfl, rfl, trivial⟩, S3.pick [0, 1, 2] [_, _, _] (by decide) ⟨rfl, rfl, rfl, trivial⟩, ?hq1f0, ?hq1f1, ?hq1f2⟩⟩
  case hq1f0 => omega
  case hq1f1 => rfl
  case hq1f2 => exact Rd2.nil_
 ·rintro m1 a1 w3 ⟨A, seen, outc, vs, vrs, vro, M1, hle1, rfl, he1, S4, hA, hfn, hdo⟩
  clear S3
  refine ws_in he1 (c := StrandsOf_n14) rfl ?_
  clear he1 a1
  replace hdcrs := hdcrs.mono (Hp.un_mono hle1 S4.mx)
  have hvs := hdo.1
  have hmany := rings_many (nextN d) (2 * d.crs.length + 1) A
  rw [hfn] at hmany
  replace hmany : outc.length ≤ A := hmany
  have hsl : seen.length = 2 * d.crs.length + 1 := by have h9 := ringsF_len (nextN d) (2 * d.crs.length + 1) A; rw [hfn] at h9; exact h9
  refine ws_seqN StrandsOf_n15 StrandsOf_n16 rfl rfl rfl (ws_seqN StrandsOf_n17 StrandsOf_n18 rfl rfl rfl (ws_region rfl (wlm 0 1 rfl rfl rfl rfl rfl rfl rfl (wlm 1 2 rfl rfl rfl rfl rfl rfl rfl (wlo 2 3 rfl rfl rfl (wo_run rfl rfl (run_leq rfl rfl rfl) (wl_end rfl (nmk [1, 3, 4, 5, 6, 19] rfl (nm_thn ?_)))))))))
  refine ws_condN StrandsOf_n19 StrandsOf_n20 rfl rfl rfl rfl (fun hb19 => ?_) (fun hb19 => ?_)
  ·replace hb19 := of_decide_eq_true hb19
   refine ws_skip rfl (nmk [1, 3, 4, 5, 6] rfl (nm_thn (ws_seqN StrandsOf_n21 StrandsOf_n22 rfl rfl rfl (ws_blockN StrandsOf_n23 1 rfl rfl rfl (ws_seqN StrandsOf_n24 StrandsOf_n25 rfl rfl rfl (ws_region rfl (wla 0 1 rfl rfl rfl rfl rfl rfl rfl (wl_end rfl ?_))))))))
   refine nm_thn (ws_seqN StrandsOf_n26 StrandsOf_n27 rfl rfl rfl (ws_region rfl (wlm 0 1 rfl rfl rfl rfl rfl rfl rfl (wla 1 2 rfl rfl rfl rfl rfl rfl rfl (wl_end rfl (nmk [1, 3, 4, 5, 6, 7, 8] rfl (nm_thn (ws_seqN StrandsOf_n28 StrandsOf_n29 rfl rfl rfl ?_))))))))
   refine ws_blockN StrandsOf_n30 2 rfl rfl rfl ?_
   have S5 := S4.nilrow cdInt; clear S4
   refine ws_loopE (fun mx_ ax_ wx_ => ∃ (seen2 : List Bool) (x : Nat) (acc : List Int) (vrs2 : Value) (vring : Value), mx_ = free seen2 ∧ Env 55 [(1, .pointer (some ⟨gb1, 0, none⟩)), (3, .int .i64 (2 * (d.crs.length : Int))), (4, vrs2), (5, vro), (6, .int .i64 ((A + 1 : Nat) : Int)), (7, vring), (8, .int .i64 (x : Int))] ax_ ∧ SH wx_ M1 X [Rs.row cdInt vring acc, Rs.row (cdV 53) vro vs, Rs.row cdBool vrs2 seen2, Rs.box gb1 24 [.slice dcrsA d.crs.length dcrsc, .int .i64 d.loops]] ∧ ringF (nextN d) seen (A + 1) [] = ringF (nextN d) seen2 x acc ∧ (1 ≤ x ∧ x ≤ 2 * d.crs.length) ∧ seen2.length = 2 * d.crs.length + 1 ∧ acc.length + free seen2 ≤ 100 ∧ (acc.length = 0 → seen2 = seen ∧ x = A + 1) ∧ (0 < acc.length → ga seen (A + 1) = false)) rfl ?_ ?_
   ·intro ax_ hax_
    refine ⟨_, ⟨seen, A + 1, [], _, _, rfl, hax_.sub ⟨rfl, rfl, rfl, rfl, rfl, rfl, rfl, trivial⟩, S5.pick [0, 1, 2, 3] [_, _, _, _] (by decide) ⟨rfl, rfl, rfl, rfl, trivial⟩, ?hq2f0, ?hq2f1, ?hq2f2, ?hq2f3, ?hq2f4, ?hq2f5⟩⟩
    case hq2f0 => rfl
    case hq2f1 => omega
    case hq2f2 => exact hsl
    case hq2f3 => (have h8 : free seen ≤ seen.length := List.countP_le_length; simp only [List.length_nil]; omega)
    case hq2f4 => exact fun _ => ⟨rfl, rfl⟩
    case hq2f5 => (intro h; exact absurd h (by simp))
   ·rintro m2 a2 w4 ⟨seen2, x, acc, vrs2, vring, rfl, he2, S6, hrg, hx, hs2, hroom, hem, hne⟩
    clear S5
    refine ws_in he2 (c := StrandsOf_n31) rfl ?_
    clear he2 a2
    obtain ⟨hE1, hE2, hE3, hE4, hE5⟩ := endD hab (a := (x : Int)) (by omega) false
    obtain ⟨hce, hce1, hce2⟩ := nextN_eq hab hx.1 hx.2
    refine ws_seqN StrandsOf_n32 StrandsOf_n33 rfl rfl rfl (ws_seqN StrandsOf_n34 StrandsOf_n35 rfl rfl rfl (ws_region rfl (wlm 0 1 rfl rfl rfl rfl rfl rfl rfl (wlm 1 2 rfl rfl rfl rfl rfl rfl rfl (wlo 2 3 rfl rfl rfl (wo_run rfl rfl (run_indexR (C := cdBool) (i := 2) x rfl rfl rfl sl130 S6 rfl (by first | rfl | omega) (by first | omega | (simp only [lens]; omega))) ?_))))))
    refine wlo 3 4 rfl rfl rfl (wo_run rfl rfl (run_load1 rfl rfl Tryz.underlying4 rfl (S6.rowc (i := 2) (e := x) (j := 0) rfl (by first | omega | (simp only [lens]; omega)) rfl rfl)) ?_)
    refine wlo 4 5 rfl rfl rfl (wo_run rfl rfl (run_not rfl rfl) (wl_end rfl (nmk [1, 3, 4, 5, 6, 7, 8, 27] rfl (nm_thn ?_))))
    refine ws_condN StrandsOf_n36 StrandsOf_n37 rfl rfl rfl rfl (fun hb27 => ?_) (fun hb27 => ?_)
    ·simp only [Bool.and_eq_true, Bool.or_eq_true, Bool.and_eq_false_iff, Bool.or_eq_false_iff, decide_eq_true_eq, decide_eq_false_iff_not, Bool.not_eq_true', Bool.not_eq_false'] at hb27
     refine ws_skip rfl (nmk [1, 3, 4, 5, 6, 7, 8] rfl (nm_thn (ws_blockN StrandsOf_n38 3 rfl rfl rfl (ws_seqN StrandsOf_n39 StrandsOf_n40 rfl rfl rfl (ws_region rfl (wlm 0 1 rfl rfl rfl rfl rfl rfl rfl (wlm 1 2 rfl rfl rfl rfl rfl rfl rfl (wlo 2 3 rfl rfl rfl (wo_run rfl rfl (run_indexR (C := cdBool) (i := 2) x rfl rfl rfl sl130 S6 rfl (by first | rfl | omega) (by first | omega | (simp only [lens]; omega))) ?_)))))))))
     refine wlo 3 4 rfl rfl rfl (wo_storeR (C := cdBool) (i := 2) (e := x) (j := 0) (us := [_]) (H' := [_, _, _, _]) true rfl rfl S6 rfl (by first | omega | (simp only [lens]; omega)) rfl rfl rfl sz4 rfl rfl rfl rfl ?_)
     intro w5 S7; clear S6
     refine wl_end rfl (nmk [1, 3, 4, 5, 6, 7, 8] rfl (nm_thn (ws_seqN StrandsOf_n41 StrandsOf_n42 rfl rfl rfl (ws_region rfl (wlm 0 1 rfl rfl rfl rfl rfl rfl rfl (wlm 1 2 rfl rfl rfl rfl rfl rfl rfl (wlo 2 3 rfl rfl rfl (wo_buildSlice1 (C := cdInt) (l := [_]) rfl rfl rfl rfl sl53 rfl rfl rfl rfl S7 ?_))))))))
     intro gb2 w6 S8; clear S7
     refine wlo 3 4 rfl rfl rfl (wo_append1 (C := cdInt) (i := 1) (q := 0) (x : Int) rfl rfl rfl rfl rfl rfl rfl rfl sl53 S8 rfl rfl rfl (by show (_ + 1) * 8 ≤ _; first | omega | (simp only [lens]; omega)) ?_)
     intro vring1 w7 S9; clear S8
     have S10 := S9.pick [1, 2, 3, 4] [_, _, _, _] (by decide) ⟨rfl, rfl, rfl, rfl, trivial⟩; clear S9
     refine wla 4 5 rfl rfl rfl rfl rfl rfl rfl (wl_end rfl (nmk [1, 3, 4, 5, 6, 7, 8] rfl (nm_thn (ws_seqN StrandsOf_n43 StrandsOf_n44 rfl rfl rfl (ws_region rfl (wlo 0 1 rfl rfl rfl (wo_run rfl rfl (run_loadN (us := [_, _]) rfl rfl Tryz.underlying24 rfl sz24 (S10.boxcs (i := 3) rfl ⟨rfl, rfl, trivial⟩)) (wlm 1 2 rfl rfl rfl rfl rfl rfl rfl (wlo 2 3 rfl rfl rfl (wo_cq rfl rfl rfl rfl rfl rfl rfl cf60 S10 (EndOf_q d (x : Int) false (hdcrs.mono S10.un_XH) S10.lend) ?_))))))))))
     rintro _ w8 S11 rfl; clear S10
     refine wlo 3 4 rfl rfl rfl (wo_alloc (l := [_, _]) rfl rfl rfl zr120 rfl S11 ?_)
     intro gb3 w9 S12; clear S11
     refine wlo 4 5 rfl rfl rfl (wo_storeB (i := 0) (us := [_, _]) (l' := [_, _]) (H' := [_, _, _, _, _]) rfl rfl S12 rfl rfl rfl rfl sz120 rfl rfl rfl rfl ?_)
     intro w10 S13; clear S12
     refine wl_end rfl (nmk [1, 3, 4, 5, 6, 7, 9] rfl (nm_thn (ws_region rfl (wlo 0 1 rfl rfl rfl (wo_run rfl rfl (run_loadN (us := [_, _]) rfl rfl Tryz.underlying24 rfl sz24 (S13.boxcs (i := 4) rfl ⟨rfl, rfl, trivial⟩)) (wlo 1 2 rfl rfl rfl (wo_run rfl rfl (run_fieldAddr rfl rfl Tryz.underlying120 rfl (ce3) (nf3)) (wlo 2 3 rfl rfl rfl (wo_run rfl rfl (run_load1 rfl rfl Tryz.underlying3 rfl (S13.boxc (i := 0) rfl rfl)) (wlo 3 4 rfl rfl rfl (wo_run rfl rfl (run_fieldAddr rfl rfl Tryz.underlying120 rfl (ce3) (nf3)) (wlo 4 5 rfl rfl rfl (wo_run rfl rfl (run_load1 rfl rfl Tryz.underlying3 rfl (S13.boxc (i := 0) rfl rfl)) ?_)))))))))))))
     refine wlo 5 6 rfl rfl rfl (wo_run rfl rfl (run_add rfl rfl rfl (by first | omega | (simp only [lens]; omega))) ?_)
     refine wlo 6 7 rfl rfl rfl (wo_run rfl rfl (run_rem rfl rfl rfl (by first | omega | (simp only [lens]; omega))) ?_)
     refine wl_eq 44 (.int .i64 ((((endOf d (x : Int) false).2 + 2) % 4 : Nat) : Int)) rfl (int_eq (by omega)) ?_
     have hlt4 : ((endOf d (x : Int) false).2 + 2) % 4 < 4 := Nat.mod_lt _ (by decide)
     refine wlo 7 8 rfl rfl rfl (wo_run rfl rfl (run_build (l := [_, _]) rfl rfl st120 rfl rfl) (wlo 8 9 rfl rfl rfl (wo_cq rfl rfl rfl rfl rfl rfl rfl cf72 S13 (ArcAt_q d ((endOf d (x : Int) false).1) (((endOf d (x : Int) false).2 + 2) % 4) (hdcrs.mono S13.un_XH) (by omega) (by omega) S13.lend) ?_)))
     rintro _ w11 S14 rfl; clear S13
     refine wl_eq 46 (.int .i64 (nextN d x : Int)) rfl (int_eq hce) (wla 9 10 rfl rfl rfl rfl rfl rfl rfl (wl_end rfl (nm_blk (nm_lp ?_))))
     have hga : ga seen2 x = false := by simpa using hb27
     have hfr := free_set (seen := seen2) (x := x) (by omega) hga
     intro ax_ hax_
     refine ⟨_, ?hq3m, ⟨seen2.set x true, (nextN d) x, acc ++ [(x : Int)], _, _, rfl, hax_.sub ⟨rfl, rfl, rfl, rfl, rfl, rfl, rfl, trivial⟩, S14.pick [1, 2, 3, 4] [_, _, _, _] (by decide) ⟨rfl, rfl, rfl, rfl, trivial⟩, ?hq3f0, ?hq3f1, ?hq3f2, ?hq3f3, ?hq3f4, ?hq3f5⟩⟩
     case hq3f0 => (rw [hrg]; exact ringF_go (by omega) hga)
     case hq3f1 => exact ⟨hce1, hce2⟩
     case hq3f2 => (rw [List.length_set]; exact hs2)
     case hq3f3 => (simp only [List.length_append, List.length_cons, List.length_nil]; omega)
     case hq3f4 => (intro h; rw [List.length_append] at h; exact absurd h (by simp))
     case hq3f5 => (intro _; by_cases h0 : acc.length = 0; (obtain ⟨q1, q2⟩ := hem h0; rw [← q1, ← q2]; exact hga); exact hne (by omega))
     case hq3m => omega
    ·simp only [Bool.and_eq_true, Bool.or_eq_true, Bool.and_eq_false_iff, Bool.or_eq_false_iff, decide_eq_true_eq, decide_eq_false_iff_not, Bool.not_eq_true', Bool.not_eq_false'] at hb27
     refine ws_exit rfl rfl (nmk [1, 3, 4, 5, 6, 7] rfl (nm_thn (ws_seqN StrandsOf_n45 StrandsOf_n46 rfl rfl rfl (ws_region rfl (wlm 0 1 rfl rfl rfl rfl rfl rfl rfl (wlo 1 2 rfl rfl rfl (wo_run rfl rfl (run_lenR (C := cdInt) (i := 0) rfl rfl rfl rfl rfl rfl sl53 S6 rfl) (wlo 2 3 rfl rfl rfl (wo_run rfl rfl (run_gtr rfl rfl rfl) (wl_end rfl ?_))))))))))
     refine nmk [1, 3, 4, 5, 6, 7, 49] rfl (nm_thn ?_)
     refine ws_condN StrandsOf_n47 StrandsOf_n48 rfl rfl rfl rfl (fun hb49 => ?_) (fun hb49 => ?_)
     ·replace hb49 := of_decide_eq_true hb49
      have hgt : ga seen2 x = true := by simpa using hb27
      have hgn := hne (by omega)
      refine ws_region rfl (wlm 0 1 rfl rfl rfl rfl rfl rfl rfl (wlm 1 2 rfl rfl rfl rfl rfl rfl rfl ?_))
      obtain ⟨M2, hle3, S15, ⟨A1, c1, e1, hr1⟩⟩ := S6.pubrow (i := 0) (H' := [_, _, _, _]) rfl rfl (by show _ * 8 ≤ _; first | omega | (simp only [lens]; omega))
      clear S6; subst e1
      replace hdcrs := hdcrs.mono (Hp.un_mono hle3 S15.mx)
      replace hdo := hdo.mono hle3
      refine wlo 2 3 rfl rfl rfl (wo_buildSlice1 (C := (cdV 53)) (l := [_]) rfl rfl rfl rfl sl103 rfl rfl rfl rfl S15 ?_)
      intro gb4 w12 S16; clear S15
      refine wlo 3 4 rfl rfl rfl (wo_append1 (C := (cdV 53)) (i := 2) (q := 0) (⟨A1, acc.length, c1⟩ : SlV) rfl rfl rfl rfl rfl rfl rfl rfl sl103 S16 rfl rfl rfl (by show (_ + 1) * 24 ≤ _; first | omega | (simp only [lens]; omega)) ?_)
      intro vro1 w13 S17; clear S16
      have S18 := S17.pick [1, 2, 3, 4] [_, _, _, _] (by decide) ⟨rfl, rfl, rfl, rfl, trivial⟩; clear S17
      have hd1 := hdo.snoc (c := c1) hr1
      refine wla 4 5 rfl rfl rfl rfl rfl rfl rfl (wl_end rfl (nm_blk (nmk [1, 3, 4, 5, 6] rfl (nm_thn (ws_region rfl (wlm 0 1 rfl rfl rfl rfl rfl rfl rfl (wlo 1 2 rfl rfl rfl (wo_run rfl rfl (run_add rfl rfl rfl (by first | omega | (simp only [lens]; omega))) ?_))))))))
      refine wla 2 3 rfl rfl rfl rfl rfl rfl rfl (wl_end rfl (nm_lp ?_))
      intro ax_ hax_
      refine ⟨_, ?hq4m, ⟨A + 1, _, (outc ++ [acc]), _, _, _, _, (hle1.trans hle3), rfl, hax_.sub ⟨rfl, rfl, rfl, rfl, rfl, trivial⟩, S18.pick [1, 2, 3] [_, _, _] (by decide) ⟨rfl, rfl, rfl, trivial⟩, ?hq4f0, ?hq4f1, ?hq4f2⟩⟩
      case hq4f0 => omega
      case hq4f1 => first | (rw [ringsF_ring (by rw [hfn]; exact hgn), hfn]; dsimp only; rw [hrg, ringF_stop hgt]) | (rw [q1]; exact (ringsF_skip (by rw [hfn]; show ga seen (A + 1) = true; rw [← q1, ← q2]; exact hgt)).trans hfn)
      case hq4f2 => exact hd1
      case hq4m => omega
     ·replace hb49 := of_decide_eq_false hb49
      have hgt : ga seen2 x = true := by simpa using hb27
      obtain ⟨q1, q2⟩ := hem (by omega)
      refine ws_skip rfl (nm_blk (nmk [1, 3, 4, 5, 6] rfl (nm_thn (ws_region rfl (wlm 0 1 rfl rfl rfl rfl rfl rfl rfl (wlo 1 2 rfl rfl rfl (wo_run rfl rfl (run_add rfl rfl rfl (by first | omega | (simp only [lens]; omega))) ?_)))))))
      refine wla 2 3 rfl rfl rfl rfl rfl rfl rfl (wl_end rfl (nm_lp ?_))
      intro ax_ hax_
      refine ⟨_, ?hq5m, ⟨A + 1, _, outc, _, _, _, _, (hle1), rfl, hax_.sub ⟨rfl, rfl, rfl, rfl, rfl, trivial⟩, S6.pick [1, 2, 3] [_, _, _] (by decide) ⟨rfl, rfl, rfl, trivial⟩, ?hq5f0, ?hq5f1, ?hq5f2⟩⟩
      case hq5f0 => omega
      case hq5f1 => first | (rw [ringsF_ring (by rw [hfn]; exact hgn), hfn]; dsimp only; rw [hrg, ringF_stop hgt]) | (rw [q1]; exact (ringsF_skip (by rw [hfn]; show ga seen (A + 1) = true; rw [← q1, ← q2]; exact hgt)).trans hfn)
      case hq5f2 => exact hdo
      case hq5m => omega
  ·replace hb19 := of_decide_eq_false hb19
   refine ws_exit rfl rfl (nmk [5] rfl (nm_thn (ws_seqN StrandsOf_n49 StrandsOf_n50 rfl rfl rfl (ws_region rfl (wlm 0 1 rfl rfl rfl rfl rfl rfl rfl (wla 1 2 rfl rfl rfl rfl rfl rfl rfl (wl_end rfl (nmk [2] rfl ?_))))))))
   refine nm_thn ?_
   obtain ⟨M3, hle4, S19, ⟨A2, c2, e2, hr2⟩⟩ := S4.pubrow (i := 0) (H' := [_, _, _]) rfl rfl (by show _ * 24 ≤ _; first | omega | (simp only [lens]; omega))
   clear S4; subst e2
   replace hdcrs := hdcrs.mono (Hp.un_mono hle4 S19.mx)
   replace hdo := hdo.mono hle4
   refine ws_ret hC [_] rfl rfl ⟨rfl, trivial⟩ ?_
   refine ⟨_, rfl, _, hle1.trans hle4, (S19.pick [] [] (by decide) trivial), ?_⟩
   obtain rfl : A = 2 * d.crs.length := by omega
   have e2 : strandsL d = outc := by show (ringsF (nextN d) _ _).2 = _; rw [hfn]
   rw [e2]
   exact ⟨_, _, _, rfl, hr2, hdo⟩
end Go.Proofs.YthppkofceancjaaGreat
namespace Go.Proofs.YthppkofceancjaaGreat
open Go.ChangeShapes Go.WideShapes Go.ChangeAt Go.RowKit
section
variable (e1 e2 : Nat → Nat) (N : Nat)
def frG (cl : List Int) (k : Nat) : Int := max (ga cl (e1 k)) (ga cl (e2 k))
def toG (cl : List Int) (k : Nat) : Int := min (ga cl (e1 k)) (ga cl (e2 k))
def clsG : Nat → List Int
 | 0 => iniW N N
 | k + 1 => relN (clsG k) (frG e1 e2 (clsG k) k) (toG e1 e2 (clsG k) k) N
theorem clsG_len (k : Nat) : (clsG e1 e2 N k).length = N := by
 induction k with
 | zero => exact iniW_len _ _
 | succ k ih => rw [clsG, relN_len, ih]
theorem clsG_ga (k x : Nat) (hx : x < N) : ga (clsG e1 e2 N (k + 1)) x = if ga (clsG e1 e2 N k) x = frG e1 e2 (clsG e1 e2 N k) k then toG e1 e2 (clsG e1 e2 N k) k else ga (clsG e1 e2 N k) x := by
 rw [clsG, relN_ga _ _ _ _ (by rw [clsG_len]; exact Nat.le_refl _)]
 by_cases h9 : ga (clsG e1 e2 N k) x = frG e1 e2 (clsG e1 e2 N k) k
 ·rw [if_pos ⟨hx, h9⟩, if_pos h9]
 ·rw [if_neg (fun h => h9 h.2), if_neg h9]
theorem clsG_zero (y : Nat) (hy : y < N) : ga (clsG e1 e2 N 0) y = (y : Int) := iniW_ga _ _ (Nat.le_refl _) y hy
theorem frG_or (cl : List Int) (k : Nat) : frG e1 e2 cl k = ga cl (e1 k) ∨ frG e1 e2 cl k = ga cl (e2 k) := by unfold frG; omega
theorem toG_or (cl : List Int) (k : Nat) : toG e1 e2 cl k = ga cl (e1 k) ∨ toG e1 e2 cl k = ga cl (e2 k) := by unfold toG; omega
variable {e1 e2 N}
theorem clsG_ok {K : Nat} (he : ∀ k, k < K → e1 k < N ∧ e2 k < N) (k : Nat) (hk : k ≤ K) : ClsOk N (clsG e1 e2 N k) := by
 induction k with
 | zero => exact ⟨iniW_len _ _, fun x hx => by
   rw [clsG_zero e1 e2 N x hx]
   refine ⟨by omega, by omega, ?_⟩
   rw [show ((x : Int)).toNat = x by omega, clsG_zero e1 e2 N x hx]⟩
 | succ k ih =>
  have ih := ih (by omega)
  obtain ⟨b1, b2⟩ := he k (by omega)
  obtain ⟨p1, _, p3⟩ := ih.2 _ b1
  obtain ⟨q1, _, q3⟩ := ih.2 _ b2
  refine ok_step ih (clsG_len _ _ _ _) (fun x hx => clsG_ga e1 e2 N k x hx) (by unfold frG toG; omega) (by unfold toG; omega) ?_
  rcases toG_or e1 e2 (clsG e1 e2 N k) k with e | e <;> rw [e] <;> assumption
theorem clsG_keep {j x y : Nat} (hx : x < N) (hy : y < N) (e : ga (clsG e1 e2 N j) x = ga (clsG e1 e2 N j) y) : ga (clsG e1 e2 N (j + 1)) x = ga (clsG e1 e2 N (j + 1)) y := by
 rw [clsG_ga e1 e2 N j x hx, clsG_ga e1 e2 N j y hy, e]
theorem clsG_same {k : Nat} (b1 : e1 k < N) (b2 : e2 k < N) (j : Nat) (hj : k < j) : ga (clsG e1 e2 N j) (e1 k) = ga (clsG e1 e2 N j) (e2 k) := by
 induction j with
 | zero => omega
 | succ j ih =>
  by_cases e : k = j
  ·subst e
   rw [clsG_ga e1 e2 N k _ b1, clsG_ga e1 e2 N k _ b2]
   unfold frG toG
   split <;> split <;> omega
  ·exact clsG_keep b1 b2 (ih (by omega))
theorem clsG_con {K : Nat} (he : ∀ k, k < K → e1 k < N ∧ e2 k < N) (Z : Nat → Prop) (hZ : ∀ k, k < K → (Z (e1 k) ↔ Z (e2 k))) (j : Nat) (hj : j ≤ K) : ∀ x y, x < N → y < N → ga (clsG e1 e2 N j) x = ga (clsG e1 e2 N j) y → (Z x ↔ Z y) := by
 induction j with
 | zero =>
  intro x y hx hy e
  rw [clsG_zero e1 e2 N x hx, clsG_zero e1 e2 N y hy] at e
  obtain rfl : x = y := by omega
  exact Iff.rfl
 | succ j ih =>
  have ih := ih (by omega)
  obtain ⟨b1, b2⟩ := he j (by omega)
  have hz := hZ j (by omega)
  have hf : ∀ x, x < N → ga (clsG e1 e2 N j) x = frG e1 e2 (clsG e1 e2 N j) j → (Z x ↔ Z (e1 j)) := fun x hx e => by
   rcases frG_or e1 e2 (clsG e1 e2 N j) j with h2 | h2
   ·exact ih x _ hx b1 (e.trans h2)
   ·exact (ih x _ hx b2 (e.trans h2)).trans hz.symm
  have ht : ∀ x, x < N → ga (clsG e1 e2 N j) x = toG e1 e2 (clsG e1 e2 N j) j → (Z x ↔ Z (e1 j)) := fun x hx e => by
   rcases toG_or e1 e2 (clsG e1 e2 N j) j with h2 | h2
   ·exact ih x _ hx b1 (e.trans h2)
   ·exact (ih x _ hx b2 (e.trans h2)).trans hz.symm
  intro x y hx hy e
  rw [clsG_ga e1 e2 N j x hx, clsG_ga e1 e2 N j y hy] at e
  by_cases hfx : ga (clsG e1 e2 N j) x = frG e1 e2 (clsG e1 e2 N j) j
  ·rw [if_pos hfx] at e
   by_cases hfy : ga (clsG e1 e2 N j) y = frG e1 e2 (clsG e1 e2 N j) j
   ·exact (hf x hx hfx).trans (hf y hy hfy).symm
   ·rw [if_neg hfy] at e
    exact (hf x hx hfx).trans (ht y hy e.symm).symm
  ·rw [if_neg hfx] at e
   by_cases hfy : ga (clsG e1 e2 N j) y = frG e1 e2 (clsG e1 e2 N j) j
   ·rw [if_pos hfy] at e
    exact (ht x hx e).trans (hf y hy hfy).symm
   ·rw [if_neg hfy] at e
    exact ih x y hx hy e
end
def rdsG (e1 e2 : Nat → Nat) (N K : Nat) : Nat → List Int
 | 0 => iniW N N
 | j + 1 => roundG e1 e2 (rdsG e1 e2 N K j) K
theorem rdsG_len (e1 e2 : Nat → Nat) (N K j : Nat) : (rdsG e1 e2 N K j).length = N := by
 induction j with
 | zero => exact iniW_len _ _
 | succ j ih => rw [rdsG, roundG_len, ih]
theorem rds_law {e1 e2 : Nat → Nat} {N K : Nat} (he : ∀ k, k < K → e1 k < N ∧ e2 k < N) : rdsG e1 e2 N K N = clsG e1 e2 N K := by
 have hok := clsG_ok he K (Nat.le_refl _)
 have hl := labels (N := N) (K := K) e1 e2 he (fun x => (ga (clsG e1 e2 N K) x).toNat)
  (fun k hk => congrArg Int.toNat (clsG_same (he k hk).1 (he k hk).2 _ hk))
  (fun Z hZ x y hx hy e hz => (clsG_con he Z hZ _ (Nat.le_refl _) x y hx hy (by
   have hX := hok.2 x hx
   have hY := hok.2 y hy
   have e' : (ga (clsG e1 e2 N K) x).toNat = (ga (clsG e1 e2 N K) y).toNat := e
   omega)).1 hz)
  (rdsG e1 e2 N K) (rdsG_len _ _ _ _ 0) (fun x hx => iniW_ga _ _ (Nat.le_refl _) x hx) (fun j => rfl)
 refine ga_ext (by rw [rdsG_len, clsG_len]) fun x hx => ?_
 rw [rdsG_len] at hx
 obtain ⟨z, z1, z2, z3, z4⟩ := hl x hx
 obtain ⟨x1, x2, x3⟩ := hok.2 x hx
 obtain ⟨w1, w2, w3⟩ := hok.2 z z1
 have a1 := z4 (ga (clsG e1 e2 N K) x).toNat (by omega) (by show (ga (clsG e1 e2 N K) (ga (clsG e1 e2 N K) x).toNat).toNat = _; rw [x3])
 replace z3 : (ga (clsG e1 e2 N K) z).toNat = (ga (clsG e1 e2 N K) x).toNat := z3
 rw [z2]
 omega
theorem stepW_ga {w : List Int} {x y : Nat} (hx : x < w.length) (hy : y < w.length) (z : Nat) : ga (stepW w x y) z = if z = x ∨ z = y then min (ga w x) (ga w y) else ga w z := by
 unfold stepW
 by_cases h : ga w x < ga w y
 ·rw [if_pos h, ga_set _ _ _ _ hy]
  by_cases h1 : y = z
  ·subst h1; rw [if_pos rfl, if_pos (.inr rfl)]; omega
  ·rw [if_neg h1]
   by_cases h2 : z = x
   ·subst h2; rw [if_pos (.inl rfl)]; omega
   ·rw [if_neg (by omega)]
 ·rw [if_neg h, ga_set _ _ _ _ hx]
  by_cases h1 : x = z
  ·subst h1; rw [if_pos rfl, if_pos (.inl rfl)]; omega
  ·rw [if_neg h1]
   by_cases h2 : z = y
   ·subst h2; rw [if_pos (.inr rfl)]; omega
   ·rw [if_neg (by omega)]
theorem stepW_id {w : List Int} {x y : Nat} (hx : x < w.length) (hy : y < w.length) (e : ga w x = ga w y) : stepW w x y = w := by
 refine ga_ext (stepW_len _ _ _) fun z _ => ?_
 rw [stepW_ga hx hy]
 split
 ·rename_i h; rcases h with rfl | rfl <;> omega
 ·rfl
def two (p q : Nat) (k : Nat) : Nat := if k = 0 then p else q
theorem two_round {w : List Int} {a b x y : Nat} (ha : a < w.length) (hb : b < w.length) (hx : x < w.length) (hy : y < w.length) (z : Nat) :
  ga (roundG (two a x) (two b y) w 2) z = if z = x ∨ z = y then min (if x = a ∨ x = b then min (ga w a) (ga w b) else ga w x) (if y = a ∨ y = b then min (ga w a) (ga w b) else ga w y) else if z = a ∨ z = b then min (ga w a) (ga w b) else ga w z := by
 show ga (stepW (stepW w a b) x y) z = _
 rw [stepW_ga (by rw [stepW_len]; exact hx) (by rw [stepW_len]; exact hy), stepW_ga ha hb, stepW_ga ha hb, stepW_ga ha hb]
theorem two_done {w : List Int} {a b x y : Nat} (ha : a < w.length) (hb : b < w.length) (hx : x < w.length) (hy : y < w.length) :
  ga (roundG (two a x) (two b y) (roundG (two a x) (two b y) w 2) 2) a = ga (roundG (two a x) (two b y) (roundG (two a x) (two b y) w 2) 2) b ∧
  ga (roundG (two a x) (two b y) (roundG (two a x) (two b y) w 2) 2) x = ga (roundG (two a x) (two b y) (roundG (two a x) (two b y) w 2) 2) y := by
 generalize h1 : roundG (two a x) (two b y) w 2 = v
 have hv : v.length = w.length := by rw [← h1, roundG_len]
 have v1 := two_round ha hb hx hy a
 have v2 := two_round ha hb hx hy b
 have v3 := two_round ha hb hx hy x
 have v4 := two_round ha hb hx hy y
 rw [h1] at v1 v2 v3 v4
 rw [two_round (by omega) (by omega) (by omega) (by omega) a, two_round (by omega) (by omega) (by omega) (by omega) b, two_round (by omega) (by omega) (by omega) (by omega) x, two_round (by omega) (by omega) (by omega) (by omega) y]
 clear h1
 by_cases c1 : x = a <;> by_cases c2 : x = b <;> by_cases c3 : y = a <;> by_cases c4 : y = b <;> (try subst c1) <;> (try subst c2) <;> (try subst c3) <;> (try subst c4) <;> simp_all <;> omega
theorem two_stay {w : List Int} {a b x y : Nat} (ha : a < w.length) (hb : b < w.length) (hx : x < w.length) (hy : y < w.length) (e1 : ga w a = ga w b) (e2 : ga w x = ga w y) : roundG (two a x) (two b y) w 2 = w := by
 show stepW (stepW w a b) x y = w
 rw [stepW_id ha hb e1, stepW_id hx hy e2]
theorem two_law {a b x y N : Nat} (ha : a < N) (hb : b < N) (hx : x < N) (hy : y < N) (hN : 3 ≤ N) : rdsG (two a x) (two b y) N 2 3 = clsG (two a x) (two b y) N 2 := by
 have hl := rdsG_len (two a x) (two b y) N 2
 have hst : ∀ j, 2 ≤ j → rdsG (two a x) (two b y) N 2 (j + 1) = rdsG (two a x) (two b y) N 2 j := fun j hj => by
  induction j with
  | zero => omega
  | succ j ih =>
   by_cases e : j = 1
   ·subst e
    obtain ⟨p, q⟩ := two_done (w := rdsG (two a x) (two b y) N 2 0) (a := a) (b := b) (x := x) (y := y) (by rw [hl]; exact ha) (by rw [hl]; exact hb) (by rw [hl]; exact hx) (by rw [hl]; exact hy)
    exact two_stay (by rw [hl]; exact ha) (by rw [hl]; exact hb) (by rw [hl]; exact hx) (by rw [hl]; exact hy) p q
   ·have := ih (by omega)
    show roundG _ _ (rdsG (two a x) (two b y) N 2 (j + 1)) 2 = roundG _ _ (rdsG (two a x) (two b y) N 2 j) 2
    rw [this]
 have hall : ∀ j, 2 ≤ j → rdsG (two a x) (two b y) N 2 j = rdsG (two a x) (two b y) N 2 2 := fun j hj => by
  induction j with
  | zero => omega
  | succ j ih =>
   by_cases e : j = 1
   ·subst e; rfl
   ·rw [hst j (by omega), ih (by omega)]
 rw [hall 3 (by omega), ← hall N (by omega)]
 refine rds_law fun k hk => ?_
 unfold two
 split
 ·exact ⟨ha, hb⟩
 ·exact ⟨hx, hy⟩
end Go.Proofs.YthppkofceancjaaGreat
namespace Go.Proofs.YthppkofceancjaaGreat
open Go.ChangeShapes Go.WideShapes Go.ChangeAt Go.RowKit
def sp1 (d : Dg) (k : Nat) : Nat := (ga d.crs k).a.toNat
def sq1 (d : Dg) (k : Nat) : Nat := (abv (ga d.crs k)).2.toNat
def sp2 (d : Dg) (k : Nat) : Nat := (abv (ga d.crs k)).1.toNat
def sq2 (d : Dg) (k : Nat) : Nat := (ga d.crs k).c.toNat
def sE1 (d : Dg) (k : Nat) : Nat → Nat := two (sp1 d k) (sp2 d k)
def sE2 (d : Dg) (k : Nat) : Nat → Nat := two (sq1 d k) (sq2 d k)
def smN (d : Dg) (k : Nat) (j : Nat) : List Int := clsG (sE1 d k) (sE2 d k) (2 * d.crs.length + 1) j
def smC (d : Dg) (k : Nat) : List Int := smN d k 2
theorem abv_bd {d : Dg} (h : arcsB d = true) {k : Nat} (hk : k < d.crs.length) : 1 ≤ (abv (ga d.crs k)).1 ∧ (abv (ga d.crs k)).1 ≤ 2 * (d.crs.length : Int) ∧ 1 ≤ (abv (ga d.crs k)).2 ∧ (abv (ga d.crs k)).2 ≤ 2 * (d.crs.length : Int) := by
 have hb : 1 ≤ (ga d.crs k).b ∧ (ga d.crs k).b ≤ 2 * (d.crs.length : Int) := arcAt_bd h hk (k := 1) (by omega)
 have hd : 1 ≤ (ga d.crs k).d ∧ (ga d.crs k).d ≤ 2 * (d.crs.length : Int) := arcAt_bd h hk (k := 3) (by omega)
 unfold abv
 split <;> dsimp only <;> omega
theorem sm_bd {d : Dg} (h : arcsB d = true) {k : Nat} (hk : k < d.crs.length) : (1 ≤ sp1 d k ∧ sp1 d k < 2 * d.crs.length + 1) ∧ (1 ≤ sq1 d k ∧ sq1 d k < 2 * d.crs.length + 1) ∧ (1 ≤ sp2 d k ∧ sp2 d k < 2 * d.crs.length + 1) ∧ (1 ≤ sq2 d k ∧ sq2 d k < 2 * d.crs.length + 1) := by
 have ha : 1 ≤ (ga d.crs k).a ∧ (ga d.crs k).a ≤ 2 * (d.crs.length : Int) := arcAt_bd h hk (k := 0) (by omega)
 have hc : 1 ≤ (ga d.crs k).c ∧ (ga d.crs k).c ≤ 2 * (d.crs.length : Int) := arcAt_bd h hk (k := 2) (by omega)
 have hv := abv_bd h hk
 unfold sp1 sq1 sp2 sq2
 omega
theorem sE_bd {d : Dg} (h : arcsB d = true) {k : Nat} (hk : k < d.crs.length) (j : Nat) : (1 ≤ sE1 d k j ∧ sE1 d k j < 2 * d.crs.length + 1) ∧ (1 ≤ sE2 d k j ∧ sE2 d k j < 2 * d.crs.length + 1) := by
 obtain ⟨h1, h2, h3, h4⟩ := sm_bd h hk
 unfold sE1 sE2 two
 split
 ·exact ⟨h1, h2⟩
 ·exact ⟨h3, h4⟩
theorem sm_vals {d : Dg} (h : arcsB d = true) {k : Nat} (hk : k < d.crs.length) (j : Nat) : Value.agg [if j = 0 then Value.int .i64 (ga d.crs k).a else Value.int .i64 (abv (ga d.crs k)).1, if j = 0 then Value.int .i64 (abv (ga d.crs k)).2 else Value.int .i64 (ga d.crs k).c].toArray = Value.agg [.int .i64 ((sE1 d k j : Nat) : Int), .int .i64 ((sE2 d k j : Nat) : Int)].toArray := by
 have ha : 1 ≤ (ga d.crs k).a ∧ (ga d.crs k).a ≤ 2 * (d.crs.length : Int) := arcAt_bd h hk (k := 0) (by omega)
 have hc : 1 ≤ (ga d.crs k).c ∧ (ga d.crs k).c ≤ 2 * (d.crs.length : Int) := arcAt_bd h hk (k := 2) (by omega)
 have hv := abv_bd h hk
 unfold sE1 sE2 two sp1 sp2 sq1 sq2
 split
 ·rw [Int.toNat_of_nonneg (by omega), Int.toNat_of_nonneg (by omega)]
 ·rw [Int.toNat_of_nonneg (by omega), Int.toNat_of_nonneg (by omega)]
theorem smN_len (d : Dg) (k j : Nat) : (smN d k j).length = 2 * d.crs.length + 1 := clsG_len _ _ _ _
theorem smN_ok {d : Dg} (h : arcsB d = true) {k : Nat} (hk : k < d.crs.length) (j : Nat) (hj : j ≤ 2) : ClsOk (2 * d.crs.length + 1) (smN d k j) := clsG_ok (K := 2) (fun i _ => ⟨(sE_bd h hk i).1.2, (sE_bd h hk i).2.2⟩) j hj
theorem sm_pos {d : Dg} (h : arcsB d = true) {k : Nat} (hk : k < d.crs.length) {x : Nat} (h1 : 1 ≤ x) (h2 : x < 2 * d.crs.length + 1) : 1 ≤ ga (smC d k) x := by
 obtain ⟨o1, o2, o3⟩ := (smN_ok h hk 2 (Nat.le_refl _)).2 x h2
 have hc := clsG_con (K := 2) (e1 := sE1 d k) (e2 := sE2 d k) (N := 2 * d.crs.length + 1) (fun i _ => ⟨(sE_bd h hk i).1.2, (sE_bd h hk i).2.2⟩) (fun y => y = 0) (fun i _ => by
  have := sE_bd h hk i
  constructor <;> intro h9 <;> exfalso <;> omega) 2 (Nat.le_refl _) x (ga (smC d k) x).toNat h2 (by show (ga (smN d k 2) x).toNat < _; omega) o3.symm
 have e : (smC d k) = smN d k 2 := rfl
 rw [e] at *
 rcases Nat.eq_zero_or_pos (ga (smN d k 2) x).toNat with h9 | h9
 ·have := hc.2 h9; omega
 ·omega
theorem sm_law {d : Dg} (h : arcsB d = true) {k : Nat} (hk : k < d.crs.length) : rdsG (sE1 d k) (sE2 d k) (2 * d.crs.length + 1) 2 3 = smC d k := by
 obtain ⟨h1, h2, h3, h4⟩ := sm_bd h hk
 exact two_law h1.2 h2.2 h3.2 h4.2 (by omega)
def lf1 (cl : List Int) (v : Cr) : Nat → Int → Bool
 | 0, _ => false
 | s + 1, x => lf1 cl v s x || decide (x = ga cl (crArc v s).toNat)
def lfL (cl : List Int) (l : List Cr) (x : Int) : Bool := l.any fun v => lf1 cl v 4 x
def remN (d : Dg) (k : Nat) : Nat → List Cr
 | 0 => []
 | c + 1 => if c = k then remN d k c else remN d k c ++ [ga d.crs c]
def remL (d : Dg) (k : Nat) : List Cr := remN d k d.crs.length
theorem remN_len (d : Dg) (k : Nat) (c : Nat) : (remN d k c).length ≤ c := by
 induction c with
 | zero => exact Nat.le_refl _
 | succ c ih =>
  rw [remN]
  split
  ·omega
  ·rw [List.length_append, List.length_singleton]; omega
theorem remN_mem {d : Dg} {k c : Nat} {v : Cr} (h : v ∈ remN d k c) : ∃ i, i < c ∧ v = ga d.crs i := by
 induction c with
 | zero => cases h
 | succ c ih =>
  rw [remN] at h
  split at h
  ·obtain ⟨i, h1, h2⟩ := ih h; exact ⟨i, by omega, h2⟩
  ·rcases List.mem_append.1 h with h | h
   ·obtain ⟨i, h1, h2⟩ := ih h; exact ⟨i, by omega, h2⟩
   ·rw [List.mem_singleton] at h; exact ⟨c, by omega, h⟩
theorem rem_arc {d : Dg} (h : arcsB d = true) {k c : Nat} (hc : c ≤ d.crs.length) {v : Cr} (hv : v ∈ remN d k c) {s : Nat} (hs : s < 4) : 1 ≤ crArc v s ∧ crArc v s ≤ 2 * (d.crs.length : Int) := by
 obtain ⟨i, h1, rfl⟩ := remN_mem hv
 exact arcAt_bd h (by omega) hs
theorem lf1_iff {cl : List Int} {v : Cr} {s : Nat} {x : Int} : lf1 cl v s x = true ↔ ∃ t, t < s ∧ x = ga cl (crArc v t).toNat := by
 induction s with
 | zero => exact ⟨fun h => (by cases h), fun ⟨t, h, _⟩ => (by omega)⟩
 | succ s ih =>
  rw [lf1, Bool.or_eq_true, ih, decide_eq_true_iff]
  constructor
  ·rintro (⟨t, h1, h2⟩ | h)
   ·exact ⟨t, by omega, h2⟩
   ·exact ⟨s, by omega, h⟩
  ·rintro ⟨t, h1, h2⟩
   by_cases e : t = s
   ·subst e; exact .inr h2
   ·exact .inl ⟨t, by omega, h2⟩
theorem lfL_iff {cl : List Int} {l : List Cr} {x : Int} : lfL cl l x = true ↔ ∃ v ∈ l, ∃ t, t < 4 ∧ x = ga cl (crArc v t).toNat := by
 unfold lfL
 rw [List.any_eq_true]
 constructor
 ·rintro ⟨v, h1, h2⟩; exact ⟨v, h1, lf1_iff.1 h2⟩
 ·rintro ⟨v, h1, h2⟩; exact ⟨v, h1, lf1_iff.2 h2⟩
theorem lfL_snoc (cl : List Int) (l : List Cr) (v : Cr) (x : Int) : lfL cl (l ++ [v]) x = (lfL cl l x || lf1 cl v 4 x) := by
 unfold lfL; rw [List.any_append]; simp
theorem lf_root {d : Dg} (h : arcsB d = true) {k : Nat} (hk : k < d.crs.length) {x : Nat} (hl : lfL (smC d k) (remL d k) (x : Int) = true) : 1 ≤ x ∧ x < 2 * d.crs.length + 1 ∧ ga (smC d k) x = (x : Int) := by
 obtain ⟨v, h1, t, h2, h3⟩ := lfL_iff.1 hl
 have ha := rem_arc h (Nat.le_refl _) h1 h2
 have hp := sm_pos h hk (x := (crArc v t).toNat) (by omega) (by omega)
 obtain ⟨o1, o2, o3⟩ := (smN_ok h hk 2 (Nat.le_refl _)).2 (crArc v t).toNat (by omega)
 have e : smN d k 2 = smC d k := rfl
 rw [e] at o1 o2 o3
 rw [← h3] at o3
 refine ⟨by omega, by omega, ?_⟩
 rwa [show ((x : Int)).toNat = x by omega] at o3
theorem rem_left {d : Dg} {k : Nat} {v : Cr} (hv : v ∈ remL d k) {s : Nat} (hs : s < 4) : lfL (smC d k) (remL d k) (ga (smC d k) (crArc v s).toNat) = true := lfL_iff.2 ⟨v, hv, s, hs, rfl⟩
def rtB2 (cl : List Int) (l : List Cr) (a : Nat) : Bool := decide (1 ≤ a) && (decide (ga cl a = (a : Int)) && lfL cl l (a : Int))
def loB2 (cl : List Int) (l : List Cr) (a : Nat) : Bool := decide (1 ≤ a) && (decide (ga cl a = (a : Int)) && !lfL cl l (a : Int))
def nuA (cl : List Int) (l : List Cr) (y : Int) : Int := (cn (rtB2 cl l) ((ga cl y.toNat).toNat + 1) : Int)
def nuC (cl : List Int) (l : List Cr) (v : Cr) : Cr := ⟨nuA cl l v.a, nuA cl l v.b, nuA cl l v.c, nuA cl l v.d, v.plus⟩
def smD (d : Dg) (k : Nat) : Dg := ⟨(remL d k).map (nuC (smC d k) (remL d k)), d.loops + cn (loB2 (smC d k) (remL d k)) (2 * d.crs.length + 1)⟩
theorem cn_yes {P : Nat → Bool} {a : Nat} (h : P a = true) : cn P (a + 1) = cn P a + 1 := by rw [cn, if_pos h]
theorem cn_no {P : Nat → Bool} {a : Nat} (h : P a = false) : cn P (a + 1) = cn P a := by rw [cn, if_neg (by rw [h]; decide)]; rfl
theorem rem_nu {d : Dg} (h : arcsB d = true) {k : Nat} (hk : k < d.crs.length) {nu : List Int} (hnu : ∀ x, x < 2 * d.crs.length + 1 → rtB2 (smC d k) (remL d k) x = true → ga nu x = (cn (rtB2 (smC d k) (remL d k)) (x + 1) : Int)) {v : Cr} (hv : v ∈ remL d k) {s : Nat} (hs : s < 4) :
  ga nu (ga (smC d k) (crArc v s).toNat).toNat = nuA (smC d k) (remL d k) (crArc v s) := by
 have ha := rem_arc h (Nat.le_refl _) hv hs
 have hp := sm_pos h hk (x := (crArc v s).toNat) (by omega) (by omega)
 have hl := rem_left hv hs
 obtain ⟨o1, o2, o3⟩ := (smN_ok h hk 2 (Nat.le_refl _)).2 (crArc v s).toNat (by omega)
 have e : smN d k 2 = smC d k := rfl
 rw [e] at o1 o2 o3
 have e2 : (((ga (smC d k) (crArc v s).toNat).toNat : Nat) : Int) = ga (smC d k) (crArc v s).toNat := by omega
 rw [hnu _ (by omega) (by unfold rtB2; rw [e2, o3, hl]; simp; omega)]
 rfl
end Go.Proofs.YthppkofceancjaaGreat
namespace Go.Proofs.YthppkofceancjaaGreat
open Go.ChangeShapes Go.WideShapes Go.ChangeAt Go.RowKit
theorem SH.down {w : World} {M M' : Hp} {X : Fr} {H : List Rs} (S : SH w M' X H) (h : M.le M') : SH w M X H := by
  have hn : ∀ b, M' b = none → M b = none := fun b e => by
    cases hm : M b with
    | none => rfl
    | some o => rw [h b o hm] at e; cases e
  exact ⟨h.trans S.m, S.x, fun b o e => hn b (S.mx b o e), S.ok, fun r hr b hb => ⟨(S.bl r hr b hb).1, hn b (S.bl r hr b hb).2.1, (S.bl r hr b hb).2.2⟩, S.ap, S.like⟩
/-- No block stands in two things. -/
def apartL (H : List Rs) : Prop := H.Pairwise fun r s => ∀ b ∈ r.bl, b ∉ s.bl
theorem apart_iff {H : List Rs} : apartL H ↔ ∀ (i j : Nat) r s, i ≠ j → H[i]? = some r → H[j]? = some s → ∀ b ∈ r.bl, b ∉ s.bl := by
  unfold apartL
  rw [List.pairwise_iff_getElem]
  constructor
  · intro h i j r s hij hi hj b hb hbs
    obtain ⟨i1, e1⟩ := List.getElem?_eq_some_iff.1 hi
    obtain ⟨j1, e2⟩ := List.getElem?_eq_some_iff.1 hj
    rcases Nat.lt_or_ge i j with h1 | h1
    · exact h i j i1 j1 h1 b (by rw [e1]; exact hb) (by rw [e2]; exact hbs)
    · exact h j i j1 i1 (by omega) b (by rw [e2]; exact hbs) (by rw [e1]; exact hb)
  · intro h i j hi hj hij
    exact h i j _ _ (by omega) (List.getElem?_eq_getElem hi) (List.getElem?_eq_getElem hj)
section
variable {w : World} {M : Hp} {X : Fr} {A B H H' : List Rs}
theorem SH.perm (S : SH w M X H) (h : H.Perm H') : SH w M X H' :=
  ⟨S.m, S.x, S.mx, fun r hr => S.ok r (h.mem_iff.2 hr), fun r hr => S.bl r (h.mem_iff.2 hr), apart_iff.1 ((h.pairwise_iff (fun {_ _} hrs b hb hbr => hrs b hbr hb)).1 (apart_iff.2 S.ap)), S.like⟩
theorem SH.bunC (S : SH w M X (A ++ B)) : SH w M X (Rs.bun A :: B) := by
  have hap := apart_iff.2 S.ap
  obtain ⟨h1, h2, h3⟩ := List.pairwise_append.1 hap
  refine ⟨S.m, S.x, S.mx, fun r hr => ?_, fun r hr b hb => ?_, apart_iff.1 (List.pairwise_cons.2 ⟨fun s hs b hb => ?_, h2⟩), S.like⟩
  · rcases List.mem_cons.1 hr with rfl | hr
    · exact ⟨fun r hr => S.ok r (by simp [hr]), apart_iff.1 h1⟩
    · exact S.ok r (by simp [hr])
  · rcases List.mem_cons.1 hr with rfl | hr
    · obtain ⟨q, hq, hb⟩ := List.mem_flatMap.1 hb
      exact S.bl q (by simp [hq]) b hb
    · exact S.bl r (by simp [hr]) b hb
  · obtain ⟨q, hq, hb⟩ := List.mem_flatMap.1 hb
    exact h3 q hq s hs b hb
theorem SH.unbunC (S : SH w M X (Rs.bun A :: B)) : SH w M X (A ++ B) := by
  obtain ⟨hok, hap⟩ := S.ok (Rs.bun A) (by simp)
  obtain ⟨h1, h2⟩ := List.pairwise_cons.1 (apart_iff.2 S.ap)
  refine ⟨S.m, S.x, S.mx, fun r hr => ?_, fun r hr b hb => ?_, apart_iff.1 (List.pairwise_append.2 ⟨apart_iff.2 hap, h2, fun r hr s hs b hb => h1 s hs b (List.mem_flatMap.2 ⟨r, hr, hb⟩)⟩), S.like⟩
  · rcases List.mem_append.1 hr with hr | hr
    · exact hok r hr
    · exact S.ok r (by simp [hr])
  · rcases List.mem_append.1 hr with hr | hr
    · exact S.bl (Rs.bun A) (by simp) b (List.mem_flatMap.2 ⟨r, hr, hb⟩)
    · exact S.bl r (by simp [hr]) b hb
end
def rgA : Code → Code
  | .rangeFunc _ _ a _ => a
  | c => c
def rgB : Code → Code
  | .rangeFunc _ _ _ b => b
  | c => c
namespace InF
section
variable {P : Program} {n : Nat} {C : Ctx} {c : Code} {s : List K} {L : List (Nat × Value)} {w : World} {M : Hp} {X : Fr} {H : List Rs}
/-- What is asked of the function that is ranged over: from s0 on each value that it yields takes one step; in the end fin holds. -/
def IterX {σ : Type} (P : Program) (f : FuncId) (lb : List Value) (s0 : σ) (stp : σ → Value → σ → Prop) (fin : σ → Prop) (M : Hp) (X : Fr) : Prop :=
  ∀ (l : Nat) (J : σ → Hp → Rs → Prop) (w : World) (M1 : Hp) (B : Rs), M.le M1 →
    (∀ k v k' M' B' H0 w', stp k v k' → M1.le M' → SH w' M' X (B' :: H0) → J k M' B' → YieldAt Fence.wide 0 P l #[v] w' fun e w'' => ∃ u, e = .returned u ∧ u = .bool true ∧ ∃ M'' B'', M'.le M'' ∧ SH w'' M'' X (B'' :: H0) ∧ J k' M'' B'') →
    SH w M1 X [B] → J s0 M1 B → CallsIn Fence.wide 0 P f ((Value.func (.yield l) #[] #[]) :: lb).toArray w fun e w' => (∃ v, e = .returned v) ∧ ∃ k M' B', fin k ∧ M1.le M' ∧ SH w' M' X [B'] ∧ J k M' B'
theorem ws_rangeFuncX {σ : Type} {s0 : σ} {stp : σ → Value → σ → Prop} {fin : σ → Prop} {p : Nat} {g : Operand} {asg bd : Code} {f : FuncId} {lb : List Value} (hr : C.r = none) (hc : c = .rangeFunc g #[p] asg bd) (hp' : Nat.blt p n = true) (hg : oev L g = some (.func (.func f) #[] lb.toArray)) (hen : ∀ args w, (callFunc f args).run P w = .ok (.enter f args) w)
    (S : SH w M X H) (I : σ → Hp → List Rs → Prop) (I1 : σ → Act → Hp → List Rs → Prop) (h0 : I s0 M H) (hit : IterX P f lb s0 stp fin M X)
    (hassign : ∀ (k k' : σ) (v : Value) (M' : Hp) (H' : List Rs) (w' : World) (C' : Ctx) (R0 : Rs), stp k v k' → M.le M' → SH w' M' X (R0 :: H') → I k M' H' → WS P n C' asg [.lp (fun a w'' => ∃ M'' H'', M'.le M'' ∧ SH w'' M'' X (R0 :: H'') ∧ I1 k' a M'' H'')] ((p, v) :: L) w')
    (hbody : ∀ (k : σ) (M' : Hp) (H' : List Rs) (w' : World) (C' : Ctx) (R0 : Rs) (a : Act), M.le M' → SH w' M' X (R0 :: H') → I1 k a M' H' → bd.wpIn C'.F 0 P (post P C' [.lp (fun _ w'' => ∃ M'' H'', M'.le M'' ∧ SH w'' M'' X (R0 :: H'') ∧ I k M'' H'')]) a w')
    (hdone : ∀ (k : σ) (a : Act) (M' : Hp) (H' : List Rs) (w' : World) (D l : Nat) (rc : Loop), fin k → Env n L a → M.le M' → SH w' M' X (Rs.lr l D rc :: H') → I k M' H' → post P C s .normal { a with defers := [{ target := .collected D, args := #[] }] } w') : WS P n C c s L w := by
  have hF : C.F = Fence.wide := by unfold Ctx.F; rw [hr]
  intro a ha
  subst hc
  rw [hF]
  refine wpIn_rangeFunc ?_
  intro fn _
  rw [show Fence.wide.round = none from rfl]
  obtain ⟨rec, hrec⟩ : ∃ rec : LoopState → Loop, rec = fun st => { state := st, pending := none, fn, tmps := a.tmps, params := #[p], assign := asg, body := bd, defers := w.heap.size } := ⟨_, rfl⟩
  obtain ⟨W1, hW1⟩ : ∃ W1, (w.alloc (.deferred (some []))).alloc (.loop (rec .ready)) = W1 := ⟨_, rfl⟩
  have hL1 : W1.heap[w.heap.size + 1]? = some (.loop (rec .ready)) := by
    rw [← hW1]; have := World.alloc_heap_new (w.alloc (.deferred (some []))) (.loop (rec .ready)); rwa [World.size_alloc] at this
  have hK1 : W1.heap[w.heap.size]? = some (.deferred (some [])) := by
    rw [← hW1]; exact (Below.heap_alloc _ _ _ (by simp)).trans (World.alloc_heap_new w _)
  have hkeep : ∀ b, b < w.heap.size → hp W1 b = hp w b := fun b hb => by
    rw [← hW1]
    exact (keep_alloc (w.alloc (.deferred (some []))) _ b (by rw [size_al]; omega)).trans (keep_alloc w _ b hb)
  have S1 : SH W1 M X (Rs.lr (w.heap.size + 1) w.heap.size (rec .ready) :: H) := by
    have hl : Like w W1 := by rw [← hW1]; exact (like_alloc w _).trans (like_alloc _ _)
    refine S.cons hl hkeep ⟨hL1, hK1⟩ (fun b hb => ?_)
    have hsz : W1.heap.size = w.heap.size + 2 := by rw [← hW1, size_al, size_al]
    simp only [Rs.lr, List.mem_cons, List.not_mem_nil, or_false] at hb
    omega
  have hdf : a.defers = [] := ha.df
  refine ⟨w.heap.size + 1, [{ target := .collected w.heap.size, args := #[] }], W1, { target := .fn (.func f) lb.toArray, args := #[.func (.yield (w.heap.size + 1)) #[] #[]] }, W1, f,
    #[.func (.yield (w.heap.size + 1)) #[] #[]] ++ lb.toArray, W1, ?_, ?_, fun _ _ => trivial, ?_, fun h => (by cases h), ?_⟩
  · rw [← hW1, hrec]; exact run_enterLoop_outer _ _ _ _ _
  · simp only [resolve, ha.eval hg]
    simp [go_sem]
  · simp [invoke, go_sem, hen]
  · rw [show (#[.func (.yield (w.heap.size + 1)) #[] #[]] ++ lb.toArray : Array Value) = ((Value.func (.yield (w.heap.size + 1)) #[] #[]) :: lb).toArray from by simp]
    refine (hit (w.heap.size + 1) (fun k M' B => ∃ H', B = Rs.bun (Rs.lr (w.heap.size + 1) w.heap.size (rec .ready) :: H') ∧ I k M' H') W1 M _ (Hp.le_refl _) ?_ S1.bun ⟨H, rfl, h0⟩).mono ?_
    · rintro k v k' M' B' H0 w' hk hle SB ⟨H', rfl, hI⟩
      have sw : ∀ (q : Rs) (A : List Rs), (q :: A ++ H0).Perm (q :: H0 ++ A) := fun q A => by simpa using (List.perm_append_comm : (A ++ H0).Perm (H0 ++ A))
      have S' := SB.unbunC.perm (sw _ _)
      obtain ⟨hl, hD⟩ := S'.ok (Rs.lr (w.heap.size + 1) w.heap.size (rec .ready)) (by simp)
      have hy := run_yield (P := P) (args := #[v]) hl (by rw [hrec]; rfl)
      rw [hrec] at hy
      refine ⟨fn, _, asg, bd, hy, roundIn_of_wpIn trivial ?_⟩
      have hC' : (Ctx.mk (fun _ _ _ => False) (some (w.heap.size + 1))).F = Fence.wide.inRound (w.heap.size + 1) := rfl
      have e1 : ((#[p] : Array Tmp).zip #[v]).foldl (fun tmps (t, a) => tmps.setIfInBounds t a) a.tmps = a.tmps.setIfInBounds p v := by simp
      rw [← hC']
      have hA := hassign k k' v M' H' w' (Ctx.mk (fun _ _ _ => False) (some (w.heap.size + 1))) (Rs.bun (Rs.lr (w.heap.size + 1) w.heap.size (rec .ready) :: H0)) hk hle S'.bunC hI _ (env_start ha (by simpa using hp'))
      rw [e1]
      refine wpIn_mono hA ?_
      rintro e a2 w2 hq
      cases e with
      | normal =>
        obtain ⟨M2, H2, hle2, S2b, hI1⟩ := hq
        have S2 := S2b.unbunC
        obtain ⟨hl2, _⟩ := S2.ok (Rs.lr (w.heap.size + 1) w.heap.size (rec .ready)) (by simp)
        refine ⟨_, run_beginRound hl2 (by rw [hrec]), ?_⟩
        have S3 := lr_put (rc' := { rec .ready with state := .busy }) S2
        refine wpIn_mono (hbody k' M2 H2 _ (Ctx.mk (fun _ _ _ => False) (some (w.heap.size + 1))) _ a2 (hle.trans hle2) (SH.bunC (A := Rs.lr (w.heap.size + 1) w.heap.size { rec .ready with state := .busy } :: H0) (B := H2) S3) hI1) ?_
        rintro e a3 w3 hq3
        cases e with
        | normal =>
          obtain ⟨M4, H4, hle4, S4b, hI4⟩ := hq3
          have S4 := S4b.unbunC
          obtain ⟨hl4, _⟩ := S4.ok (Rs.lr (w.heap.size + 1) w.heap.size { rec .ready with state := .busy }) (by simp)
          have he := run_endRound (P := P) none hl4
          have S5 := lr_put (rc' := rec .ready) S4
          refine ⟨_, _, he, _, rfl, rfl, M4, Rs.bun (Rs.lr (w.heap.size + 1) w.heap.size (rec .ready) :: H4), hle2.trans hle4, ?_, H4, rfl, hI4⟩
          have e2 : ({ ({ rec .ready with state := .busy } : Loop) with state := (if (none : Option Code).isNone = true then LoopState.ready else LoopState.done), pending := none } : Loop) = rec .ready := by rw [hrec]; rfl
          rw [e2]
          exact SH.bunC (A := Rs.lr (w.heap.size + 1) w.heap.size (rec .ready) :: H4) (B := H0) (SH.perm (H := Rs.lr (w.heap.size + 1) w.heap.size (rec .ready) :: H0 ++ H4) S5 (sw (Rs.lr (w.heap.size + 1) w.heap.size (rec .ready)) H4).symm)
        | _ => exact hq3.elim
      | _ => exact hq.elim
    · rintro e w2 ⟨⟨v, rfl⟩, k, M', B', hfin, hle, SB, H', rfl, hI⟩
      have S' := SB.unbun
      obtain ⟨hl, hD⟩ := S'.ok (Rs.lr (w.heap.size + 1) w.heap.size (rec .ready)) (by simp)
      have he := run_endLoop (P := P) hl (by rw [hrec]; simp)
      refine ⟨none, w2.putObj (w.heap.size + 1) (.loop { rec .ready with state := .exhausted }), by rw [he, hrec], ?_⟩
      have := hdone k a M' H' _ w.heap.size (w.heap.size + 1) _ hfin ha hle (lr_put (rc' := { rec .ready with state := .exhausted }) S') hI
      rw [hdf]
      exact this
end
end InF
end Go.Proofs.YthppkofceancjaaGreat
namespace Go.Proofs.YthppkofceancjaaGreat
open Go.ChangeShapes Go.WideShapes Go.ChangeAt Go.RowKit
def tmF (t : Tm) : List Value := [.int .i64 t.e, .int .i64 t.c]
def cdTm : Cd Tm := ⟨tmF, 2, 16, 108, ⟨0, 0⟩, fun _ => rfl, by
 intro x u hu
 simp [tmF] at hu
 rcases hu with rfl | rfl <;> rfl⟩
/-- A list of terms that may be handed in. -/
def okT (a : List Tm) (i : Nat) : Prop := (-1000 ≤ (ga a i).e ∧ (ga a i).e ≤ 1000) ∧ (-1000000 ≤ (ga a i).c ∧ (ga a i).c ≤ 1000000) ∧ (ga a i).c ≠ 0 ∧ (0 < i → (ga a ((i : Int) - 1).toNat).e < (ga a i).e)
instance (a : List Tm) (i : Nat) : Decidable (okT a i) := by unfold okT; infer_instance
def LsE (a : List Tm) (u : Value) (N : Hp) : Prop := ∃ A c, u = .slice A a.length c ∧ RdA cdTm N A c a
/-- A polynomial in form, as a list that lasts. -/
def PT (B : Nat) (p : Pol) (u : Value) (N : Hp) : Prop := ∃ A c l, u = .slice A l.length c ∧ RdA cdTm N A c l ∧ Can l ∧ Bd l B ∧ mk (pr l) = p
theorem put_eq {l : List Tm} {e c : Int} {k : Nat} (hk : k ≤ l.length) (hlt : ∀ j, j < k → (ga l j).e < e) (hc : c ≠ 0) (hend : k = l.length ∨ (k < l.length ∧ ¬ (ga l k).e < e)) :
  put l e c = l.take k ++ (if k < l.length ∧ (ga l k).e = e then (if wr ((ga l k).c + c) = 0 then [] else [⟨e, wr ((ga l k).c + c)⟩]) ++ l.drop (k + 1) else ⟨e, c⟩ :: l.drop k) := by
 induction l generalizing k with
 | nil =>
  obtain rfl : k = 0 := by simp at hk; exact hk
  simp [put, hc]
 | cons t l ih =>
  unfold put
  rw [if_neg hc]
  cases k with
  | zero =>
   have hend' : ¬ t.e < e := by
    rcases hend with h | h
    ·simp at h
    ·exact h.2
   rw [if_neg hend']
   by_cases he : t.e = e
   ·have h2 : 0 < (t :: l).length ∧ (ga (t :: l) 0).e = e := ⟨by simp, he⟩
    rw [if_pos he, if_pos h2]
    show (if wr (t.c + c) = 0 then l else ⟨e, wr (t.c + c)⟩ :: l) = [] ++ ((if wr (t.c + c) = 0 then [] else [⟨e, wr (t.c + c)⟩]) ++ l)
    split <;> rfl
   ·have h2 : ¬ (0 < (t :: l).length ∧ (ga (t :: l) 0).e = e) := fun h => he h.2
    rw [if_neg he, if_neg h2]; rfl
  | succ k =>
   have h0 : t.e < e := hlt 0 (by omega)
   rw [if_pos h0]
   simp only [List.length_cons] at hk hend
   have e1 : ga (t :: l) (k + 1) = ga l k := rfl
   rw [ih (k := k) (by omega) (fun j hj => hlt (j + 1) (by omega)) (by rw [e1] at hend; omega), e1]
   simp only [List.length_cons, List.take_succ_cons, List.drop_succ_cons, List.cons_append, Nat.add_lt_add_iff_right]
theorem sl45 : SlOf Tryz.prog 45 cdTm := ⟨.agg [.int .i64 0, .int .i64 0].toArray, Tryz.underlying45, by kernel_rfl, rfl, by decide, by decide⟩
noncomputable def sameTerms_n0 : Code := Tryz.f21.body.getD .skip
noncomputable def sameTerms_n1 : Code := cL sameTerms_n0
noncomputable def sameTerms_n2 : Code := cR sameTerms_n0
noncomputable def sameTerms_n3 : Code := cL sameTerms_n2
noncomputable def sameTerms_n4 : Code := cR sameTerms_n2
noncomputable def sameTerms_n5 : Code := cL sameTerms_n3
noncomputable def sameTerms_n6 : Code := cR sameTerms_n3
noncomputable def sameTerms_n7 : Code := cL sameTerms_n6
noncomputable def sameTerms_n8 : Code := cR sameTerms_n6
noncomputable def sameTerms_n9 : Code := cL sameTerms_n4
noncomputable def sameTerms_n10 : Code := cR sameTerms_n4
noncomputable def sameTerms_n11 : Code := cL sameTerms_n9
noncomputable def sameTerms_n12 : Code := cR sameTerms_n9
noncomputable def sameTerms_n13 : Code := cL sameTerms_n12
noncomputable def sameTerms_n14 : Code := cL sameTerms_n13
noncomputable def sameTerms_n15 : Code := cL sameTerms_n14
noncomputable def sameTerms_n16 : Code := cR sameTerms_n14
noncomputable def sameTerms_n17 : Code := cL sameTerms_n15
noncomputable def sameTerms_n18 : Code := cR sameTerms_n15
noncomputable def sameTerms_n19 : Code := cL sameTerms_n18
noncomputable def sameTerms_n20 : Code := cR sameTerms_n18
noncomputable def sameTerms_n21 : Code := cL sameTerms_n16
noncomputable def sameTerms_n22 : Code := cR sameTerms_n16
noncomputable def sameTerms_n23 : Code := cL sameTerms_n21
noncomputable def sameTerms_n24 : Code := cL sameTerms_n23
noncomputable def sameTerms_n25 : Code := cR sameTerms_n23
noncomputable def sameTerms_n26 : Code := cL sameTerms_n25
noncomputable def sameTerms_n27 : Code := cR sameTerms_n25
noncomputable def sameTerms_n28 : Code := cL sameTerms_n10
noncomputable def sameTerms_n29 : Code := cR sameTerms_n10
set_option maxRecDepth 10000 in
theorem sameTerms_q {w : World} {M : Hp} {X : Fr} (p : List Tm) {pA : Option Addr} {pc : Nat} (q : List Tm) {qA : Option Addr} {qc : Nat} (hp : RdA cdTm (M.un X.h) pA pc p) (hq : RdA cdTm (M.un X.h) qA qc q) (he : p = q) (S : SH w M X []) : Cq Tryz.prog 21 [.slice pA p.length pc, .slice qA q.length qc] w M X (fun u => u = .bool true) := by
 unfold Cq
 have rmhp : p.length * 16 ≤ 140737488355328 := hp.room
 have rmhq : q.length * 16 ≤ 140737488355328 := hq.room
 have hle : p.length = q.length := by rw [he]
 refine calls_in (b := sameTerms_n0) Tryz.func21 rfl Tryz.ntmps21 rfl (fun C hC => (ws_sub [(0, _), (1, _)] ⟨rfl, rfl, trivial⟩ (ws_seqN sameTerms_n1 sameTerms_n2 rfl rfl rfl (ws_region rfl (wla 0 1 rfl rfl rfl rfl rfl rfl rfl (wl_end rfl (nmk [0, 1] rfl (nm_thn (ws_seqN sameTerms_n3 sameTerms_n4 rfl rfl rfl ?_)))))))))
 refine ws_seqN sameTerms_n5 sameTerms_n6 rfl rfl rfl (ws_region rfl (wlm 0 1 rfl rfl rfl rfl rfl rfl rfl (wlo 1 2 rfl rfl rfl (wo_run rfl rfl (run_len rfl rfl rfl rfl rfl rfl Tryz.underlying45) (wlm 2 3 rfl rfl rfl rfl rfl rfl rfl (wlo 3 4 rfl rfl rfl (wo_run rfl rfl (run_len rfl rfl rfl rfl rfl rfl Tryz.underlying45) (wlo 4 5 rfl rfl rfl (wo_run rfl rfl (run_neq rfl rfl rfl) (wl_end rfl (nmk [0, 1, 10] rfl ?_)))))))))))
 refine nm_thn ?_
 refine ws_condN sameTerms_n7 sameTerms_n8 rfl rfl rfl rfl (fun hb10 => ?_) (fun hb10 => ?_)
 ·replace hb10 := of_decide_eq_true hb10
  exfalso; omega
 ·replace hb10 := of_decide_eq_false hb10
  refine ws_skip rfl (nmk [0, 1] rfl (nm_thn (ws_seqN sameTerms_n9 sameTerms_n10 rfl rfl rfl (ws_seqN sameTerms_n11 sameTerms_n12 rfl rfl rfl (ws_region rfl (wla 0 1 rfl rfl rfl rfl rfl rfl rfl (wl_end rfl (nm_thn ?_))))))))
  refine ws_blockN sameTerms_n13 0 rfl rfl rfl ?_
  refine ws_loopE (fun mx_ ax_ wx_ => ∃ (k : Nat), mx_ = p.length - k ∧ Env 26 [(0, .slice pA p.length pc), (1, .slice qA q.length qc), (5, .int .i64 (k : Int))] ax_ ∧ SH wx_ M X [] ∧ k ≤ p.length) rfl ?_ ?_
  ·intro ax_ hax_
   refine ⟨_, ⟨0, rfl, hax_.sub ⟨rfl, rfl, rfl, trivial⟩, S.pick [] [] (by decide) trivial, ?hq1f0⟩⟩
   case hq1f0 => omega
  ·rintro m1 a1 w1 ⟨k, rfl, he1, S1, hk⟩
   clear S
   refine ws_in he1 (c := sameTerms_n14) rfl ?_
   clear he1 a1
   refine ws_seqN sameTerms_n15 sameTerms_n16 rfl rfl rfl (ws_seqN sameTerms_n17 sameTerms_n18 rfl rfl rfl (ws_region rfl (wlm 0 1 rfl rfl rfl rfl rfl rfl rfl (wlm 1 2 rfl rfl rfl rfl rfl rfl rfl (wlo 2 3 rfl rfl rfl (wo_run rfl rfl (run_len rfl rfl rfl rfl rfl rfl Tryz.underlying45) (wlo 3 4 rfl rfl rfl (wo_run rfl rfl (run_lss rfl rfl rfl) (wl_end rfl (nmk [0, 1, 5, 14] rfl ?_))))))))))
   refine nm_thn ?_
   refine ws_condN sameTerms_n19 sameTerms_n20 rfl rfl rfl rfl (fun hb14 => ?_) (fun hb14 => ?_)
   ·replace hb14 := of_decide_eq_true hb14
    refine ws_skip rfl (nmk [0, 1, 5] rfl (nm_thn (ws_seqN sameTerms_n21 sameTerms_n22 rfl rfl rfl (ws_blockN sameTerms_n23 1 rfl rfl rfl (ws_seqN sameTerms_n24 sameTerms_n25 rfl rfl rfl (ws_draw rfl (by kernel_rfl) S1 9 rfl ?_))))))
    clear S1
    refine wap 0 8 rfl (by kernel_rfl) rfl rfl rfl (fun w2 => run_move rfl rfl) ?_
    refine wap 1 7 rfl (by kernel_rfl) rfl rfl rfl (fun w3 => run_move rfl rfl) ?_
    refine wat 2 6 rfl (by kernel_rfl) rfl rfl rfl (fun M3 N3 w4 hle4 S4 => .inl (run_indexM (C := cdTm) k rfl rfl rfl sl45 (by first | rfl | omega) (hp.mono (Hp.un_mono hle4 S4.mx)) (by first | omega | (simp only [lens]; omega)))) ?_
    refine wat 3 5 rfl (by kernel_rfl) rfl rfl rfl (fun M4 N4 w5 hle5 S5 => .inl (run_loadN (us := [_, _]) rfl rfl Tryz.underlying108 rfl sz108 ((hp.mono (Hp.un_mono hle5 S5.mx)).cellsAt S5.um (e := k) (by first | omega | (simp only [lens]; omega)) (j := 0) ⟨rfl, rfl, trivial⟩))) ?_
    refine wap 4 4 rfl (by kernel_rfl) rfl rfl rfl (fun w6 => run_move rfl rfl) ?_
    refine wap 5 3 rfl (by kernel_rfl) rfl rfl rfl (fun w7 => run_move rfl rfl) ?_
    refine wat 6 2 rfl (by kernel_rfl) rfl rfl rfl (fun M7 N7 w8 hle8 S8 => .inl (run_indexM (C := cdTm) k rfl rfl rfl sl45 (by first | rfl | omega) (hq.mono (Hp.un_mono hle8 S8.mx)) (by first | omega | (simp only [lens]; omega)))) ?_
    refine wat 7 1 rfl (by kernel_rfl) rfl rfl rfl (fun M8 N8 w9 hle9 S9 => .inl (run_loadN (us := [_, _]) rfl rfl Tryz.underlying108 rfl sz108 ((hq.mono (Hp.un_mono hle9 S9.mx)).cellsAt S9.um (e := k) (by first | omega | (simp only [lens]; omega)) (j := 0) ⟨rfl, rfl, trivial⟩))) ?_
    refine wap 8 0 rfl (by kernel_rfl) rfl rfl rfl (fun w10 => run_neSt (Q := ((ga p k).e) = ((ga q k).e) ∧ ((ga p k).c) = ((ga q k).c)) rfl rfl rfl se108 ⟨_, _, _, _, rfl, rfl, ⟨_, _, _, rfl, rfl, rfl⟩, rfl⟩) ?_
    refine wa_end (by kernel_rfl) (fun w11 S11 => ?_)
    refine nmk [0, 1, 5, 25] rfl (nm_thn ?_)
    refine ws_condN sameTerms_n26 sameTerms_n27 rfl rfl rfl rfl (fun hb25 => ?_) (fun hb25 => ?_)
    ·replace hb25 := of_decide_eq_true hb25
     exfalso; exact hb25 (by rw [he]; exact ⟨rfl, rfl⟩)
    ·replace hb25 := of_decide_eq_false hb25
     refine ws_skip rfl (nm_blk (nmk [0, 1, 5] rfl (nm_thn (ws_region rfl (wlm 0 1 rfl rfl rfl rfl rfl rfl rfl (wlo 1 2 rfl rfl rfl (wo_run rfl rfl (run_add rfl rfl rfl (by first | omega | (simp only [lens]; omega))) ?_)))))))
     refine wla 2 3 rfl rfl rfl rfl rfl rfl rfl (wl_end rfl (nm_lp ?_))
     intro ax_ hax_
     refine ⟨_, ?hq2m, ⟨k + 1, rfl, hax_.sub ⟨rfl, rfl, rfl, trivial⟩, S11.pick [] [] (by decide) trivial, ?hq2f0⟩⟩
     case hq2f0 => omega
     case hq2m => omega
   ·replace hb14 := of_decide_eq_false hb14
    refine ws_exit rfl rfl (nm_sub [] trivial (nm_thn (ws_seqN sameTerms_n28 sameTerms_n29 rfl rfl rfl (ws_region rfl (wla 0 1 rfl rfl rfl rfl rfl rfl rfl (wl_end rfl (nm_thn (ws_ret hC [_] rfl rfl ⟨rfl, trivial⟩ ?_))))))))
    exact ⟨_, rfl, (S1.pick [] [] (by decide) trivial), rfl⟩
end Go.Proofs.YthppkofceancjaaGreat
namespace Go.Proofs.YthppkofceancjaaGreat
open Go.ChangeShapes Go.WideShapes Go.ChangeAt Go.RowKit
theorem put_len1 (l : List Tm) (e c : Int) : (put l e c).length ≤ l.length + 1 := by
 induction l with
 | nil =>
  rw [put]
  split
  ·exact Nat.zero_le _
  ·exact Nat.le_refl _
 | cons t l ih =>
  rw [put]
  simp only [List.length_cons]
  split
  ·simp only [List.length_cons]; omega
  ·split
   ·simp only [List.length_cons]; omega
   ·split
    ·split
     ·omega
     ·simp only [List.length_cons]; omega
    ·simp only [List.length_cons]; omega
noncomputable def Put_n0 : Code := Tryz.f55.body.getD .skip
noncomputable def Put_n1 : Code := cL Put_n0
noncomputable def Put_n2 : Code := cR Put_n0
noncomputable def Put_n3 : Code := cL Put_n2
noncomputable def Put_n4 : Code := cR Put_n2
noncomputable def Put_n5 : Code := cL Put_n3
noncomputable def Put_n6 : Code := cR Put_n3
noncomputable def Put_n7 : Code := cL Put_n6
noncomputable def Put_n8 : Code := cR Put_n6
noncomputable def Put_n9 : Code := cL Put_n7
noncomputable def Put_n10 : Code := cR Put_n7
noncomputable def Put_n11 : Code := cL Put_n4
noncomputable def Put_n12 : Code := cR Put_n4
noncomputable def Put_n13 : Code := cL Put_n12
noncomputable def Put_n14 : Code := cR Put_n12
noncomputable def Put_n15 : Code := cL Put_n13
noncomputable def Put_n16 : Code := cL Put_n15
noncomputable def Put_n17 : Code := cL Put_n16
noncomputable def Put_n18 : Code := cR Put_n16
noncomputable def Put_n19 : Code := cL Put_n17
noncomputable def Put_n20 : Code := cR Put_n17
noncomputable def Put_n21 : Code := cL Put_n20
noncomputable def Put_n22 : Code := cR Put_n20
noncomputable def Put_n23 : Code := cL Put_n18
noncomputable def Put_n24 : Code := cL Put_n14
noncomputable def Put_n25 : Code := cR Put_n14
noncomputable def Put_n26 : Code := cL Put_n25
noncomputable def Put_n27 : Code := cR Put_n25
noncomputable def Put_n28 : Code := cL Put_n27
noncomputable def Put_n29 : Code := cR Put_n27
noncomputable def Put_n30 : Code := cL Put_n28
noncomputable def Put_n31 : Code := cR Put_n28
noncomputable def Put_n32 : Code := cL Put_n31
noncomputable def Put_n33 : Code := cR Put_n31
noncomputable def Put_n34 : Code := cL Put_n32
noncomputable def Put_n35 : Code := cR Put_n32
noncomputable def Put_n36 : Code := cL Put_n34
noncomputable def Put_n37 : Code := cR Put_n34
noncomputable def Put_n38 : Code := cL Put_n37
noncomputable def Put_n39 : Code := cR Put_n37
noncomputable def Put_n40 : Code := cL Put_n29
noncomputable def Put_n41 : Code := cR Put_n29
set_option maxRecDepth 10000 in
theorem Put_t {w : World} {M : Hp} {X : Fr} (l : List Tm) {lA : Option Addr} {lc : Nat} (e : Int) (c : Int) (hl : RdA cdTm M lA lc l) (hro : l.length + 1 ≤ 4398046511104) (S : SH w M X []) : Ct Tryz.prog 55 [.slice lA l.length lc, .int .i64 e, .int .i64 c] w M X (LsE (put l e c)) := by
 unfold Ct
 have rmhl : l.length * 16 ≤ 140737488355328 := hl.room
 refine calls_in (b := Put_n0) Tryz.func55 rfl Tryz.ntmps55 rfl (fun C hC => (ws_sub [(0, _), (1, _), (2, _)] ⟨rfl, rfl, rfl, trivial⟩ (ws_seqN Put_n1 Put_n2 rfl rfl rfl (ws_region rfl (wla 0 1 rfl rfl rfl rfl rfl rfl rfl (wl_end rfl (nmk [0, 1, 2] rfl (nm_thn (ws_seqN Put_n3 Put_n4 rfl rfl rfl ?_)))))))))
 refine ws_seqN Put_n5 Put_n6 rfl rfl rfl (ws_region rfl (wlm 0 1 rfl rfl rfl rfl rfl rfl rfl (wlo 1 2 rfl rfl rfl (wo_run rfl rfl (run_eql rfl rfl rfl) (wl_end rfl (nmk [0, 1, 2, 10] rfl (nm_thn ?_)))))))
 refine ws_condN Put_n7 Put_n8 rfl rfl rfl rfl (fun hb10 => ?_) (fun hb10 => ?_)
 ·replace hb10 := of_decide_eq_true hb10
  refine ws_seqN Put_n9 Put_n10 rfl rfl rfl (ws_region rfl (wlm 0 1 rfl rfl rfl rfl rfl rfl rfl (wla 1 2 rfl rfl rfl rfl rfl rfl rfl (wl_end rfl (nmk [6] rfl (nm_thn (ws_ret hC [_] rfl rfl ⟨rfl, trivial⟩ ?_)))))))
  refine ⟨_, rfl, _, Hp.le_refl _, (S.pick [] [] (by decide) trivial), ?_⟩
  have e9 : put l e c = l := by rw [hb10]; exact put_zero l e
  rw [e9]
  exact ⟨_, _, rfl, hl⟩
 ·replace hb10 := of_decide_eq_false hb10
  refine ws_skip rfl (nmk [0, 1, 2] rfl (nm_thn (ws_seqN Put_n11 Put_n12 rfl rfl rfl (ws_region rfl (wla 0 1 rfl rfl rfl rfl rfl rfl rfl (wl_end rfl (nm_thn (ws_seqN Put_n13 Put_n14 rfl rfl rfl ?_))))))))
  refine ws_cut (fun ax_ wx_ => ∃ (k : Nat) (M1 : Hp), M.le M1 ∧ Env 78 [(0, .slice lA l.length lc), (1, .int .i64 e), (2, .int .i64 c), (7, .int .i64 (k : Int))] ax_ ∧ SH wx_ M1 X [] ∧ k ≤ l.length ∧ (∀ j, j < k → (ga l j).e < e) ∧ (k = l.length ∨ (k < l.length ∧ ¬ (ga l k).e < e))) ?_ ?_
  ·refine ws_blockN Put_n15 0 rfl rfl rfl ?_
   refine ws_loopE (fun mx_ ax_ wx_ => ∃ (k : Nat) (M2 : Hp), M.le M2 ∧ mx_ = l.length - k ∧ Env 78 [(0, .slice lA l.length lc), (1, .int .i64 e), (2, .int .i64 c), (7, .int .i64 (k : Int))] ax_ ∧ SH wx_ M2 X [] ∧ k ≤ l.length ∧ (∀ j, j < k → (ga l j).e < e)) rfl ?_ ?_
   ·intro ax_ hax_
    refine ⟨_, ⟨0, _, Hp.le_refl _, rfl, hax_.sub ⟨rfl, rfl, rfl, rfl, trivial⟩, S.pick [] [] (by decide) trivial, ?hq1f0, ?hq1f1⟩⟩
    case hq1f0 => omega
    case hq1f1 => (intro j hj; omega)
   ·rintro m1 a1 w2 ⟨k, M2, hle2, rfl, he2, S2, hk, hlt⟩
    clear S
    refine ws_in he2 (c := Put_n16) rfl ?_
    clear he2 a1
    replace hl := hl.mono hle2
    refine ws_seqN Put_n17 Put_n18 rfl rfl rfl (ws_seqN Put_n19 Put_n20 rfl rfl rfl (ws_region rfl (wlm 0 1 rfl rfl rfl rfl rfl rfl rfl (wlm 1 2 rfl rfl rfl rfl rfl rfl rfl (wlo 2 3 rfl rfl rfl (wo_run rfl rfl (run_len rfl rfl rfl rfl rfl rfl Tryz.underlying45) (wlo 3 4 rfl rfl rfl (wo_run rfl rfl (run_lss rfl rfl rfl) (wlm 4 5 rfl rfl rfl rfl rfl rfl rfl ?_)))))))))
    refine wl_split (t := 16) rfl (fun hg16 => ?_) (fun hg16 => ?_)
    ·replace hg16 := of_decide_eq_true hg16
     refine wlg 5 6 rfl rfl rfl rfl rfl rfl rfl rfl (wo_run rfl rfl (run_move rfl rfl) (wlg 6 7 rfl rfl rfl rfl rfl rfl rfl rfl (wo_run rfl rfl (run_move rfl rfl) (wlg 7 8 rfl rfl rfl rfl rfl rfl rfl rfl (wo_run rfl rfl (run_indexM (C := cdTm) k rfl rfl rfl sl45 (by first | rfl | omega) hl (by first | omega | (simp only [lens]; omega))) ?_)))))
     refine wlg 8 9 rfl rfl rfl rfl rfl rfl rfl rfl (wo_run rfl rfl (run_fieldAddr rfl rfl Tryz.underlying108 rfl (ce3) (nf3)) (wlg 9 10 rfl rfl rfl rfl rfl rfl rfl rfl (wo_run rfl rfl (run_load1 rfl rfl Tryz.underlying3 rfl (hl.cell S2.m (i := k) (by first | omega | (simp only [lens]; omega)) 0 rfl rfl)) ?_)))
     refine wlg 10 11 rfl rfl rfl rfl rfl rfl rfl rfl (wo_run rfl rfl (run_move rfl rfl) (wlg 11 12 rfl rfl rfl rfl rfl rfl rfl rfl (wo_run rfl rfl (run_lss rfl rfl rfl) (wlo 12 13 rfl rfl rfl (wo_run rfl rfl (run_pickT rfl rfl rfl) (wl_end rfl (nmk [0, 1, 2, 7, 24] rfl (nm_thn ?_))))))))
     refine ws_condN Put_n21 Put_n22 rfl rfl rfl rfl (fun hb24 => ?_) (fun hb24 => ?_)
     ·replace hb24 := of_decide_eq_true hb24
      refine ws_skip rfl (nmk [0, 1, 2, 7] rfl (nm_thn (ws_blockN Put_n23 1 rfl rfl rfl (ws_region rfl (wlm 0 1 rfl rfl rfl rfl rfl rfl rfl (wlo 1 2 rfl rfl rfl (wo_run rfl rfl (run_add rfl rfl rfl (by first | omega | (simp only [lens]; omega))) ?_)))))))
      refine wla 2 3 rfl rfl rfl rfl rfl rfl rfl (wl_end rfl (nm_blk (nm_lp ?_)))
      intro ax_ hax_
      refine ⟨_, ?hq2m, ⟨k + 1, _, (hle2), rfl, hax_.sub ⟨rfl, rfl, rfl, rfl, trivial⟩, S2.pick [] [] (by decide) trivial, ?hq2f0, ?hq2f1⟩⟩
      case hq2f0 => omega
      case hq2f1 => (intro j hj; by_cases h : j = k; (subst h; assumption); exact hlt j (by omega))
      case hq2m => omega
     ·replace hb24 := of_decide_eq_false hb24
      refine ws_exit rfl rfl (nm_lp ?_)
      intro ax_ hax_
      refine ⟨k, _, (hle2), hax_.sub ⟨rfl, rfl, rfl, rfl, trivial⟩, S2.pick [] [] (by decide) trivial, ?hq3f0, ?hq3f1, ?hq3f2⟩
      case hq3f0 => omega
      case hq3f1 => exact hlt
      case hq3f2 => omega
    ·replace hg16 := of_decide_eq_false hg16
     refine wln 5 6 rfl rfl rfl rfl rfl rfl rfl rfl rfl (wln 6 7 rfl rfl rfl rfl rfl rfl rfl rfl rfl (wln 7 8 rfl rfl rfl rfl rfl rfl rfl rfl rfl (wln 8 9 rfl rfl rfl rfl rfl rfl rfl rfl rfl (wln 9 10 rfl rfl rfl rfl rfl rfl rfl rfl rfl (wln 10 11 rfl rfl rfl rfl rfl rfl rfl rfl rfl (wln 11 12 rfl rfl rfl rfl rfl rfl rfl rfl rfl (wlo 12 13 rfl rfl rfl (wo_run rfl rfl (run_pickF rfl rfl rfl) (wl_end rfl ?_)))))))))
     refine nmk [0, 1, 2, 7, 24] rfl (nm_thn (ws_condFN Put_n22 rfl rfl rfl (ws_exit rfl rfl (nm_lp ?_))))
     intro ax_ hax_
     refine ⟨k, _, (hle2), hax_.sub ⟨rfl, rfl, rfl, rfl, trivial⟩, S2.pick [] [] (by decide) trivial, ?hq4f0, ?hq4f1, ?hq4f2⟩
     case hq4f0 => omega
     case hq4f1 => exact hlt
     case hq4f2 => omega
  ·rintro a2 w1 ⟨k, M1, hle1, he1, S1, hk, hlt, hnd⟩
   clear S
   refine nm_in he1 ?_
   clear he1 a2
   replace hl := hl.mono hle1
   refine nm_thn (ws_seqN Put_n24 Put_n25 rfl rfl rfl (ws_region rfl (wla 0 1 rfl rfl rfl rfl rfl rfl rfl (wl_end rfl (nm_thn (ws_seqN Put_n26 Put_n27 rfl rfl rfl (ws_region rfl (wlm 0 1 rfl rfl rfl rfl rfl rfl rfl ?_))))))))
   refine wlm 1 2 rfl rfl rfl rfl rfl rfl rfl (wlm 2 3 rfl rfl rfl rfl rfl rfl rfl (wlo 3 4 rfl rfl rfl (wo_sliceT (C := cdTm) k rfl rfl rfl rfl rfl sl45 (by first | rfl | omega) (by first | omega | (simp only [lens]; omega)) hl ?_)))
   intro A1 c1 hr1
   have S3 := S1.nilrow cdTm; clear S1
   refine wlo 4 5 rfl rfl rfl (wo_appendM (C := cdTm) (i := 0) rfl rfl rfl rfl rfl rfl rfl rfl sl45 S3 rfl hr1 S3.m (by show (0 + _) * 16 ≤ _; rw [List.length_take]; omega) ?_)
   intro vr2 w3 S4; clear S3
   change SH _ _ _ [Rs.row cdTm vr2 (l.take k)] at S4
   refine wla 5 6 rfl rfl rfl rfl rfl rfl rfl (wl_end rfl (nmk [0, 1, 2, 7, 8] rfl (nm_thn (ws_seqN Put_n28 Put_n29 rfl rfl rfl ?_))))
   refine ws_cut (fun ax_ wx_ => ∃ (k2 : Nat) (acc : List Tm) (vro : Value) (M3 : Hp), M1.le M3 ∧ Env 78 [(0, .slice lA l.length lc), (7, .int .i64 (k2 : Int)), (8, vro)] ax_ ∧ SH wx_ M3 X [Rs.row cdTm vro acc] ∧ put l e c = acc ++ l.drop k2 ∧ k2 ≤ l.length ∧ acc.length ≤ l.length + 1) ?_ ?_
   ·refine ws_seqN Put_n30 Put_n31 rfl rfl rfl (ws_region rfl (wlm 0 1 rfl rfl rfl rfl rfl rfl rfl (wlm 1 2 rfl rfl rfl rfl rfl rfl rfl (wlo 2 3 rfl rfl rfl (wo_run rfl rfl (run_len rfl rfl rfl rfl rfl rfl Tryz.underlying45) (wlo 3 4 rfl rfl rfl (wo_run rfl rfl (run_lss rfl rfl rfl) (wlm 4 5 rfl rfl rfl rfl rfl rfl rfl ?_))))))))
    refine wl_split (t := 36) rfl (fun hg36 => ?_) (fun hg36 => ?_)
    ·replace hg36 := of_decide_eq_true hg36
     refine wlg 5 6 rfl rfl rfl rfl rfl rfl rfl rfl (wo_run rfl rfl (run_move rfl rfl) (wlg 6 7 rfl rfl rfl rfl rfl rfl rfl rfl (wo_run rfl rfl (run_move rfl rfl) (wlg 7 8 rfl rfl rfl rfl rfl rfl rfl rfl (wo_run rfl rfl (run_indexM (C := cdTm) k rfl rfl rfl sl45 (by first | rfl | omega) hl (by first | omega | (simp only [lens]; omega))) ?_)))))
     refine wlg 8 9 rfl rfl rfl rfl rfl rfl rfl rfl (wo_run rfl rfl (run_fieldAddr rfl rfl Tryz.underlying108 rfl (ce3) (nf3)) (wlg 9 10 rfl rfl rfl rfl rfl rfl rfl rfl (wo_run rfl rfl (run_load1 rfl rfl Tryz.underlying3 rfl (hl.cell S4.m (i := k) (by first | omega | (simp only [lens]; omega)) 0 rfl rfl)) ?_)))
     refine wlg 10 11 rfl rfl rfl rfl rfl rfl rfl rfl (wo_run rfl rfl (run_move rfl rfl) (wlg 11 12 rfl rfl rfl rfl rfl rfl rfl rfl (wo_run rfl rfl (run_eql rfl rfl rfl) (wlo 12 13 rfl rfl rfl (wo_run rfl rfl (run_pickT rfl rfl rfl) (wl_end rfl (nmk [0, 1, 2, 7, 8, 44] rfl (nm_thn ?_))))))))
     refine ws_condN Put_n32 Put_n33 rfl rfl rfl rfl (fun hb44 => ?_) (fun hb44 => ?_)
     ·replace hb44 := of_decide_eq_true hb44
      refine ws_seqN Put_n34 Put_n35 rfl rfl rfl (ws_seqN Put_n36 Put_n37 rfl rfl rfl (ws_region rfl (wlm 0 1 rfl rfl rfl rfl rfl rfl rfl (wlm 1 2 rfl rfl rfl rfl rfl rfl rfl (wlo 2 3 rfl rfl rfl (wo_run rfl rfl (run_indexM (C := cdTm) k rfl rfl rfl sl45 (by first | rfl | omega) hl (by first | omega | (simp only [lens]; omega))) ?_))))))
      refine wlo 3 4 rfl rfl rfl (wo_run rfl rfl (run_fieldAddr rfl rfl Tryz.underlying108 rfl (ce3) (nf3)) (wlo 4 5 rfl rfl rfl (wo_run rfl rfl (run_load1 rfl rfl Tryz.underlying3 rfl (hl.cell S4.m (i := k) (by first | omega | (simp only [lens]; omega)) 1 rfl rfl)) ?_)))
      refine wlm 5 6 rfl rfl rfl rfl rfl rfl rfl (wlo 6 7 rfl rfl rfl (wo_run rfl rfl (run_addW rfl rfl rfl) (wlo 7 8 rfl rfl rfl (wo_run rfl rfl (run_neq rfl rfl rfl) (wl_end rfl (nmk [0, 1, 2, 7, 8, 52] rfl (nm_thn ?_)))))))
      refine ws_condN Put_n38 Put_n39 rfl rfl rfl rfl (fun hb52 => ?_) (fun hb52 => ?_)
      ·replace hb52 := of_decide_eq_true hb52
       refine ws_region rfl (wlm 0 1 rfl rfl rfl rfl rfl rfl rfl (wlm 1 2 rfl rfl rfl rfl rfl rfl rfl (wlm 2 3 rfl rfl rfl rfl rfl rfl rfl (wlm 3 4 rfl rfl rfl rfl rfl rfl rfl (wlo 4 5 rfl rfl rfl (wo_run rfl rfl (run_indexM (C := cdTm) k rfl rfl rfl sl45 (by first | rfl | omega) hl (by first | omega | (simp only [lens]; omega))) ?_))))))
       refine wlo 5 6 rfl rfl rfl (wo_run rfl rfl (run_fieldAddr rfl rfl Tryz.underlying108 rfl (ce3) (nf3)) (wlo 6 7 rfl rfl rfl (wo_run rfl rfl (run_load1 rfl rfl Tryz.underlying3 rfl (hl.cell S4.m (i := k) (by first | omega | (simp only [lens]; omega)) 1 rfl rfl)) ?_)))
       refine wlm 7 8 rfl rfl rfl rfl rfl rfl rfl (wlo 8 9 rfl rfl rfl (wo_run rfl rfl (run_addW rfl rfl rfl) (wlo 9 10 rfl rfl rfl (wo_run rfl rfl (run_build (l := [_, _]) rfl rfl st108 rfl rfl) (wlo 10 11 rfl rfl rfl (wo_buildSlice1 (C := cdTm) (l := [_, _]) rfl rfl rfl rfl sl45 rfl rfl rfl rfl S4 ?_))))))
       intro gb1 w5 S6; clear S4
       refine wlo 11 12 rfl rfl rfl (wo_append1 (C := cdTm) (i := 1) (q := 0) (⟨e, wr (((ga l k).c) + c)⟩ : Tm) rfl rfl rfl rfl rfl rfl rfl rfl sl45 S6 rfl rfl rfl (by show (_ + 1) * 16 ≤ _; first | omega | (simp only [List.length_append, List.length_take, List.length_cons, List.length_nil, List.length_map]; omega)) ?_)
       intro vr3 w6 S7; clear S6
       have S8 := S7.pick [1] [_] (by decide) ⟨rfl, trivial⟩; clear S7
       refine wla 12 13 rfl rfl rfl rfl rfl rfl rfl (wl_end rfl (nmk [0, 7, 8] rfl (nm_thn (ws_region rfl (wlm 0 1 rfl rfl rfl rfl rfl rfl rfl (wlo 1 2 rfl rfl rfl (wo_run rfl rfl (run_add rfl rfl rfl (by first | omega | (simp only [lens]; omega))) ?_)))))))
       refine wla 2 3 rfl rfl rfl rfl rfl rfl rfl (wl_end rfl (nm_lp ?_))
       intro ax_ hax_
       refine ⟨k + 1, (l.take k) ++ [(⟨e, wr (((ga l k).c) + c)⟩ : Tm)], _, _, (Hp.le_refl _), hax_.sub ⟨rfl, rfl, rfl, trivial⟩, S8.pick [0] [_] (by decide) ⟨rfl, trivial⟩, ?hq5f0, ?hq5f1, ?hq5f2⟩
       case hq5f0 => (rw [put_eq (k := k) hk hlt hb10 hnd]; first | (rw [if_pos (show k < l.length ∧ (ga l k).e = e by omega)]; first | (rw [if_pos (show wr ((ga l k).c + c) = 0 by omega)]; simp) | (rw [if_neg (show ¬ wr ((ga l k).c + c) = 0 by omega)]; simp)) | (rw [if_neg (show ¬ (k < l.length ∧ (ga l k).e = e) by omega)]; simp))
       case hq5f1 => omega
       case hq5f2 => (simp only [List.length_append, List.length_take, List.length_cons, List.length_nil]; omega)
      ·replace hb52 := of_decide_eq_false hb52
       refine ws_skip rfl (nmk [0, 7, 8] rfl (nm_thn (ws_region rfl (wlm 0 1 rfl rfl rfl rfl rfl rfl rfl (wlo 1 2 rfl rfl rfl (wo_run rfl rfl (run_add rfl rfl rfl (by first | omega | (simp only [lens]; omega))) ?_))))))
       refine wla 2 3 rfl rfl rfl rfl rfl rfl rfl (wl_end rfl (nm_lp ?_))
       intro ax_ hax_
       refine ⟨k + 1, l.take k, _, _, (Hp.le_refl _), hax_.sub ⟨rfl, rfl, rfl, trivial⟩, S4.pick [0] [_] (by decide) ⟨rfl, trivial⟩, ?hq6f0, ?hq6f1, ?hq6f2⟩
       case hq6f0 => (rw [put_eq (k := k) hk hlt hb10 hnd]; first | (rw [if_pos (show k < l.length ∧ (ga l k).e = e by omega)]; first | (rw [if_pos (show wr ((ga l k).c + c) = 0 by omega)]; simp) | (rw [if_neg (show ¬ wr ((ga l k).c + c) = 0 by omega)]; simp)) | (rw [if_neg (show ¬ (k < l.length ∧ (ga l k).e = e) by omega)]; simp))
       case hq6f1 => omega
       case hq6f2 => (simp only [List.length_append, List.length_take, List.length_cons, List.length_nil]; omega)
     ·replace hb44 := of_decide_eq_false hb44
      refine ws_region rfl (wlm 0 1 rfl rfl rfl rfl rfl rfl rfl (wlm 1 2 rfl rfl rfl rfl rfl rfl rfl (wlm 2 3 rfl rfl rfl rfl rfl rfl rfl (wlo 3 4 rfl rfl rfl (wo_run rfl rfl (run_build (l := [_, _]) rfl rfl st108 rfl rfl) (wlo 4 5 rfl rfl rfl (wo_buildSlice1 (C := cdTm) (l := [_, _]) rfl rfl rfl rfl sl45 rfl rfl rfl rfl S4 ?_)))))))
      intro gb2 w7 S9; clear S4
      refine wlo 5 6 rfl rfl rfl (wo_append1 (C := cdTm) (i := 1) (q := 0) (⟨e, c⟩ : Tm) rfl rfl rfl rfl rfl rfl rfl rfl sl45 S9 rfl rfl rfl (by show (_ + 1) * 16 ≤ _; first | omega | (simp only [List.length_append, List.length_take, List.length_cons, List.length_nil, List.length_map]; omega)) ?_)
      intro vr4 w8 S10; clear S9
      have S11 := S10.pick [1] [_] (by decide) ⟨rfl, trivial⟩; clear S10
      refine wla 6 7 rfl rfl rfl rfl rfl rfl rfl (wl_end rfl (nm_lp ?_))
      intro ax_ hax_
      refine ⟨k, (l.take k) ++ [(⟨e, c⟩ : Tm)], _, _, (Hp.le_refl _), hax_.sub ⟨rfl, rfl, rfl, trivial⟩, S11.pick [0] [_] (by decide) ⟨rfl, trivial⟩, ?hq7f0, ?hq7f1, ?hq7f2⟩
      case hq7f0 => (rw [put_eq (k := k) hk hlt hb10 hnd]; first | (rw [if_pos (show k < l.length ∧ (ga l k).e = e by omega)]; first | (rw [if_pos (show wr ((ga l k).c + c) = 0 by omega)]; simp) | (rw [if_neg (show ¬ wr ((ga l k).c + c) = 0 by omega)]; simp)) | (rw [if_neg (show ¬ (k < l.length ∧ (ga l k).e = e) by omega)]; simp))
      case hq7f1 => omega
      case hq7f2 => (simp only [List.length_append, List.length_take, List.length_cons, List.length_nil]; omega)
    ·replace hg36 := of_decide_eq_false hg36
     refine wln 5 6 rfl rfl rfl rfl rfl rfl rfl rfl rfl (wln 6 7 rfl rfl rfl rfl rfl rfl rfl rfl rfl (wln 7 8 rfl rfl rfl rfl rfl rfl rfl rfl rfl (wln 8 9 rfl rfl rfl rfl rfl rfl rfl rfl rfl (wln 9 10 rfl rfl rfl rfl rfl rfl rfl rfl rfl (wln 10 11 rfl rfl rfl rfl rfl rfl rfl rfl rfl (wln 11 12 rfl rfl rfl rfl rfl rfl rfl rfl rfl (wlo 12 13 rfl rfl rfl (wo_run rfl rfl (run_pickF rfl rfl rfl) (wl_end rfl ?_)))))))))
     refine nmk [0, 1, 2, 7, 8, 44] rfl (nm_thn (ws_condFN Put_n33 rfl rfl rfl (ws_region rfl (wlm 0 1 rfl rfl rfl rfl rfl rfl rfl (wlm 1 2 rfl rfl rfl rfl rfl rfl rfl (wlm 2 3 rfl rfl rfl rfl rfl rfl rfl (wlo 3 4 rfl rfl rfl (wo_run rfl rfl (run_build (l := [_, _]) rfl rfl st108 rfl rfl) (wlo 4 5 rfl rfl rfl (wo_buildSlice1 (C := cdTm) (l := [_, _]) rfl rfl rfl rfl sl45 rfl rfl rfl rfl S4 ?_))))))))))
     intro gb3 w9 S12; clear S4
     refine wlo 5 6 rfl rfl rfl (wo_append1 (C := cdTm) (i := 1) (q := 0) (⟨e, c⟩ : Tm) rfl rfl rfl rfl rfl rfl rfl rfl sl45 S12 rfl rfl rfl (by show (_ + 1) * 16 ≤ _; first | omega | (simp only [List.length_append, List.length_take, List.length_cons, List.length_nil, List.length_map]; omega)) ?_)
     intro vr5 w10 S13; clear S12
     have S14 := S13.pick [1] [_] (by decide) ⟨rfl, trivial⟩; clear S13
     refine wla 6 7 rfl rfl rfl rfl rfl rfl rfl (wl_end rfl (nm_lp ?_))
     intro ax_ hax_
     refine ⟨k, (l.take k) ++ [(⟨e, c⟩ : Tm)], _, _, (Hp.le_refl _), hax_.sub ⟨rfl, rfl, rfl, trivial⟩, S14.pick [0] [_] (by decide) ⟨rfl, trivial⟩, ?hq8f0, ?hq8f1, ?hq8f2⟩
     case hq8f0 => (rw [put_eq (k := k) hk hlt hb10 hnd]; first | (rw [if_pos (show k < l.length ∧ (ga l k).e = e by omega)]; first | (rw [if_pos (show wr ((ga l k).c + c) = 0 by omega)]; simp) | (rw [if_neg (show ¬ wr ((ga l k).c + c) = 0 by omega)]; simp)) | (rw [if_neg (show ¬ (k < l.length ∧ (ga l k).e = e) by omega)]; simp))
     case hq8f1 => omega
     case hq8f2 => (simp only [List.length_append, List.length_take, List.length_cons, List.length_nil]; omega)
   ·rintro a3 w4 ⟨k2, acc, vro, M3, hle3, he3, S5, hpe, hk2, hal⟩
    clear S4
    refine nm_in he3 ?_
    clear he3 a3
    replace hl := hl.mono hle3
    replace hr1 := hr1.mono hle3
    refine nm_thn (ws_seqN Put_n40 Put_n41 rfl rfl rfl (ws_region rfl (wlm 0 1 rfl rfl rfl rfl rfl rfl rfl (wlm 1 2 rfl rfl rfl rfl rfl rfl rfl (wlm 2 3 rfl rfl rfl rfl rfl rfl rfl (wlo 3 4 rfl rfl rfl (wo_sliceD (C := cdTm) k2 rfl rfl rfl rfl rfl sl45 (by first | rfl | omega) (by first | omega | (simp only [lens]; omega)) hl ?_)))))))
    intro A2 c2 hr2
    refine wlo 4 5 rfl rfl rfl (wo_appendM (C := cdTm) (i := 0) rfl rfl rfl rfl rfl rfl rfl rfl sl45 S5 rfl hr2 S5.m (by (show (_ + _) * 16 ≤ _; have e3 := put_len1 l e c; rw [hpe, List.length_append] at e3; omega)) ?_)
    intro vro1 w11 S15; clear S5
    change SH _ _ _ [Rs.row cdTm vro1 (acc ++ (l.drop k2))] at S15
    refine wla 5 6 rfl rfl rfl rfl rfl rfl rfl (wl_end rfl (nmk [6] rfl (nm_thn ?_)))
    obtain ⟨M4, hle4, S16, ⟨A3, c3, e1, hr3⟩⟩ := S15.pubrow (i := 0) (H' := [_]) rfl rfl (by (show _ * 16 ≤ _; have e3 := put_len1 l e c; rw [hpe] at e3; omega))
    clear S15; subst e1
    replace hl := hl.mono hle4
    replace hr1 := hr1.mono hle4
    replace hr2 := hr2.mono hle4
    refine ws_ret hC [_] rfl rfl ⟨rfl, trivial⟩ ?_
    refine ⟨_, rfl, _, (hle1.trans hle3).trans hle4, (S16.pick [] [] (by decide) trivial), ?_⟩
    rw [hpe]
    exact ⟨_, _, rfl, hr3⟩
end Go.Proofs.YthppkofceancjaaGreat
namespace Go.Proofs.YthppkofceancjaaGreat
open Go.ChangeShapes Go.WideShapes Go.ChangeAt Go.RowKit
def KeysR (g : Nat) (u : Value) (M : Hp) : Prop := ∃ b, u = .func (.func 144) #[] [.pointer (some ⟨b, 0, none⟩)].toArray ∧ BxM M b 99 [.map (some g)]
theorem SH.pubB2 {w : World} {M : Hp} {X : Fr} {H H' : List Rs} {i g : Nat} {T : TypeId} {l : List Value} (S : SH w M X H) (hi : nth H i = some (Rs.box g T l)) (hH : H.set i Rs.emp = H') : ∃ M', M.le M' ∧ SH w M' X H' ∧ BxM M' g T l := by
 obtain ⟨h1, h2, h3⟩ := S.pub hi hH
 refine ⟨_, h1, h2, ?_⟩
 show (M.put w _) g = _
 rw [h3 g (by simp [Rs.box])]
 exact S.get hi
/-- One key more. -/
def stpK (s : List Int × List Int) (v : Value) (s' : List Int × List Int) : Prop := ∃ dn l1 x l2, s = (dn, l1 ++ x :: l2) ∧ v = .int .i64 x ∧ s' = (dn ++ [x], l1 ++ l2)
noncomputable def Keys_n0 : Code := Tryz.f94.body.getD .skip
noncomputable def Keys_n1 : Code := cL Keys_n0
noncomputable def Keys_n2 : Code := cR Keys_n0
noncomputable def Keys_n3 : Code := cL Keys_n2
noncomputable def Keys_n4 : Code := cR Keys_n2
set_option maxRecDepth 10000 in
theorem Keys_t {w : World} {M : Hp} {X : Fr} (es : List (Int × Int)) {ges : Nat} (hmes : MpOk (Value.int .i64) (Value.int .i64) ges es M) (S : SH w M X []) : Ct Tryz.prog 94 [.map (some ges)] w M X (KeysR ges) := by
 unfold Ct
 refine calls_in (b := Keys_n0) Tryz.func94 rfl Tryz.ntmps94 rfl (fun C hC => ?_)
 refine ws_sub [(0, _)] ⟨rfl, trivial⟩ ?_
 refine ws_seqN Keys_n1 Keys_n2 rfl rfl rfl ?_
 refine ws_region rfl ?_
 refine wl_op (k := 0) (k' := 1) rfl rfl rfl (wo_box (l := [_]) rfl rfl rfl rfl rfl S ?_)
 intro gb1 w1 S1; clear S
 refine wl_op (k := 1) (k' := 2) rfl rfl rfl (wo_run rfl rfl (run_assign rfl rfl) ?_)
 refine wl_end rfl ?_
 refine nm_sub [(1, _)] ⟨rfl, trivial⟩ ?_
 refine nm_thn ?_
 refine ws_seqN Keys_n3 Keys_n4 rfl rfl rfl ?_
 refine ws_region rfl ?_
 refine wl_op (k := 0) (k' := 1) rfl rfl rfl (wo_run rfl rfl (run_makeFunc (vs := [_]) rfl rfl rfl rfl) ?_)
 refine wl_op (k := 1) (k' := 2) rfl rfl rfl (wo_run rfl rfl (run_assign rfl rfl) ?_)
 refine wl_end rfl ?_
 refine nm_sub [(2, _)] ⟨rfl, trivial⟩ ?_
 refine nm_thn ?_
 obtain ⟨M1, hle1, S2, hbx1⟩ := S1.pubB2 (i := 0) (H' := [_]) rfl rfl
 clear S1
 replace hmes := hmes.mono hle1
 refine ws_ret hC [_] rfl rfl ⟨rfl, trivial⟩ ?_
 refine ⟨_, rfl, _, hle1, (S2.pick [] [] (by decide) trivial), ?_⟩
 exact ⟨_, rfl, hbx1⟩
namespace InF
noncomputable def Keys1_n0 : Code := Tryz.f144.body.getD .skip
noncomputable def Keys1_n1 : Code := cL Keys1_n0
noncomputable def Keys1_n2 : Code := cR Keys1_n0
noncomputable def Keys1_n3 : Code := cL Keys1_n2
noncomputable def Keys1_n4 : Code := cL Keys1_n3
noncomputable def Keys1_n5 : Code := cL Keys1_n4
noncomputable def Keys1_n6 : Code := cR Keys1_n4
noncomputable def Keys1_n7 : Code := cL Keys1_n6
noncomputable def Keys1_n8 : Code := cR Keys1_n6
noncomputable def Keys1_n9 : Code := cL Keys1_n7
noncomputable def Keys1_n10 : Code := cR Keys1_n7
noncomputable def Keys1_n11 : Code := cL Keys1_n8
noncomputable def Keys1_n12 : Code := cL Keys1_n11
noncomputable def Keys1_n13 : Code := cR Keys1_n11
noncomputable def Keys1_n14 : Code := cL Keys1_n13
noncomputable def Keys1_n15 : Code := cR Keys1_n13
noncomputable def Keys1_n17 : Code := cR Keys1_n15
set_option maxRecDepth 10000 in
theorem Keys1_iter {M : Hp} {X : Fr} {es : List (Int × Int)} {gm b : Nat} (hm : MpOk (Value.int .i64) (Value.int .i64) gm es M) (hbx : BxM M b 99 [.map (some gm)]) : IterX Tryz.prog 144 [.pointer (some ⟨b, 0, none⟩)] ([], es.map Prod.fst) stpK (fun s => s.2 = []) M X := by
 intro l J w M1 B hle0 hY S hJ0
 replace hm := hm.mono hle0
 replace hbx := hbx.mono hle0
 refine calls_in (b := Keys1_n0) Tryz.func144 rfl Tryz.ntmps144 rfl (fun C hCr hC => ?_)
 have hCF : C.F = Fence.wide := by unfold Ctx.F; rw [hCr]
 refine ws_sub [(0, _), (1, _)] ⟨rfl, rfl, trivial⟩ ?_
 refine ws_seqN Keys1_n1 Keys1_n2 rfl rfl rfl ?_
 refine ws_region rfl ?_
 refine wl_op (k := 0) (k' := 1) rfl rfl rfl (wo_run rfl rfl (run_load1 rfl rfl Tryz.underlying99 rfl (hbx.cell S.m rfl)) ?_)
 obtain ⟨arr1, clk1, hE1⟩ := hm.ents
 refine wl_op (k := 1) (k' := 2) rfl rfl rfl (wo_range rfl rfl rfl rfl Tryz.underlying99 S hE1 S.m ?_)
 intro r1 w1 S1; clear S
 refine wl_end rfl ?_
 refine nm_sub [(0, _), (5, _)] ⟨rfl, rfl, trivial⟩ ?_
 refine nm_thn ?_
 refine ws_blockN Keys1_n3 0 rfl rfl rfl ?_
 refine ws_loopE (fun mx_ ax_ wx_ => ∃ (sn : Array Nat) (dn : List (Int × Int)) (lf : List (Int × Int)) (B1 : Rs) (M2 : Hp), M1.le M2 ∧ mx_ = lf.length ∧ Env 14 [(0, .func (.yield l) #[] #[]), (5, .pointer (some ⟨r1, 0, none⟩))] ax_ ∧ SH wx_ M2 X [Rs.itr gm clk1 r1 sn, B1] ∧ Lft (Value.int .i64) (Value.int .i64) arr1 sn lf ∧ (dn ++ lf).Perm es ∧ J (dn.map Prod.fst, lf.map Prod.fst) M2 B1) rfl ?_ ?_
 ·intro ax_ hax_
  refine ⟨_, ⟨#[], [], es, _, _, Hp.le_refl _, rfl, hax_.sub ⟨rfl, rfl, trivial⟩, S1.pick [0, 1] [_, _] (by decide) ⟨rfl, rfl, trivial⟩, ?hq1f0, ?hq1f1, ?hq1f2⟩⟩
  case hq1f0 => exact hE1.lft
  case hq1f1 => exact List.Perm.refl _
  case hq1f2 => exact hJ0
 ·rintro m1 a1 w2 ⟨sn, dn, lf, B1, M2, hle1, rfl, he1, S2, hlf, hpm, hJa⟩
  clear S1
  refine ws_in he1 (c := Keys1_n4) rfl ?_
  clear he1 a1
  replace hbx := hbx.mono hle1
  replace hm := hm.mono hle1
  replace hE1 := hE1.mono hle1
  refine ws_seqN Keys1_n5 Keys1_n6 rfl rfl rfl ?_
  refine ws_region rfl ?_
  refine wl_op (k := 0) (k' := 1) rfl rfl rfl (wo_next (i := 0) rfl rfl rfl rfl S2 rfl hE1 S2.m hlf (fun hlf1 => ?_) (fun k1 v1 l1_1 l2_1 sn1 w3 hlf1 hlft1 hlst1 S3 => ?_))
  ·refine wl_op (k := 1) (k' := 2) rfl rfl rfl (wo_run rfl rfl (run_extract rfl rfl rfl) ?_)
   refine wl_end rfl ?_
   refine nm_sub [(0, _), (5, _), (7, _)] ⟨rfl, rfl, rfl, trivial⟩ ?_
   refine nm_thn ?_
   refine ws_seqN Keys1_n7 Keys1_n8 rfl rfl rfl ?_
   refine ws_condFN Keys1_n10 rfl rfl rfl ?_
   refine ws_exit rfl rfl ?_
   refine nm_end hC [] rfl trivial ?_
   obtain rfl : lf = [] := hlf1
   exact ⟨⟨_, rfl⟩, _, _, _, rfl, hle1, S2.pick [1] [_] (by decide) ⟨rfl, trivial⟩, hJa⟩
  ·clear S2
   change SH _ _ _ [Rs.itr gm clk1 r1 sn1, _] at S3
   refine wl_op (k := 1) (k' := 2) rfl rfl rfl (wo_run rfl rfl (run_extract rfl rfl rfl) ?_)
   refine wl_end rfl ?_
   refine nm_sub [(0, _), (5, _), (7, _)] ⟨rfl, rfl, rfl, trivial⟩ ?_
   refine nm_thn ?_
   refine ws_seqN Keys1_n7 Keys1_n8 rfl rfl rfl ?_
   refine ws_condTN Keys1_n9 rfl rfl rfl ?_
   refine ws_skip rfl ?_
   refine nm_sub [(0, _), (5, _)] ⟨rfl, rfl, trivial⟩ ?_
   refine nm_thn ?_
   refine ws_blockN Keys1_n11 1 rfl rfl rfl ?_
   refine ws_seqN Keys1_n12 Keys1_n13 rfl rfl rfl ?_
   refine ws_region rfl ?_
   refine wl_op (k := 0) (k' := 1) rfl rfl rfl (wo_run rfl rfl (run_entry (i := 0) rfl rfl S3 rfl hE1 S3.m hlst1) ?_)
   refine wl_op (k := 1) (k' := 2) rfl rfl rfl (wo_run rfl rfl (run_extract rfl rfl rfl) ?_)
   refine wl_op (k := 2) (k' := 3) rfl rfl rfl (wo_run rfl rfl (run_assign rfl rfl) ?_)
   refine wl_end rfl ?_
   refine nm_sub [(0, _), (5, _), (3, _)] ⟨rfl, rfl, rfl, trivial⟩ ?_
   refine nm_thn ?_
   refine ws_seqN Keys1_n14 Keys1_n15 rfl rfl rfl ?_
   refine ws_region rfl ?_
   refine wl_op (k := 0) (k' := 1) rfl rfl rfl (wo_run rfl rfl (run_move rfl rfl) ?_)
   refine wl_op (k := 1) (k' := 2) rfl rfl rfl (wo_run rfl rfl (run_move rfl rfl) ?_)
   have hst : stpK (dn.map Prod.fst, lf.map Prod.fst) (.int .i64 k1) ((dn ++ [(k1, v1)]).map Prod.fst, (l1_1 ++ l2_1).map Prod.fst) := ⟨dn.map Prod.fst, l1_1.map Prod.fst, k1, l2_1.map Prod.fst, by rw [hlf1]; simp, rfl, by simp⟩
   have S4 := S3.perm (List.Perm.swap _ _ _)
   refine wl_yield (k := 2) (k' := 3) rfl rfl rfl rfl rfl rfl rfl rfl rfl rfl (by rw [hCF]; exact hY _ _ _ _ _ [_] _ hst (hle1) S4 hJa) ?_
   rintro _ w4 ⟨rfl, M3, B6, hle2, S5, hJ1⟩; clear S3
   replace hbx := hbx.mono hle2
   replace hm := hm.mono hle2
   replace hE1 := hE1.mono hle2
   refine wl_op (k := 3) (k' := 4) rfl rfl rfl (wo_run rfl rfl (run_not rfl rfl) ?_)
   refine wl_end rfl ?_
   refine nm_sub [(0, _), (5, _), (13, _)] ⟨rfl, rfl, rfl, trivial⟩ ?_
   refine nm_thn ?_
   refine ws_condFN Keys1_n17 rfl rfl rfl ?_
   refine ws_skip rfl ?_
   refine nm_blk ?_
   refine nm_lp ?_
   intro ax_ hax_
   refine ⟨_, ?hq2m, ⟨sn1, dn ++ [(k1, v1)], l1_1 ++ l2_1, _, _, (hle1.trans hle2), rfl, hax_.sub ⟨rfl, rfl, trivial⟩, S5.pick [1, 0] [_, _] (by decide) ⟨rfl, rfl, trivial⟩, ?hq2f0, ?hq2f1, ?hq2f2⟩⟩
   case hq2f0 => assumption
   case hq2f1 => (refine List.Perm.trans ?_ hpm; simp only [*, List.append_assoc, List.cons_append, List.nil_append]; exact (List.perm_append_left_iff _).2 (List.perm_middle.symm))
   case hq2f2 => assumption
   case hq2m => (simp only [*, List.length_append, List.length_cons]; omega)
end InF
noncomputable def ASeq_rf : Code := cL (cR (cL (cR (Tryz.f182.body.getD .skip))))
/-- What holds between two rounds. -/
def ASeqI (ks : List Int) (g2 : Nat) (s : List Int × List Int) (M : Hp) (H : List Rs) : Prop := ∃ v, H = [Rs.row cdInt v s.1, Rs.box g2 53 [v]] ∧ (s.1 ++ s.2).Perm ks
def ASeqI1 (ks : List Int) (g2 : Nat) (s : List Int × List Int) (a : Act) (M : Hp) (H : List Rs) : Prop := ∃ v dn x, Env 13 [(2, .pointer (some ⟨g2, 0, none⟩)), (5, .int .i64 x)] a ∧ H = [Rs.row cdInt v dn, Rs.box g2 53 [v]] ∧ s.1 = dn ++ [x] ∧ (s.1 ++ s.2).Perm ks
namespace InF
set_option maxRecDepth 10000 in
theorem ASeq_assign {w : World} {M : Hp} {X : Fr} {ks : List Int} {gq2 : Nat} {C : Ctx} {R0 : Rs} {H : List Rs} {L : List (Nat × Value)} {k k1 : List Int × List Int} {u : Value} (hL : Sub L [(2, .pointer (some ⟨gq2, 0, none⟩)), (7, u)]) (hst : stpK k u k1) (S : SH w M X (R0 :: H)) (hI : ASeqI ks gq2 k M H) :
  WS Tryz.prog 13 C (rgA ASeq_rf) [.lp (fun a w2 => ∃ M2 H2, M.le M2 ∧ SH w2 M2 X (R0 :: H2) ∧ ASeqI1 ks gq2 k1 a M2 H2)] L w := by
 obtain ⟨dn, l1, x, l2, rfl, rfl, rfl⟩ := hst
 obtain ⟨vro, rfl, hpm⟩ := hI
 change SH w M X [R0, Rs.row cdInt vro dn, _] at S
 refine ws_sub _ hL ?_
 refine ws_region rfl ?_
 refine wl_op (k := 0) (k' := 1) rfl rfl rfl (wo_run rfl rfl (run_assign rfl rfl) ?_)
 refine wl_end rfl ?_
 refine nm_lp ?_
 intro ax_ hax_
 refine ⟨M, _, Hp.le_refl _, S.pick [0, 1, 2] [_, _, _] (by decide) ⟨rfl, rfl, rfl, trivial⟩, vro, dn, x, hax_.sub ⟨rfl, rfl, trivial⟩, rfl, rfl, ?_⟩
 refine List.Perm.trans ?_ hpm
 show ((dn ++ [x]) ++ (l1 ++ l2)).Perm (dn ++ (l1 ++ x :: l2))
 rw [List.append_assoc]
 exact (List.perm_append_left_iff _).2 (show (x :: (l1 ++ l2)).Perm (l1 ++ x :: l2) from List.perm_middle.symm)
noncomputable def ASeqB_n1 : Code := rgB ASeq_rf
noncomputable def ASeqB_n2 : Code := cL ASeqB_n1
set_option maxRecDepth 10000 in
theorem ASeq_body {w : World} {M : Hp} {X : Fr} {ks : List Int} {gq2 : Nat} (hks : ks.length ≤ 2199023255553) {C : Ctx} {R0 : Rs} {H : List Rs} {a : Act} {k : List Int × List Int} (S : SH w M X (R0 :: H)) (hI1 : ASeqI1 ks gq2 k a M H) :
  (rgB ASeq_rf).wpIn C.F 0 Tryz.prog (post Tryz.prog C [.lp (fun _ w2 => ∃ M2 H2, M.le M2 ∧ SH w2 M2 X (R0 :: H2) ∧ ASeqI ks gq2 k M2 H2)]) a w := by
 obtain ⟨vro, dn, x, ha, rfl, hd, hpm⟩ := hI1
 obtain ⟨k1, lf⟩ := k
 dsimp only at hd hpm
 subst hd
 have hlen := hpm.length_eq
 simp only [List.length_append, List.length_cons, List.length_nil] at hlen
 change SH w M X [R0, Rs.row cdInt vro dn, _] at S
 refine ws_in ha (c := rgB ASeq_rf) rfl ?_
 refine ws_blockN ASeqB_n2 1 rfl rfl rfl ?_
 refine ws_region rfl ?_
 refine wl_op (k := 0) (k' := 1) rfl rfl rfl (wo_run rfl rfl (run_load1 rfl rfl Tryz.underlying53 rfl (S.boxc (i := 2) rfl rfl)) ?_)
 refine wl_op (k := 1) (k' := 2) rfl rfl rfl (wo_run rfl rfl (run_move rfl rfl) ?_)
 refine wl_op (k := 2) (k' := 3) rfl rfl rfl (wo_buildSlice1 (C := cdInt) (l := [_]) rfl rfl rfl rfl sl53 rfl rfl rfl rfl S ?_)
 intro gb1 w1 S1; clear S
 refine wl_op (k := 3) (k' := 4) rfl rfl rfl (wo_append1 (C := cdInt) (i := 2) (q := 0) x rfl rfl rfl rfl rfl rfl rfl rfl sl53 S1 rfl rfl rfl (by show (_ + 1) * 8 ≤ _; first | omega | (simp only [lens]; omega)) ?_)
 intro vro1 w2 S2; clear S1
 have S3 := S2.pick [1, 2, 3] [_, _, _] (by decide) ⟨rfl, rfl, rfl, trivial⟩; clear S2
 refine wl_op (k := 4) (k' := 5) rfl rfl rfl (wo_storeB (i := 2) (us := [_]) (l' := [_]) (H' := [_, _, _]) rfl rfl S3 rfl rfl rfl (S3.cells1 (i := 1) rfl) sz53 rfl (ones_cons (S3.one (i := 1) rfl) rfl) rfl rfl ?_)
 intro w3 S4; clear S3
 refine wl_end rfl ?_
 refine nm_blk ?_
 refine nm_lp ?_
 intro ax_ hax_
 exact ⟨_, _, Hp.le_refl _, S4.pick [0, 1, 2] [_, _, _] (by decide) ⟨rfl, rfl, rfl, trivial⟩, _, rfl, hpm⟩
noncomputable def ASeq_n0 : Code := Tryz.f182.body.getD .skip
noncomputable def ASeq_n1 : Code := cL ASeq_n0
noncomputable def ASeq_n2 : Code := cR ASeq_n0
noncomputable def ASeq_n3 : Code := cL ASeq_n2
noncomputable def ASeq_n4 : Code := cR ASeq_n2
noncomputable def ASeq_n5 : Code := cL ASeq_n3
noncomputable def ASeq_n6 : Code := cR ASeq_n3
noncomputable def ASeq_n7 : Code := cL ASeq_n6
set_option maxRecDepth 10000 in
theorem AppendSeq_o {w : World} {M : Hp} {X : Fr} {es : List (Int × Int)} {gm b : Nat} (hm : MpOk (Value.int .i64) (Value.int .i64) gm es M) (hbx : BxM M b 99 [.map (some gm)]) (hks : (es.map Prod.fst).length ≤ 2199023255553) (S : SH w M X []) : Co Tryz.prog 182 [.slice none 0 0, .func (.func 144) #[] [.pointer (some ⟨b, 0, none⟩)].toArray] w M X fun u N => ∃ ks, ks.Perm (es.map Prod.fst) ∧ N = [Rs.row cdInt u ks] := by
 unfold Co
 refine calls_marks (b := ASeq_n0) Tryz.func182 rfl Tryz.ntmps182 rfl (fun C hCr hC => ?_)
 refine ws_sub [(0, _), (1, _)] ⟨rfl, rfl, trivial⟩ ?_
 refine ws_seqN ASeq_n1 ASeq_n2 rfl rfl rfl ?_
 refine ws_region rfl ?_
 refine wl_op (k := 0) (k' := 1) rfl rfl rfl (wo_box (l := [_]) rfl rfl rfl rfl rfl S ?_)
 intro gb1 w1 S1; clear S
 refine wl_op (k := 1) (k' := 2) rfl rfl rfl (wo_run rfl rfl (run_assign rfl rfl) ?_)
 refine wl_end rfl ?_
 refine nm_sub [(1, _), (2, _)] ⟨rfl, rfl, trivial⟩ ?_
 refine nm_thn ?_
 refine ws_seqN ASeq_n3 ASeq_n4 rfl rfl rfl ?_
 refine ws_seqN ASeq_n5 ASeq_n6 rfl rfl rfl ?_
 refine ws_region rfl ?_
 refine wl_op (k := 0) (k' := 1) rfl rfl rfl (wo_run rfl rfl (run_move rfl rfl) ?_)
 refine wl_end rfl ?_
 refine nm_sub [(2, _), (6, _)] ⟨rfl, rfl, trivial⟩ ?_
 refine nm_thn ?_
 refine ws_blockN ASeq_n7 0 rfl rfl rfl ?_
 have S9 := (S1.nilrow cdInt)
 refine ws_rangeFuncX (p := 7) (f := 144) (lb := [_]) (asg := rgA ASeq_rf) (bd := rgB ASeq_rf) hCr rfl rfl rfl cf144 S9 (ASeqI (es.map Prod.fst) gb1) (ASeqI1 (es.map Prod.fst) gb1) ?_ (Keys1_iter hm hbx) ?_ ?_ ?_
 ·exact ⟨.slice none 0 0, rfl, List.Perm.refl _⟩
 ·intro k k1 v M' H' w' C' R0 hk hle S' hI
  exact ASeq_assign ⟨rfl, rfl, trivial⟩ hk S' hI
 ·intro k M' H' w' C' R0 a hle S' hI1
  exact ASeq_body hks S' hI1
 ·intro k a M' H' w' D l rc hfin ha hle S' hI
  obtain ⟨dn, lf⟩ := k
  obtain rfl : lf = [] := hfin
  obtain ⟨vro, rfl, hpm⟩ := hI
  change SH w' M' X [Rs.lr l D rc, Rs.row cdInt vro dn, _] at S'
  refine tail_la (c := ASeq_n4) (i := 4) (d1 := 12) (d2 := 4) (v := vro) hC rfl rfl rfl rfl rfl rfl rfl ha rfl Tryz.underlying53 rfl rfl rfl rfl S' (S'.boxc (i := 2) rfl rfl) (fun w2 S2 => ?_)
  refine ⟨_, rfl, [Rs.row cdInt vro dn], (S2.down hle).pick [0] [_] (by decide) ⟨rfl, trivial⟩, dn, ?_, rfl⟩
  simpa using hpm
end InF
end Go.Proofs.YthppkofceancjaaGreat
namespace Go.Proofs.YthppkofceancjaaGreat
open Go.ChangeShapes Go.WideShapes Go.ChangeAt Go.RowKit
theorem inc_ext : ∀ {a b : List Int}, a.Pairwise (fun s t => s < t) → b.Pairwise (fun s t => s < t) → (∀ t, t ∈ a ↔ t ∈ b) → a = b
 | [], [], _, _, _ => rfl
 | [], t :: b, _, _, h => by have := (h t).2 (by simp); simp at this
 | t :: a, [], _, _, h => by have := (h t).1 (by simp); simp at this
 | s :: a, t :: b, ha, hb, h => by
  obtain ⟨a1, a2⟩ := List.pairwise_cons.1 ha
  obtain ⟨b1, b2⟩ := List.pairwise_cons.1 hb
  have hst : s = t := by
   rcases List.mem_cons.1 ((h s).1 (by simp)) with e | h1
   ·exact e
   ·rcases List.mem_cons.1 ((h t).2 (by simp)) with e | h2
    ·exact e.symm
    ·have := a1 t h2; have := b1 s h1; omega
  subst hst
  refine congrArg _ (inc_ext a2 b2 fun u => ⟨fun hu => ?_, fun hu => ?_⟩)
  ·rcases List.mem_cons.1 ((h u).1 (by simp [hu])) with e | h1
   ·subst e; have := a1 u hu; omega
   ·exact h1
  ·rcases List.mem_cons.1 ((h u).2 (by simp [hu])) with e | h1
   ·subst e; have := b1 u hu; omega
   ·exact h1
theorem srt_eq {a b : List Int} (h : a.Perm b) (hn : b.Nodup) : srt a = srt b := inc_ext (srt_inc (h.nodup_iff.2 hn)) (srt_inc hn) fun t => by rw [srt_mem, srt_mem, h.mem_iff]
theorem mk_snoc (dn : List (Int × Int)) (k v : Int) : mk (dn ++ [(k, v)]) = mk dn + mono k v := by
 rw [mk_append]
 show _ + (mono k v + Pol.o) = _
 rw [Pol.add_zero]
noncomputable def Collect_n0 : Code := Tryz.f142.body.getD .skip
noncomputable def Collect_n1 : Code := cL Collect_n0
noncomputable def Collect_n2 : Code := cR Collect_n0
noncomputable def Collect_n3 : Code := cL Collect_n2
noncomputable def Collect_n4 : Code := cR Collect_n2
set_option maxRecDepth 10000 in
theorem Collect_o {w : World} {M : Hp} {X : Fr} {es : List (Int × Int)} {gm b : Nat} (hm : MpOk (Value.int .i64) (Value.int .i64) gm es M) (hbx : BxM M b 99 [.map (some gm)]) (hks : (es.map Prod.fst).length ≤ 2199023255553) (S : SH w M X []) : Co Tryz.prog 142 [.func (.func 144) #[] [.pointer (some ⟨b, 0, none⟩)].toArray] w M X (fun u N => ∃ ks, ks.Perm (es.map Prod.fst) ∧ N = [Rs.row cdInt u ks]) := by
 unfold Co
 refine calls_in (b := Collect_n0) Tryz.func142 rfl Tryz.ntmps142 rfl (fun C hC => (ws_sub [(0, _)] ⟨rfl, trivial⟩ (ws_seqN Collect_n1 Collect_n2 rfl rfl rfl (ws_region rfl (wla 0 1 rfl rfl rfl rfl rfl rfl rfl (wl_end rfl (nmk [0] rfl (nm_thn (ws_seqN Collect_n3 Collect_n4 rfl rfl rfl ?_)))))))))
 refine ws_region rfl (wlm 0 1 rfl rfl rfl rfl rfl rfl rfl (wlo 1 2 rfl rfl rfl (wo_co rfl rfl rfl rfl rfl rfl rfl cf182 S (InF.AppendSeq_o hm hbx hks S.lend) ?_)))
 intro vw1 w1 Nw1 S1 hRw1; clear S
 obtain ⟨ksw1, hksw1, rfl⟩ := hRw1
 change SH _ _ _ [_] at S1
 refine wla 2 3 rfl rfl rfl rfl rfl rfl rfl (wl_end rfl (nmk [2] rfl (nm_thn (ws_ret hC [_] rfl rfl ⟨rfl, trivial⟩ ?_))))
 exact ⟨_, rfl, _, S1.pick [0] [_] (by decide) ⟨rfl, trivial⟩, _, hksw1, rfl⟩
noncomputable def Sorted_n0 : Code := Tryz.f93.body.getD .skip
noncomputable def Sorted_n1 : Code := cL Sorted_n0
noncomputable def Sorted_n2 : Code := cR Sorted_n0
noncomputable def Sorted_n3 : Code := cL Sorted_n2
noncomputable def Sorted_n4 : Code := cR Sorted_n2
noncomputable def Sorted_n5 : Code := cL Sorted_n4
noncomputable def Sorted_n6 : Code := cR Sorted_n4
noncomputable def Sorted_n7 : Code := cL Sorted_n6
noncomputable def Sorted_n8 : Code := cR Sorted_n6
set_option maxRecDepth 10000 in
theorem Sorted_o {w : World} {M : Hp} {X : Fr} {es : List (Int × Int)} {gm b : Nat} (hm : MpOk (Value.int .i64) (Value.int .i64) gm es M) (hbx : BxM M b 99 [.map (some gm)]) (hks : (es.map Prod.fst).length ≤ 2199023255553) (hn : (es.map Prod.fst).Nodup) (S : SH w M X []) : Co Tryz.prog 93 [.func (.func 144) #[] [.pointer (some ⟨b, 0, none⟩)].toArray] w M X (fun u N => N = [Rs.row cdInt u (srt (es.map Prod.fst))]) := by
 unfold Co
 refine calls_in (b := Sorted_n0) Tryz.func93 rfl Tryz.ntmps93 rfl (fun C hC => (ws_sub [(0, _)] ⟨rfl, trivial⟩ (ws_seqN Sorted_n1 Sorted_n2 rfl rfl rfl (ws_region rfl (wla 0 1 rfl rfl rfl rfl rfl rfl rfl (wl_end rfl (nmk [0] rfl (nm_thn (ws_seqN Sorted_n3 Sorted_n4 rfl rfl rfl ?_)))))))))
 refine ws_region rfl (wlm 0 1 rfl rfl rfl rfl rfl rfl rfl (wlo 1 2 rfl rfl rfl (wo_co rfl rfl rfl rfl rfl rfl rfl cf142 S (Collect_o hm hbx hks S.lend) ?_)))
 intro vw1 w1 Nw1 S1 hRw1; clear S
 obtain ⟨ksw1, hksw1, rfl⟩ := hRw1
 change SH _ _ _ [_] at S1
 refine wla 2 3 rfl rfl rfl rfl rfl rfl rfl (wl_end rfl (nmk [3] rfl (nm_thn (ws_seqN Sorted_n5 Sorted_n6 rfl rfl rfl (ws_region rfl (wlm 0 1 rfl rfl rfl rfl rfl rfl rfl (wlo 1 2 rfl rfl rfl (wo_c1 rfl rfl rfl rfl rfl rfl rfl cf143 S1 (i := 0) rfl (sort_w (by have := hksw1.length_eq; omega) (S1.lend1 (i := 0) rfl)) ?_))))))))
 rintro vw2 w2 _ _ - S2 ⟨rfl, rfl, rfl⟩; clear S1
 change SH _ _ _ [_] at S2
 refine wl_end rfl (nmk [3] rfl (nm_thn (ws_seqN Sorted_n7 Sorted_n8 rfl rfl rfl (ws_region rfl (wlm 0 1 rfl rfl rfl rfl rfl rfl rfl (wla 1 2 rfl rfl rfl rfl rfl rfl rfl (wl_end rfl (nmk [2] rfl ?_))))))))
 refine nm_thn (ws_ret hC [_] rfl rfl ⟨rfl, trivial⟩ ?_)
 exact ⟨_, rfl, _, S2.pick [0] [_] (by decide) ⟨rfl, trivial⟩, by rw [srt_eq hksw1 hn]; rfl⟩
noncomputable def Form_n0 : Code := Tryz.f48.body.getD .skip
noncomputable def Form_n1 : Code := cL Form_n0
noncomputable def Form_n2 : Code := cR Form_n0
noncomputable def Form_n3 : Code := cL Form_n2
noncomputable def Form_n4 : Code := cR Form_n2
noncomputable def Form_n5 : Code := cL Form_n4
noncomputable def Form_n6 : Code := cR Form_n4
noncomputable def Form_n7 : Code := cL Form_n5
noncomputable def Form_n8 : Code := cR Form_n5
noncomputable def Form_n9 : Code := cL Form_n8
noncomputable def Form_n10 : Code := cL Form_n9
noncomputable def Form_n11 : Code := cL Form_n10
noncomputable def Form_n12 : Code := cR Form_n10
noncomputable def Form_n13 : Code := cL Form_n12
noncomputable def Form_n14 : Code := cR Form_n12
noncomputable def Form_n15 : Code := cL Form_n13
noncomputable def Form_n16 : Code := cR Form_n13
noncomputable def Form_n17 : Code := cL Form_n14
noncomputable def Form_n18 : Code := cR Form_n14
noncomputable def Form_n19 : Code := cL Form_n17
noncomputable def Form_n20 : Code := cL Form_n19
noncomputable def Form_n21 : Code := cR Form_n19
noncomputable def Form_n22 : Code := cL Form_n21
noncomputable def Form_n23 : Code := cR Form_n21
noncomputable def Form_n24 : Code := cL Form_n23
noncomputable def Form_n25 : Code := cR Form_n23
noncomputable def Form_n26 : Code := cL Form_n6
noncomputable def Form_n27 : Code := cR Form_n6
set_option maxRecDepth 10000 in
theorem Form_t {w : World} {M : Hp} {X : Fr} (es : List (Int × Int)) {ges : Nat} (hmes : MpOk (Value.int .i64) (Value.int .i64) ges es M) (B : Nat) (hes : Ents es B) (hB : B ≤ 1099511627776) (S : SH w M X []) : Ct Tryz.prog 48 [.map (some ges)] w M X (LsE (formL es)) := by
 unfold Ct
 have hks : (es.map Prod.fst).length ≤ 2199023255553 := by have := ents_len hes; rw [List.length_map]; omega
 refine calls_in (b := Form_n0) Tryz.func48 rfl Tryz.ntmps48 rfl (fun C hC => (ws_sub [(0, _)] ⟨rfl, trivial⟩ (ws_seqN Form_n1 Form_n2 rfl rfl rfl (ws_region rfl (wla 0 1 rfl rfl rfl rfl rfl rfl rfl (wl_end rfl (nmk [0] rfl (nm_thn (ws_seqN Form_n3 Form_n4 rfl rfl rfl ?_)))))))))
 refine ws_region rfl (wla 0 1 rfl rfl rfl rfl rfl rfl rfl (wl_end rfl (nm_thn (ws_seqN Form_n5 Form_n6 rfl rfl rfl (ws_seqN Form_n7 Form_n8 rfl rfl rfl (ws_region rfl (wlm 0 1 rfl rfl rfl rfl rfl rfl rfl (wlo 1 2 rfl rfl rfl (wo_ct rfl rfl rfl rfl rfl rfl rfl cf94 S (Keys_t es hmes S.lend) ?_)))))))))
 intro vw1 w1 M1 hle1 S1 hRw1; clear S
 replace hmes := hmes.mono hle1
 obtain ⟨bk1, rfl, hbx1⟩ := hRw1
 refine wlo 2 3 rfl rfl rfl (wo_co rfl rfl rfl rfl rfl rfl rfl cf93 S1 (Sorted_o hmes hbx1 hks hes.1 S1.lend) ?_)
 intro vw2 w2 Nw2 S2 hRw2; clear S1
 obtain rfl := hRw2
 change SH _ _ _ [_] at S2
 refine wlo 3 4 rfl rfl rfl (wo_run rfl rfl (run_lenR (C := cdInt) (i := 0) rfl rfl rfl rfl rfl rfl sl53 S2 rfl) (wlm 4 5 rfl rfl rfl rfl rfl rfl rfl (wl_end rfl (nmk [0, 3, 8, 9, 10] rfl (nm_thn (ws_blockN Form_n9 0 rfl rfl rfl ?_))))))
 have S3 := S2.nilrow cdTm; clear S2
 refine ws_loopE (fun mx_ ax_ wx_ => ∃ (i : Nat) (acc : List Tm) (vro : Value), mx_ = (srt (es.map Prod.fst)).length - i ∧ Env 28 [(0, .map (some ges)), (3, vro), (8, vw2), (9, .int .i64 ((srt (es.map Prod.fst)).length : Int)), (10, .int .i64 (i : Int))] ax_ ∧ SH wx_ M1 X [Rs.row cdTm vro acc, Rs.row cdInt vw2 (srt (es.map Prod.fst))] ∧ i ≤ (srt (es.map Prod.fst)).length ∧ acc = fm es ((srt (es.map Prod.fst)).take i)) rfl ?_ ?_
 ·intro ax_ hax_
  refine ⟨_, ⟨0, _, _, rfl, hax_.sub ⟨rfl, rfl, rfl, rfl, rfl, trivial⟩, S3.pick [0, 1] [_, _] (by decide) ⟨rfl, rfl, trivial⟩, ?hq1f0, ?hq1f1⟩⟩
  case hq1f0 => omega
  case hq1f1 => rfl
 ·rintro m1 a1 w3 ⟨i, acc, vro, rfl, he1, S4, hi, hac⟩
  clear S3
  refine ws_in he1 (c := Form_n10) rfl ?_
  clear he1 a1
  have hal : acc.length ≤ i := by rw [hac]; exact Nat.le_trans (fm_len _ _) (by rw [List.length_take]; omega)
  have hsl := srt_len (es.map Prod.fst)
  refine ws_seqN Form_n11 Form_n12 rfl rfl rfl (ws_region rfl (wlo 0 1 rfl rfl rfl (wo_run rfl rfl (run_lss rfl rfl rfl) (wl_end rfl (nm_thn (ws_seqN Form_n13 Form_n14 rfl rfl rfl ?_))))))
  refine ws_condN Form_n15 Form_n16 rfl rfl rfl rfl (fun hb11 => ?_) (fun hb11 => ?_)
  ·replace hb11 := of_decide_eq_true hb11
   refine ws_skip rfl (nmk [0, 3, 8, 9, 10] rfl (nm_thn (ws_seqN Form_n17 Form_n18 rfl rfl rfl (ws_blockN Form_n19 1 rfl rfl rfl (ws_seqN Form_n20 Form_n21 rfl rfl rfl (ws_region rfl (wlo 0 1 rfl rfl rfl (wo_run rfl rfl (run_indexR (C := cdInt) (i := 1) i rfl rfl rfl sl53 S4 rfl (by first | rfl | omega) (by first | omega | (simp only [lens]; omega))) ?_))))))))
   refine wlo 1 2 rfl rfl rfl (wo_run rfl rfl (run_load1 rfl rfl Tryz.underlying3 rfl (S4.rowc (i := 1) (e := i) (j := 0) rfl (by first | omega | (simp only [lens]; omega)) rfl rfl)) ?_)
   refine wla 2 3 rfl rfl rfl rfl rfl rfl rfl (wl_end rfl (nmk [0, 3, 8, 9, 10, 5] rfl (nm_thn (ws_seqN Form_n22 Form_n23 rfl rfl rfl (ws_region rfl (wlm 0 1 rfl rfl rfl rfl rfl rfl rfl (wlm 1 2 rfl rfl rfl rfl rfl rfl rfl (wlo 2 3 rfl rfl rfl (wo_run rfl rfl (run_lookupM (kc := (Value.int .i64)) (vc := (Value.int .i64)) (es := es) (k := (ga (srt (es.map Prod.fst)) i)) (zv := 0) rfl rfl rfl Tryz.underlying99 mk3 zr3 hmes S4.m) ?_)))))))))
   refine wlo 3 4 rfl rfl rfl (wo_run rfl rfl (run_neq rfl rfl rfl) (wl_end rfl (nmk [0, 3, 8, 9, 10, 5, 17] rfl (nm_thn ?_))))
   refine ws_condN Form_n24 Form_n25 rfl rfl rfl rfl (fun hb17 => ?_) (fun hb17 => ?_)
   ·replace hb17 := of_decide_eq_true hb17
    refine ws_region rfl (wlm 0 1 rfl rfl rfl rfl rfl rfl rfl (wlm 1 2 rfl rfl rfl rfl rfl rfl rfl (wlm 2 3 rfl rfl rfl rfl rfl rfl rfl (wlm 3 4 rfl rfl rfl rfl rfl rfl rfl (wlo 4 5 rfl rfl rfl (wo_run rfl rfl (run_lookupM (kc := (Value.int .i64)) (vc := (Value.int .i64)) (es := es) (k := (ga (srt (es.map Prod.fst)) i)) (zv := 0) rfl rfl rfl Tryz.underlying99 mk3 zr3 hmes S4.m) (wlo 5 6 rfl rfl rfl (wo_run rfl rfl (run_build (l := [_, _]) rfl rfl st108 rfl rfl) (wlo 6 7 rfl rfl rfl (wo_buildSlice1 (C := cdTm) (l := [_, _]) rfl rfl rfl rfl sl45 rfl rfl rfl rfl S4 ?_))))))))))
    intro gb1 w4 S5; clear S4
    refine wlo 7 8 rfl rfl rfl (wo_append1 (C := cdTm) (i := 1) (q := 0) (⟨ga (srt (es.map Prod.fst)) i, (mg (ga (srt (es.map Prod.fst)) i) es).getD 0⟩ : Tm) rfl rfl rfl rfl rfl rfl rfl rfl sl45 S5 rfl rfl rfl (by show (_ + 1) * 16 ≤ _; omega) ?_)
    intro vro1 w5 S6; clear S5
    have S7 := S6.pick [1, 2] [_, _] (by decide) ⟨rfl, rfl, trivial⟩; clear S6
    refine wla 8 9 rfl rfl rfl rfl rfl rfl rfl (wl_end rfl (nm_blk (nmk [0, 3, 8, 9, 10] rfl (nm_thn (ws_region rfl (wlo 0 1 rfl rfl rfl (wo_run rfl rfl (run_add rfl rfl rfl (by first | omega | (simp only [lens]; omega))) ?_)))))))
    refine wlm 1 2 rfl rfl rfl rfl rfl rfl rfl (wl_end rfl (nm_lp ?_))
    intro ax_ hax_
    refine ⟨_, ?hq2m, ⟨i + 1, _, _, rfl, hax_.sub ⟨rfl, rfl, rfl, rfl, rfl, trivial⟩, S7.pick [0, 1] [_, _] (by decide) ⟨rfl, rfl, trivial⟩, ?hq2f0, ?hq2f1⟩⟩
    case hq2f0 => omega
    case hq2f1 => (rw [take_ga _ i (by omega), fm_snoc, ← hac]; first | (rw [if_neg (by assumption)]) | (rw [if_pos (by omega), List.append_nil]))
    case hq2m => omega
   ·replace hb17 := of_decide_eq_false hb17
    refine ws_skip rfl (nm_blk (nmk [0, 3, 8, 9, 10] rfl (nm_thn (ws_region rfl (wlo 0 1 rfl rfl rfl (wo_run rfl rfl (run_add rfl rfl rfl (by first | omega | (simp only [lens]; omega))) ?_))))))
    refine wlm 1 2 rfl rfl rfl rfl rfl rfl rfl (wl_end rfl (nm_lp ?_))
    intro ax_ hax_
    refine ⟨_, ?hq3m, ⟨i + 1, _, _, rfl, hax_.sub ⟨rfl, rfl, rfl, rfl, rfl, trivial⟩, S4.pick [0, 1] [_, _] (by decide) ⟨rfl, rfl, trivial⟩, ?hq3f0, ?hq3f1⟩⟩
    case hq3f0 => omega
    case hq3f1 => (rw [take_ga _ i (by omega), fm_snoc, ← hac]; first | (rw [if_neg (by assumption)]) | (rw [if_pos (by omega), List.append_nil]))
    case hq3m => omega
  ·replace hb11 := of_decide_eq_false hb11
   refine ws_exit rfl rfl (nmk [3] rfl (nm_thn (ws_seqN Form_n26 Form_n27 rfl rfl rfl ?_)))
   have hsl := srt_len (es.map Prod.fst)
   refine ws_region rfl (wlm 0 1 rfl rfl rfl rfl rfl rfl rfl (wla 1 2 rfl rfl rfl rfl rfl rfl rfl (wl_end rfl (nmk [2] rfl (nm_thn ?_)))))
   have hal : acc.length ≤ 2199023255553 := by rw [hac]; exact Nat.le_trans (fm_len _ _) (by rw [List.length_take]; omega)
   obtain ⟨M2, hle3, S8, ⟨A1, c1, e1, hr1⟩⟩ := S4.pubrow (i := 0) (H' := [_, _]) rfl rfl (by show _ * 16 ≤ _; first | omega | (simp only [lens]; omega))
   clear S4; subst e1
   replace hmes := hmes.mono hle3
   replace hbx1 := hbx1.mono hle3
   refine ws_ret hC [_] rfl rfl ⟨rfl, trivial⟩ ?_
   refine ⟨_, rfl, _, hle1.trans hle3, (S8.pick [] [] (by decide) trivial), ?_⟩
   obtain rfl : i = (srt (es.map Prod.fst)).length := by omega
   rw [List.take_length] at hac
   have e9 : formL es = acc := hac.symm
   rw [e9]
   exact ⟨_, _, rfl, hr1⟩
theorem FormW_t {w : World} {M : Hp} {X : Fr} {g B : Nat} {p : Pol} (h : Wk M g B p) (hB : B ≤ 1099511627776) (S : SH w M X []) : Ct Tryz.prog 48 [.map (some g)] w M X (PT B p) := by
 obtain ⟨es, h1, h2, rfl⟩ := h
 unfold Ct
 refine (Form_t es h1 B h2 hB S).mono ?_
 rintro e w' ⟨v, rfl, M', hle, S', A, c, rfl, hr⟩
 exact ⟨_, rfl, M', hle, S', A, c, _, rfl, hr, formL_can h2 hB, formL_bd h2, mk_formL h2⟩end Go.Proofs.YthppkofceancjaaGreat
namespace Go.Proofs.YthppkofceancjaaGreat
open Go.ChangeShapes Go.WideShapes Go.ChangeAt Go.RowKit
section
variable {α : Type} {C : Cd α} {N N' : Hp} {vs vs' : List SlV} {xss yss : List (List α)}
/-- The inner lists' own lists. -/
def RdD (C : Cd α) (N : Hp) (svs : List (List SlV)) (mm : List (List (List α))) : Prop := svs.length = mm.length ∧ ∀ i, i < svs.length → Rd2 C N (ga svs i) (ga mm i)
variable {svs : List (List SlV)} {mm : List (List (List α))}
theorem RdD.mono (h : RdD C N svs mm) (k : N.le N') : RdD C N' svs mm := ⟨h.1, fun i hi => (h.2 i hi).mono k⟩
theorem RdD.nil_ : RdD C N [] [] := ⟨rfl, fun i hi => by simp at hi⟩
end
section
variable {P : Program} {o : Oper} {L : List (Nat × Value)} {w : World} {x hx : Operand} {t tn T : TypeId} {n d : Nat} {Kt : List (Nat × Value) → World → Prop} {M : Hp} {X : Fr} {H : List Rs}
end
end Go.Proofs.YthppkofceancjaaGreat
namespace Go.Proofs.YthppkofceancjaaGreat
open Go.ChangeShapes Go.WideShapes Go.ChangeAt Go.RowKit
section
variable {P : Program} {o : Oper} {L : List (Nat × Value)} {w : World} {n d : Nat} {Kt : List (Nat × Value) → World → Prop} {M : Hp} {X : Fr} {H : List Rs} {i : Nat} {r : Rs}
theorem SH.less (S : SH w M X H) (hi : nth H i = some r) : SH w M X (H.set i Rs.emp) := S.step hi rfl (Like.refl w) (fun _ _ _ => rfl) trivial (fun b hb => by cases hb)
end
end Go.Proofs.YthppkofceancjaaGreat
namespace Go.Proofs.YthppkofceancjaaGreat
open Go.ChangeShapes Go.WideShapes Go.ChangeAt Go.RowKit
section
variable {P : Program} {o : Oper} {L : List (Nat × Value)} {w w' : World} {x y : Operand} {T E : TypeId} {a : Int} {v : Value} {M : Hp} {X : Fr} {H N : List Rs} {i g : Nat} {l : List Value}
theorem yield_cqF {o : Oper} {fid : FuncId} {vs cap : List Value} {ca : Call} {fo : Operand} {xs : List Operand} {v : Value} (hop : o.op = .call ca) (hca : ca.callee = .value fo) (hfo : oev L fo = some (.func (.func fid) #[] cap.toArray))
    (hxs : ca.args = xs.toArray) (hvs : oevs L xs = some vs) (hen : ∀ args w, (callFunc fid args).run P w = .ok (.enter fid args) w) (S : SH w M X H) (hc : Cq P fid (vs ++ cap) w M (XH w X H) (fun u => u = v)) :
    Run P o L w v w ∨ ∃ fid vs, (∀ n a, Env n L a → (execOp a.eval o).run P w = .ok (.enter fid vs) w) ∧ Calls P fid vs w fun e w3 => e = .returned v ∧ SH w3 M X H := by
  refine .inr ⟨fid, (vs ++ cap).toArray, fun n a ha => ?_, hc.mono fun e w3 ⟨u, h1, h2, h3⟩ => ⟨by rw [h1, h3], S.back h2⟩⟩
  unfold execOp
  simp only [hop, resolve, hca, ha.eval hfo, hxs, List.map_toArray, ha.evals hvs, Deferred.ofValue, Sem.run_bind, Sem.run_pure, Result.andThen_ok, invoke, Array.empty_append, List.append_toArray]
  exact hen _ _
theorem nth_app (N H : List Rs) (i : Nat) : nth (N ++ H) (N.length + i) = nth H i := by
  rw [nth_eq, nth_eq, List.getElem?_append_right (by omega)]
  congr 1
  omega
theorem SH.boxMs (S : SH w M X (N ++ H)) (hi : nth H i = some (Rs.box g E l)) : BxM (M.un (XH w X (N ++ H)).h) g E l := S.boxM (i := N.length + i) (by rw [nth_app]; exact hi)
theorem run_indexA2 {e : Nat} {p q r s : Value} {dd : TypeDesc} (hop : o.op = .index T x y) (hx : oev L x = some (.agg [p, q, r, s].toArray)) (hy : oev L y = some (.int .i64 a)) (hu : P.underlying T = some (.array 2 E)) (hE : P.underlying E = some dd) (hf : flatD dd = false) (hk : (P.info? E).map (·.size) = some 2)
    (ha : a = (e : Int)) (he : e < 2) : Run P o L w (.agg [if e = 0 then p else r, if e = 0 then q else s].toArray) w := by
  intro n c hc
  unfold execOp
  have h1 : (0 : Int) ≤ (e : Int) ∧ (e : Int) < ((2 : Nat) : Int) := by omega
  simp only [hop, hc.eval hx, hc.eval hy, Instr.index, asIntOf, Sem.run_bind, Sem.run_pure, Result.andThen_ok, run_underlying hu, ha, h1, and_self, if_true, run_sizeOf hk, Int.toNat_natCast, part, run_isAgg hE, hf, Bool.not_false]
  have : e = 0 ∨ e = 1 := by omega
  rcases this with rfl | rfl <;> rfl
end
end Go.Proofs.YthppkofceancjaaGreat
