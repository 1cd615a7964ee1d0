/- Part 7 of the proof of the law AlexTables: the walks through its functions and the plain laws that they need. -/
import Derived.Test.YtkcighnochjlgaaAlTZ6
import Derived.Maps.RangeRun
import Derived.Shelf.SlMaps.Clone
set_option linter.unusedSimpArgs false
set_option linter.unusedVariables false
namespace Go.Proofs.Ytkcighnochjlgaa
open Go.ChangeShapes Go.WideShapes Go.ChangeAt Go.RowKit
def ovTail (d : Dg) : List Int := (List.range (2 * d.crs.length)).map fun q => ovA d (q + 1)
noncomputable def OversOf_n0 : Code := Try.f79.body.getD .skip
noncomputable def OversOf_n1 : Code := cL OversOf_n0
noncomputable def OversOf_n2 : Code := cR OversOf_n0
noncomputable def OversOf_n3 : Code := cL OversOf_n2
noncomputable def OversOf_n4 : Code := cR OversOf_n2
noncomputable def OversOf_n5 : Code := cL OversOf_n4
noncomputable def OversOf_n6 : Code := cR OversOf_n4
noncomputable def OversOf_n7 : Code := cL OversOf_n6
noncomputable def OversOf_n8 : Code := cR OversOf_n6
noncomputable def OversOf_n9 : Code := cL OversOf_n7
noncomputable def OversOf_n10 : Code := cR OversOf_n7
noncomputable def OversOf_n11 : Code := cL OversOf_n10
noncomputable def OversOf_n12 : Code := cL OversOf_n11
noncomputable def OversOf_n13 : Code := cL OversOf_n12
noncomputable def OversOf_n14 : Code := cR OversOf_n12
noncomputable def OversOf_n15 : Code := cL OversOf_n13
noncomputable def OversOf_n16 : Code := cR OversOf_n13
noncomputable def OversOf_n17 : Code := cL OversOf_n16
noncomputable def OversOf_n18 : Code := cR OversOf_n16
noncomputable def OversOf_n19 : Code := cL OversOf_n14
noncomputable def OversOf_n20 : Code := cR OversOf_n14
noncomputable def OversOf_n21 : Code := cL OversOf_n19
noncomputable def OversOf_n22 : Code := cL OversOf_n8
noncomputable def OversOf_n23 : Code := cR OversOf_n8
noncomputable def OversOf_n24 : Code := cL OversOf_n22
noncomputable def OversOf_n25 : Code := cR OversOf_n22
noncomputable def OversOf_n26 : Code := cL OversOf_n25
noncomputable def OversOf_n27 : Code := cL OversOf_n26
noncomputable def OversOf_n28 : Code := cL OversOf_n27
noncomputable def OversOf_n29 : Code := cR OversOf_n27
noncomputable def OversOf_n30 : Code := cL OversOf_n28
noncomputable def OversOf_n31 : Code := cR OversOf_n28
noncomputable def OversOf_n32 : Code := cL OversOf_n31
noncomputable def OversOf_n33 : Code := cR OversOf_n31
noncomputable def OversOf_n34 : Code := cL OversOf_n29
noncomputable def OversOf_n35 : Code := cR OversOf_n29
noncomputable def OversOf_n36 : Code := cL OversOf_n34
noncomputable def OversOf_n37 : Code := cL OversOf_n36
noncomputable def OversOf_n38 : Code := cR OversOf_n36
noncomputable def OversOf_n39 : Code := cL OversOf_n38
noncomputable def OversOf_n40 : Code := cL OversOf_n39
noncomputable def OversOf_n41 : Code := cL OversOf_n40
noncomputable def OversOf_n42 : Code := cR OversOf_n40
noncomputable def OversOf_n43 : Code := cL OversOf_n41
noncomputable def OversOf_n44 : Code := cR OversOf_n41
noncomputable def OversOf_n45 : Code := cL OversOf_n44
noncomputable def OversOf_n46 : Code := cR OversOf_n44
noncomputable def OversOf_n47 : Code := cL OversOf_n42
noncomputable def OversOf_n48 : Code := cR OversOf_n42
noncomputable def OversOf_n49 : Code := cL OversOf_n47
noncomputable def OversOf_n50 : Code := cL OversOf_n23
noncomputable def OversOf_n51 : Code := cR OversOf_n23
noncomputable def OversOf_n52 : Code := cL OversOf_n51
noncomputable def OversOf_n53 : Code := cR OversOf_n51
noncomputable def OversOf_n54 : Code := cL OversOf_n53
noncomputable def OversOf_n55 : Code := cR OversOf_n53
noncomputable def OversOf_n56 : Code := cL OversOf_n55
noncomputable def OversOf_n57 : Code := cR OversOf_n55
noncomputable def OversOf_n58 : Code := cL OversOf_n56
noncomputable def OversOf_n59 : Code := cR OversOf_n56
noncomputable def OversOf_n60 : Code := cL OversOf_n59
noncomputable def OversOf_n61 : Code := cL OversOf_n60
noncomputable def OversOf_n62 : Code := cL OversOf_n61
noncomputable def OversOf_n63 : Code := cR OversOf_n61
noncomputable def OversOf_n64 : Code := cL OversOf_n62
noncomputable def OversOf_n65 : Code := cR OversOf_n62
noncomputable def OversOf_n66 : Code := cL OversOf_n65
noncomputable def OversOf_n67 : Code := cR OversOf_n65
noncomputable def OversOf_n68 : Code := cL OversOf_n63
noncomputable def OversOf_n69 : Code := cR OversOf_n63
noncomputable def OversOf_n70 : Code := cL OversOf_n68
noncomputable def OversOf_n71 : Code := cL OversOf_n70
noncomputable def OversOf_n72 : Code := cR OversOf_n70
noncomputable def OversOf_n73 : Code := cL OversOf_n71
noncomputable def OversOf_n74 : Code := cR OversOf_n71
noncomputable def OversOf_n75 : Code := cL OversOf_n74
noncomputable def OversOf_n76 : Code := cR OversOf_n74
noncomputable def OversOf_n77 : Code := cL OversOf_n75
noncomputable def OversOf_n78 : Code := cR OversOf_n75
noncomputable def OversOf_n79 : Code := cL OversOf_n57
noncomputable def OversOf_n80 : Code := cR OversOf_n57
set_option maxHeartbeats 1000000 in
set_option maxRecDepth 10000 in
theorem OversOf_t {w : World} {M : Hp} {X : Fr} (d : Dg) {dcrsA : Option Addr} {dcrsc : Nat} (hdcrs : RdA cdCr (M.un X.h) dcrsA dcrsc d.crs) (hn : d.crs.length ≤ 16) (hab : arcsB d = true) (S : SH w M X []) : Ct Try.prog 79 [.agg [.slice dcrsA d.crs.length dcrsc, .int .i64 d.loops].toArray] w M X (fun u N => ∃ A c, u = .slice A (ovTail d).length c ∧ RdA cdInt N A c (ovTail d)) := by
  unfold Ct
  have rmhdcrs : d.crs.length * 40 ≤ 140737488355328 := hdcrs.room
  refine calls_in (b := OversOf_n0) Try.func79 rfl Try.ntmps79 rfl (fun C hC => ?_)
  refine ws_sub [(0, _)] ⟨rfl, trivial⟩ ?_
  refine ws_seqN OversOf_n1 OversOf_n2 rfl rfl rfl ?_
  refine ws_region rfl ?_
  refine wl_op (k := 0) (k' := 1) rfl rfl rfl (wo_box (l := [_, _]) rfl rfl rfl rfl rfl S ?_)
  intro gb1 w1 S1; clear S
  refine wl_op (k := 1) (k' := 2) rfl rfl rfl (wo_run rfl rfl (run_assign rfl rfl) ?_)
  refine wl_end rfl ?_
  refine nm_sub [(1, _)] ⟨rfl, trivial⟩ ?_
  refine nm_thn ?_
  refine ws_seqN OversOf_n3 OversOf_n4 rfl rfl rfl ?_
  refine ws_region rfl ?_
  refine wl_op (k := 0) (k' := 1) rfl rfl rfl (wo_run rfl rfl (run_fieldAddr rfl rfl Try.underlying51 rfl (ce49) (nf49)) ?_)
  refine wl_op (k := 1) (k' := 2) rfl rfl rfl (wo_run rfl rfl (run_load1 rfl rfl Try.underlying49 rfl (S1.boxc (i := 0) rfl rfl)) ?_)
  refine wl_op (k := 2) (k' := 3) rfl rfl rfl (wo_run rfl rfl (run_len rfl rfl rfl rfl rfl rfl Try.underlying49) ?_)
  refine wl_op (k := 3) (k' := 4) rfl rfl rfl (wo_run rfl rfl (run_mul rfl rfl rfl (by first | omega | (simp only [List.length_set, List.length_append, List.length_replicate, List.length_singleton, List.length_cons, List.length_nil]; omega))) ?_)
  refine wl_op (k := 4) (k' := 5) rfl rfl rfl (wo_run rfl rfl (run_assign rfl rfl) ?_)
  refine wl_end rfl ?_
  refine nm_sub [(1, _), (3, _)] ⟨rfl, rfl, trivial⟩ ?_
  refine nm_thn ?_
  refine ws_seqN OversOf_n5 OversOf_n6 rfl rfl rfl ?_
  refine ws_region rfl ?_
  refine wl_op (k := 0) (k' := 1) rfl rfl rfl (wo_run rfl rfl (run_move rfl rfl) ?_)
  refine wl_op (k := 1) (k' := 2) rfl rfl rfl (wo_run rfl rfl (run_add rfl rfl rfl (by first | omega | (simp only [List.length_set, List.length_append, List.length_replicate, List.length_singleton, List.length_cons, List.length_nil]; omega))) ?_)
  refine wl_op (k := 2) (k' := 3) rfl rfl rfl (wo_make (C := cdInt) ((2 * (d.crs.length : Int)).toNat + 1) rfl rfl rfl rfl rfl sl36 (by first | rfl | omega) (by show _ * 8 ≤ _; first | omega | (simp only [List.length_set, List.length_append, List.length_replicate, List.length_singleton, List.length_cons, List.length_nil]; omega)) S1 ?_)
  intro vr1 w2 S2; clear S1
  refine wl_op (k := 3) (k' := 4) rfl rfl rfl (wo_run rfl rfl (run_assign rfl rfl) ?_)
  refine wl_end rfl ?_
  refine nm_sub [(1, _), (3, _), (4, _)] ⟨rfl, rfl, rfl, trivial⟩ ?_
  refine nm_thn ?_
  refine ws_seqN OversOf_n7 OversOf_n8 rfl rfl rfl ?_
  refine ws_seqN OversOf_n9 OversOf_n10 rfl rfl rfl ?_
  refine ws_region rfl ?_
  refine wl_op (k := 0) (k' := 1) rfl rfl rfl (wo_run rfl rfl (run_assign rfl rfl) ?_)
  refine wl_end rfl ?_
  refine nm_thn ?_
  refine ws_blockN OversOf_n11 0 rfl rfl rfl ?_
  refine ws_loopE (fun mx_ ax_ wx_ => ∃ (i : Nat) (ws : List Int) (vrw : Value), mx_ = 2 * d.crs.length + 1 - i ∧ Env 85 [(1, .pointer (some ⟨gb1, 0, none⟩)), (3, .int .i64 (2 * (d.crs.length : Int))), (4, vrw), (5, .int .i64 (i : Int))] ax_ ∧ SH wx_ M X [Rs.row cdInt vrw ws, Rs.box gb1 51 [.slice dcrsA d.crs.length dcrsc, .int .i64 d.loops]] ∧ i ≤ 2 * d.crs.length + 1 ∧ ws = iniW (2 * d.crs.length + 1) i) rfl ?_ ?_
  · intro ax_ hax_
    refine ⟨_, ⟨0, _, _, rfl, hax_.sub ⟨rfl, rfl, rfl, rfl, trivial⟩, S2.pick [0, 1] [_, _] (by decide) ⟨rfl, rfl, trivial⟩, ?hq1f0, ?hq1f1⟩⟩
    case hq1f0 => omega
    case hq1f1 => rfl
  · rintro m1 a1 w3 ⟨i, ws, vrw, rfl, he1, S3, hi, hw⟩
    clear S2
    refine ws_in he1 (c := OversOf_n12) rfl ?_
    clear he1 a1
    have hwl : ws.length = 2 * d.crs.length + 1 := by rw [hw, iniW_len]
    refine ws_seqN OversOf_n13 OversOf_n14 rfl rfl rfl ?_
    refine ws_seqN OversOf_n15 OversOf_n16 rfl rfl rfl ?_
    refine ws_region rfl ?_
    refine wl_op (k := 0) (k' := 1) rfl rfl rfl (wo_run rfl rfl (run_move rfl rfl) ?_)
    refine wl_op (k := 1) (k' := 2) rfl rfl rfl (wo_run rfl rfl (run_move rfl rfl) ?_)
    refine wl_op (k := 2) (k' := 3) rfl rfl rfl (wo_run rfl rfl (run_leq rfl rfl rfl) ?_)
    refine wl_end rfl ?_
    refine nm_sub [(1, _), (3, _), (4, _), (5, _), (21, _)] ⟨rfl, rfl, rfl, rfl, rfl, trivial⟩ ?_
    refine nm_thn ?_
    refine ws_condN OversOf_n17 OversOf_n18 rfl rfl rfl rfl (fun hb21 => ?_) (fun hb21 => ?_)
    · have hb21 := of_decide_eq_true hb21
      refine ws_skip rfl ?_
      refine nm_sub [(1, _), (3, _), (4, _), (5, _)] ⟨rfl, rfl, rfl, rfl, trivial⟩ ?_
      refine nm_thn ?_
      refine ws_seqN OversOf_n19 OversOf_n20 rfl rfl rfl ?_
      refine ws_blockN OversOf_n21 1 rfl rfl rfl ?_
      refine ws_region rfl ?_
      refine wl_op (k := 0) (k' := 1) rfl rfl rfl (wo_run rfl rfl (run_move rfl rfl) ?_)
      refine wl_op (k := 1) (k' := 2) rfl rfl rfl (wo_run rfl rfl (run_move rfl rfl) ?_)
      refine wl_op (k := 2) (k' := 3) rfl rfl rfl (wo_run rfl rfl (run_move rfl rfl) ?_)
      refine wl_op (k := 3) (k' := 4) rfl rfl rfl (wo_run rfl rfl (run_indexR (C := cdInt) (i := 0) i rfl rfl rfl sl36 S3 rfl (by first | rfl | omega) (by first | omega | (simp only [List.length_set, List.length_append, List.length_replicate, List.length_singleton, List.length_cons, List.length_nil]; omega))) ?_)
      refine wl_op (k := 4) (k' := 5) rfl rfl rfl (wo_storeR (C := cdInt) (i := 0) (e := i) (j := 0) (us := [_]) (H' := [_, _]) (i : Int) rfl rfl S3 rfl (by first | omega | (simp only [List.length_set, List.length_append, List.length_replicate, List.length_singleton, List.length_cons, List.length_nil]; omega)) rfl rfl rfl sz3 rfl rfl rfl rfl ?_)
      intro w4 S4; clear S3
      refine wl_end rfl ?_
      refine nm_blk ?_
      refine nm_sub [(1, _), (3, _), (4, _), (5, _)] ⟨rfl, rfl, rfl, rfl, trivial⟩ ?_
      refine nm_thn ?_
      refine ws_region rfl ?_
      refine wl_op (k := 0) (k' := 1) rfl rfl rfl (wo_run rfl rfl (run_move rfl rfl) ?_)
      refine wl_op (k := 1) (k' := 2) rfl rfl rfl (wo_run rfl rfl (run_add rfl rfl rfl (by first | omega | (simp only [List.length_set, List.length_append, List.length_replicate, List.length_singleton, List.length_cons, List.length_nil]; omega))) ?_)
      refine wl_op (k := 2) (k' := 3) rfl rfl rfl (wo_run rfl rfl (run_assign rfl rfl) ?_)
      refine wl_end rfl ?_
      refine nm_lp ?_
      intro ax_ hax_
      refine ⟨_, ?hq2m, ⟨i + 1, _, _, rfl, hax_.sub ⟨rfl, rfl, rfl, rfl, trivial⟩, S4.pick [0, 1] [_, _] (by decide) ⟨rfl, rfl, trivial⟩, ?hq2f0, ?hq2f1⟩⟩
      case hq2f0 => omega
      case hq2f1 => (rw [hw]; rfl)
      case hq2m => omega
    · have hb21 := of_decide_eq_false hb21
      refine ws_exit rfl rfl ?_
      refine nm_sub [(1, _), (3, _), (4, _)] ⟨rfl, rfl, rfl, trivial⟩ ?_
      refine nm_thn ?_
      refine ws_seqN OversOf_n22 OversOf_n23 rfl rfl rfl ?_
      refine ws_seqN OversOf_n24 OversOf_n25 rfl rfl rfl ?_
      refine ws_region rfl ?_
      refine wl_op (k := 0) (k' := 1) rfl rfl rfl (wo_run rfl rfl (run_assign rfl rfl) ?_)
      refine wl_end rfl ?_
      refine nm_thn ?_
      refine ws_blockN OversOf_n26 2 rfl rfl rfl ?_
      refine ws_loopE (fun mx_ ax_ wx_ => ∃ (j : Nat) (ws2 : List Int) (vrw2 : Value), mx_ = 2 * d.crs.length + 1 - j ∧ Env 85 [(1, .pointer (some ⟨gb1, 0, none⟩)), (3, .int .i64 (2 * (d.crs.length : Int))), (4, vrw2), (6, .int .i64 (j : Int))] ax_ ∧ SH wx_ M X [Rs.row cdInt vrw2 ws2, Rs.box gb1 51 [.slice dcrsA d.crs.length dcrsc, .int .i64 d.loops]] ∧ j ≤ 2 * d.crs.length + 1 ∧ ws2 = ovRd d j) rfl ?_ ?_
      · intro ax_ hax_
        refine ⟨_, ⟨0, _, _, rfl, hax_.sub ⟨rfl, rfl, rfl, rfl, trivial⟩, S3.pick [0, 1] [_, _] (by decide) ⟨rfl, rfl, trivial⟩, ?hq3f0, ?hq3f1⟩⟩
        case hq3f0 => omega
        case hq3f1 => (obtain rfl : i = 2 * d.crs.length + 1 := (by omega); exact hw)
      · rintro m2 a2 w5 ⟨j, ws2, vrw2, rfl, he2, S5, hj, hw2⟩
        clear S3
        refine ws_in he2 (c := OversOf_n27) rfl ?_
        clear he2 a2
        have hl2 : ws2.length = 2 * d.crs.length + 1 := by rw [hw2, ovRd_len]
        refine ws_seqN OversOf_n28 OversOf_n29 rfl rfl rfl ?_
        refine ws_seqN OversOf_n30 OversOf_n31 rfl rfl rfl ?_
        refine ws_region rfl ?_
        refine wl_op (k := 0) (k' := 1) rfl rfl rfl (wo_run rfl rfl (run_move rfl rfl) ?_)
        refine wl_op (k := 1) (k' := 2) rfl rfl rfl (wo_run rfl rfl (run_move rfl rfl) ?_)
        refine wl_op (k := 2) (k' := 3) rfl rfl rfl (wo_run rfl rfl (run_leq rfl rfl rfl) ?_)
        refine wl_end rfl ?_
        refine nm_sub [(1, _), (3, _), (4, _), (6, _), (30, _)] ⟨rfl, rfl, rfl, rfl, rfl, trivial⟩ ?_
        refine nm_thn ?_
        refine ws_condN OversOf_n32 OversOf_n33 rfl rfl rfl rfl (fun hb30 => ?_) (fun hb30 => ?_)
        · have hb30 := of_decide_eq_true hb30
          refine ws_skip rfl ?_
          refine nm_sub [(1, _), (3, _), (4, _), (6, _)] ⟨rfl, rfl, rfl, rfl, trivial⟩ ?_
          refine nm_thn ?_
          refine ws_seqN OversOf_n34 OversOf_n35 rfl rfl rfl ?_
          refine ws_blockN OversOf_n36 3 rfl rfl rfl ?_
          refine ws_seqN OversOf_n37 OversOf_n38 rfl rfl rfl ?_
          refine ws_region rfl ?_
          refine wl_op (k := 0) (k' := 1) rfl rfl rfl (wo_run rfl rfl (run_assign rfl rfl) ?_)
          refine wl_end rfl ?_
          refine nm_thn ?_
          refine ws_blockN OversOf_n39 4 rfl rfl rfl ?_
          refine ws_loopE (fun mx_ ax_ wx_ => ∃ (k : Nat) (ws3 : List Int) (vrw3 : Value), mx_ = d.crs.length - k ∧ Env 85 [(1, .pointer (some ⟨gb1, 0, none⟩)), (3, .int .i64 (2 * (d.crs.length : Int))), (4, vrw3), (6, .int .i64 (j : Int)), (7, .int .i64 (k : Int))] ax_ ∧ SH wx_ M X [Rs.row cdInt vrw3 ws3, Rs.box gb1 51 [.slice dcrsA d.crs.length dcrsc, .int .i64 d.loops]] ∧ k ≤ d.crs.length ∧ ws3 = roundG (eB d) (eD d) ws2 k) rfl ?_ ?_
          · intro ax_ hax_
            refine ⟨_, ⟨0, _, _, rfl, hax_.sub ⟨rfl, rfl, rfl, rfl, rfl, trivial⟩, S5.pick [0, 1] [_, _] (by decide) ⟨rfl, rfl, trivial⟩, ?hq4f0, ?hq4f1⟩⟩
            case hq4f0 => omega
            case hq4f1 => rfl
          · rintro m3 a3 w6 ⟨k, ws3, vrw3, rfl, he3, S6, hk, hw3⟩
            clear S5
            refine ws_in he3 (c := OversOf_n40) rfl ?_
            clear he3 a3
            have hl3 : ws3.length = 2 * d.crs.length + 1 := by rw [hw3, roundG_len, hl2]
            have hebd := fun h => cls_bd hab (k := k) h
            refine ws_seqN OversOf_n41 OversOf_n42 rfl rfl rfl ?_
            refine ws_seqN OversOf_n43 OversOf_n44 rfl rfl rfl ?_
            refine ws_region rfl ?_
            refine wl_op (k := 0) (k' := 1) rfl rfl rfl (wo_run rfl rfl (run_move rfl rfl) ?_)
            refine wl_op (k := 1) (k' := 2) rfl rfl rfl (wo_run rfl rfl (run_fieldAddr rfl rfl Try.underlying51 rfl (ce49) (nf49)) ?_)
            refine wl_op (k := 2) (k' := 3) rfl rfl rfl (wo_run rfl rfl (run_load1 rfl rfl Try.underlying49 rfl (S6.boxc (i := 1) rfl rfl)) ?_)
            refine wl_op (k := 3) (k' := 4) rfl rfl rfl (wo_run rfl rfl (run_len rfl rfl rfl rfl rfl rfl Try.underlying49) ?_)
            refine wl_op (k := 4) (k' := 5) rfl rfl rfl (wo_run rfl rfl (run_lss rfl rfl rfl) ?_)
            refine wl_end rfl ?_
            refine nm_sub [(1, _), (3, _), (4, _), (6, _), (7, _), (37, _)] ⟨rfl, rfl, rfl, rfl, rfl, rfl, trivial⟩ ?_
            refine nm_thn ?_
            refine ws_condN OversOf_n45 OversOf_n46 rfl rfl rfl rfl (fun hb37 => ?_) (fun hb37 => ?_)
            · have hb37 := of_decide_eq_true hb37
              obtain ⟨⟨b1, b2⟩, ⟨b3, b4⟩⟩ := hebd (by omega)
              unfold eB at b1 b2
              unfold eD at b3 b4
              refine ws_skip rfl ?_
              refine nm_sub [(1, _), (3, _), (4, _), (6, _), (7, _)] ⟨rfl, rfl, rfl, rfl, rfl, trivial⟩ ?_
              refine nm_thn ?_
              refine ws_seqN OversOf_n47 OversOf_n48 rfl rfl rfl ?_
              refine ws_blockN OversOf_n49 5 rfl rfl rfl ?_
              refine ws_draw rfl (by kernel_rfl) S6 14 rfl ?_
              clear S6
              refine wa_takeP (i := 0) (d := 40) 13 rfl (by kernel_rfl) (by kernel_rfl) (by kernel_rfl) rfl rfl rfl (fun w7 => run_move rfl rfl) ?_
              refine wa_takeP (i := 1) (d := 41) 12 rfl (by kernel_rfl) (by kernel_rfl) (by kernel_rfl) rfl rfl rfl (fun w8 => run_fieldAddr rfl rfl Try.underlying51 rfl (ce49) (nf49)) ?_
              refine wa_take (i := 2) (d := 42) 11 rfl (by kernel_rfl) (by kernel_rfl) (by kernel_rfl) rfl rfl rfl (fun M3 N3 w9 hle6 S9 => .inl (run_load1 rfl rfl Try.underlying49 rfl (S9.suf.boxc (i := 1) rfl rfl))) ?_
              refine wa_takeP (i := 3) (d := 43) 10 rfl (by kernel_rfl) (by kernel_rfl) (by kernel_rfl) rfl rfl rfl (fun w10 => run_move rfl rfl) ?_
              refine wa_take (i := 4) (d := 44) 9 rfl (by kernel_rfl) (by kernel_rfl) (by kernel_rfl) rfl rfl rfl (fun M5 N5 w11 hle8 S11 => .inl (run_indexM (C := cdCr) k rfl rfl rfl sl49 (by first | rfl | omega) (hdcrs.mono (Hp.un_mono hle8 S11.mx)) (by first | omega | (simp only [List.length_set, List.length_append, List.length_replicate, List.length_singleton, List.length_cons, List.length_nil]; omega)))) ?_
              refine wa_takeP (i := 5) (d := 45) 8 rfl (by kernel_rfl) (by kernel_rfl) (by kernel_rfl) rfl rfl rfl (fun w12 => run_fieldAddr rfl rfl Try.underlying111 rfl (ce3) (nf3)) ?_
              refine wa_take (i := 6) (d := 46) 7 rfl (by kernel_rfl) (by kernel_rfl) (by kernel_rfl) rfl rfl rfl (fun M7 N7 w13 hle10 S13 => .inl (run_load1 rfl rfl Try.underlying3 rfl ((hdcrs.mono (Hp.un_mono hle10 S13.mx)).cell S13.um (i := k) (by first | omega | (simp only [List.length_set, List.length_append, List.length_replicate, List.length_singleton, List.length_cons, List.length_nil]; omega)) 1 rfl rfl))) ?_
              refine wa_takeP (i := 7) (d := 47) 6 rfl (by kernel_rfl) (by kernel_rfl) (by kernel_rfl) rfl rfl rfl (fun w14 => run_fieldAddr rfl rfl Try.underlying51 rfl (ce49) (nf49)) ?_
              refine wa_take (i := 8) (d := 48) 5 rfl (by kernel_rfl) (by kernel_rfl) (by kernel_rfl) rfl rfl rfl (fun M9 N9 w15 hle12 S15 => .inl (run_load1 rfl rfl Try.underlying49 rfl (S15.suf.boxc (i := 1) rfl rfl))) ?_
              refine wa_takeP (i := 9) (d := 49) 4 rfl (by kernel_rfl) (by kernel_rfl) (by kernel_rfl) rfl rfl rfl (fun w16 => run_move rfl rfl) ?_
              refine wa_take (i := 10) (d := 50) 3 rfl (by kernel_rfl) (by kernel_rfl) (by kernel_rfl) rfl rfl rfl (fun M11 N11 w17 hle14 S17 => .inl (run_indexM (C := cdCr) k rfl rfl rfl sl49 (by first | rfl | omega) (hdcrs.mono (Hp.un_mono hle14 S17.mx)) (by first | omega | (simp only [List.length_set, List.length_append, List.length_replicate, List.length_singleton, List.length_cons, List.length_nil]; omega)))) ?_
              refine wa_takeP (i := 11) (d := 51) 2 rfl (by kernel_rfl) (by kernel_rfl) (by kernel_rfl) rfl rfl rfl (fun w18 => run_fieldAddr rfl rfl Try.underlying111 rfl (ce3) (nf3)) ?_
              refine wa_take (i := 12) (d := 52) 1 rfl (by kernel_rfl) (by kernel_rfl) (by kernel_rfl) rfl rfl rfl (fun M13 N13 w19 hle16 S19 => .inl (run_load1 rfl rfl Try.underlying3 rfl ((hdcrs.mono (Hp.un_mono hle16 S19.mx)).cell S19.um (i := k) (by first | omega | (simp only [List.length_set, List.length_append, List.length_replicate, List.length_singleton, List.length_cons, List.length_nil]; omega)) 3 rfl rfl))) ?_
              refine wa_only (i := 13) 0 rfl (by kernel_rfl) rfl rfl (fun w21 S21 => ?_)
              refine (wo_c1 rfl rfl rfl rfl rfl rfl rfl cf91 S21 (i := 0) rfl (level_w vrw3 _ ((ga d.crs k).b) ((ga d.crs k).d) (by omega) (by omega) (S21.lend1 (i := 0) rfl)) ?_)
              rintro vw22 w22 _ _ - S22 ⟨rfl, rfl, rfl⟩; clear S21
              change SH _ _ _ [_, _] at S22
              refine LeftW.turn (by kernel_rfl) S22 ?_; clear S22
              change WA _ _ _ _ _ _ _ _ _ _ _ _ [_, _]
              refine wa_end (by kernel_rfl) (fun w23 S23 => ?_)
              refine nm_blk ?_
              refine nm_sub [(1, _), (3, _), (4, _), (6, _), (7, _)] ⟨rfl, rfl, rfl, rfl, rfl, trivial⟩ ?_
              refine nm_thn ?_
              refine ws_region rfl ?_
              refine wl_op (k := 0) (k' := 1) rfl rfl rfl (wo_run rfl rfl (run_move rfl rfl) ?_)
              refine wl_op (k := 1) (k' := 2) rfl rfl rfl (wo_run rfl rfl (run_add rfl rfl rfl (by first | omega | (simp only [List.length_set, List.length_append, List.length_replicate, List.length_singleton, List.length_cons, List.length_nil]; omega))) ?_)
              refine wl_op (k := 2) (k' := 3) rfl rfl rfl (wo_run rfl rfl (run_assign rfl rfl) ?_)
              refine wl_end rfl ?_
              refine nm_lp ?_
              intro ax_ hax_
              refine ⟨_, ?hq5m, ⟨k + 1, _, _, rfl, hax_.sub ⟨rfl, rfl, rfl, rfl, rfl, trivial⟩, S23.pick [0, 1] [_, _] (by decide) ⟨rfl, rfl, trivial⟩, ?hq5f0, ?hq5f1⟩⟩
              case hq5f0 => omega
              case hq5f1 => (rw [hw3]; rfl)
              case hq5m => omega
            · have hb37 := of_decide_eq_false hb37
              refine ws_exit rfl rfl ?_
              refine nm_blk ?_
              refine nm_sub [(1, _), (3, _), (4, _), (6, _)] ⟨rfl, rfl, rfl, rfl, trivial⟩ ?_
              refine nm_thn ?_
              refine ws_region rfl ?_
              refine wl_op (k := 0) (k' := 1) rfl rfl rfl (wo_run rfl rfl (run_move rfl rfl) ?_)
              refine wl_op (k := 1) (k' := 2) rfl rfl rfl (wo_run rfl rfl (run_add rfl rfl rfl (by first | omega | (simp only [List.length_set, List.length_append, List.length_replicate, List.length_singleton, List.length_cons, List.length_nil]; omega))) ?_)
              refine wl_op (k := 2) (k' := 3) rfl rfl rfl (wo_run rfl rfl (run_assign rfl rfl) ?_)
              refine wl_end rfl ?_
              refine nm_lp ?_
              intro ax_ hax_
              refine ⟨_, ?hq6m, ⟨j + 1, _, _, rfl, hax_.sub ⟨rfl, rfl, rfl, rfl, trivial⟩, S6.pick [0, 1] [_, _] (by decide) ⟨rfl, rfl, trivial⟩, ?hq6f0, ?hq6f1⟩⟩
              case hq6f0 => omega
              case hq6f1 => (obtain rfl : k = d.crs.length := (by omega); rw [hw3, hw2]; rfl)
              case hq6m => omega
        · have hb30 := of_decide_eq_false hb30
          refine ws_exit rfl rfl ?_
          refine nm_sub [(3, _), (4, _)] ⟨rfl, rfl, trivial⟩ ?_
          refine nm_thn ?_
          refine ws_seqN OversOf_n50 OversOf_n51 rfl rfl rfl ?_
          obtain rfl : j = 2 * d.crs.length + 1 := by omega
          have hcL : ws2 = clsL d := by rw [hw2, over_law hab]
          have hok : ∀ x, x < 2 * d.crs.length + 1 → 0 ≤ ga ws2 x ∧ ga ws2 x ≤ x ∧ ga ws2 (ga ws2 x).toNat = ga ws2 x := by rw [hcL]; exact (clsN_ok hab _ (Nat.le_refl _)).2
          refine ws_region rfl ?_
          refine wl_op (k := 0) (k' := 1) rfl rfl rfl (wo_run rfl rfl (run_assign rfl rfl) ?_)
          refine wl_end rfl ?_
          refine nm_thn ?_
          refine ws_seqN OversOf_n52 OversOf_n53 rfl rfl rfl ?_
          refine ws_region rfl ?_
          refine wl_op (k := 0) (k' := 1) rfl rfl rfl (wo_run rfl rfl (run_assign rfl rfl) ?_)
          refine wl_end rfl ?_
          refine nm_thn ?_
          refine ws_seqN OversOf_n54 OversOf_n55 rfl rfl rfl ?_
          refine ws_eq 9 (.int .i64 (rk d (0 + 1))) rfl (int_eq (rk_one d).symm) ?_
          refine ws_region rfl ?_
          refine wl_op (k := 0) (k' := 1) rfl rfl rfl (wo_run rfl rfl (run_move rfl rfl) ?_)
          refine wl_op (k := 1) (k' := 2) rfl rfl rfl (wo_run rfl rfl (run_add rfl rfl rfl (by first | omega | (simp only [List.length_set, List.length_append, List.length_replicate, List.length_singleton, List.length_cons, List.length_nil]; omega))) ?_)
          refine wl_op (k := 2) (k' := 3) rfl rfl rfl (wo_make (C := cdInt) ((2 * (d.crs.length : Int)).toNat + 1) rfl rfl rfl rfl rfl sl36 (by first | rfl | omega) (by show _ * 8 ≤ _; first | omega | (simp only [List.length_set, List.length_append, List.length_replicate, List.length_singleton, List.length_cons, List.length_nil]; omega)) S5 ?_)
          intro vr2 w24 S24; clear S5
          refine wl_op (k := 3) (k' := 4) rfl rfl rfl (wo_run rfl rfl (run_assign rfl rfl) ?_)
          refine wl_end rfl ?_
          refine nm_sub [(3, _), (4, _), (8, _), (9, _), (10, _)] ⟨rfl, rfl, rfl, rfl, rfl, trivial⟩ ?_
          refine nm_thn ?_
          refine ws_seqN OversOf_n56 OversOf_n57 rfl rfl rfl ?_
          refine ws_seqN OversOf_n58 OversOf_n59 rfl rfl rfl ?_
          refine ws_region rfl ?_
          refine wl_op (k := 0) (k' := 1) rfl rfl rfl (wo_run rfl rfl (run_assign rfl rfl) ?_)
          refine wl_end rfl ?_
          refine nm_thn ?_
          refine ws_blockN OversOf_n60 6 rfl rfl rfl ?_
          have S25 := S24.nilrow cdInt; clear S24
          refine ws_loopE (fun mx_ ax_ wx_ => ∃ (a : Nat) (acc : List Int) (nb : List Int) (vra : Value) (vrn : Value), mx_ = 2 * d.crs.length - a ∧ Env 85 [(3, .int .i64 (2 * (d.crs.length : Int))), (4, vrw2), (8, vra), (9, .int .i64 (rk d (a + 1))), (10, vrn), (11, .int .i64 ((a + 1 : Nat) : Int))] ax_ ∧ SH wx_ M X [Rs.row cdInt vra acc, Rs.row cdInt vrn nb, Rs.row cdInt vrw2 ws2] ∧ a ≤ 2 * d.crs.length ∧ nb.length = 2 * d.crs.length + 1 ∧ acc = (List.range a).map (fun q => ovA d (q + 1)) ∧ (∀ x, x < a + 1 → ga (clsL d) x = (x : Int) → ga nb x = rk d x)) rfl ?_ ?_
          · intro ax_ hax_
            refine ⟨_, ⟨0, _, _, _, _, rfl, hax_.sub ⟨rfl, rfl, rfl, rfl, rfl, rfl, trivial⟩, S25.pick [0, 1, 2] [_, _, _] (by decide) ⟨rfl, rfl, rfl, trivial⟩, ?hq7f0, ?hq7f1, ?hq7f2, ?hq7f3⟩⟩
            case hq7f0 => omega
            case hq7f1 => (rw [List.length_replicate]; omega)
            case hq7f2 => rfl
            case hq7f3 => (intro x hx _; obtain rfl : x = 0 := (by omega); rw [ga_rep _ _ _ (by omega)]; rfl)
          · rintro m4 a4 w25 ⟨a, acc, nb, vra, vrn, rfl, he4, S26, ha, hnl, hac, hnb⟩
            clear S25
            refine ws_in he4 (c := OversOf_n61) rfl ?_
            clear he4 a4
            have hal : acc.length = a := by rw [hac]; simp
            refine ws_seqN OversOf_n62 OversOf_n63 rfl rfl rfl ?_
            refine ws_seqN OversOf_n64 OversOf_n65 rfl rfl rfl ?_
            refine ws_region rfl ?_
            refine wl_op (k := 0) (k' := 1) rfl rfl rfl (wo_run rfl rfl (run_move rfl rfl) ?_)
            refine wl_op (k := 1) (k' := 2) rfl rfl rfl (wo_run rfl rfl (run_move rfl rfl) ?_)
            refine wl_op (k := 2) (k' := 3) rfl rfl rfl (wo_run rfl rfl (run_leq rfl rfl rfl) ?_)
            refine wl_end rfl ?_
            refine nm_sub [(3, _), (4, _), (8, _), (9, _), (10, _), (11, _), (59, _)] ⟨rfl, rfl, rfl, rfl, rfl, rfl, rfl, trivial⟩ ?_
            refine nm_thn ?_
            refine ws_condN OversOf_n66 OversOf_n67 rfl rfl rfl rfl (fun hb59 => ?_) (fun hb59 => ?_)
            · have hb59 := of_decide_eq_true hb59
              obtain ⟨o1, o2, o3⟩ := hok (a + 1) (by omega)
              have hrk := rk_bd d (a + 1)
              refine ws_skip rfl ?_
              refine nm_sub [(3, _), (4, _), (8, _), (9, _), (10, _), (11, _)] ⟨rfl, rfl, rfl, rfl, rfl, rfl, trivial⟩ ?_
              refine nm_thn ?_
              refine ws_seqN OversOf_n68 OversOf_n69 rfl rfl rfl ?_
              refine ws_blockN OversOf_n70 7 rfl rfl rfl ?_
              refine ws_seqN OversOf_n71 OversOf_n72 rfl rfl rfl ?_
              refine ws_seqN OversOf_n73 OversOf_n74 rfl rfl rfl ?_
              refine ws_region rfl ?_
              refine wl_op (k := 0) (k' := 1) rfl rfl rfl (wo_run rfl rfl (run_move rfl rfl) ?_)
              refine wl_op (k := 1) (k' := 2) rfl rfl rfl (wo_run rfl rfl (run_move rfl rfl) ?_)
              refine wl_op (k := 2) (k' := 3) rfl rfl rfl (wo_run rfl rfl (run_indexR (C := cdInt) (i := 2) (a + 1) rfl rfl rfl sl36 S26 rfl (by first | rfl | omega) (by first | omega | (simp only [List.length_set, List.length_append, List.length_replicate, List.length_singleton, List.length_cons, List.length_nil]; omega))) ?_)
              refine wl_op (k := 3) (k' := 4) rfl rfl rfl (wo_run rfl rfl (run_load1 rfl rfl Try.underlying3 rfl (S26.rowc (i := 2) (e := a + 1) (j := 0) rfl (by first | omega | (simp only [List.length_set, List.length_append, List.length_replicate, List.length_singleton, List.length_cons, List.length_nil]; omega)) rfl rfl)) ?_)
              refine wl_op (k := 4) (k' := 5) rfl rfl rfl (wo_run rfl rfl (run_move rfl rfl) ?_)
              refine wl_op (k := 5) (k' := 6) rfl rfl rfl (wo_run rfl rfl (run_eql rfl rfl rfl) ?_)
              refine wl_end rfl ?_
              refine nm_sub [(3, _), (4, _), (8, _), (9, _), (10, _), (11, _), (67, _)] ⟨rfl, rfl, rfl, rfl, rfl, rfl, rfl, trivial⟩ ?_
              refine nm_thn ?_
              refine ws_condN OversOf_n75 OversOf_n76 rfl rfl rfl rfl (fun hb67 => ?_) (fun hb67 => ?_)
              · have hb67 := of_decide_eq_true hb67
                refine ws_seqN OversOf_n77 OversOf_n78 rfl rfl rfl ?_
                refine ws_region rfl ?_
                refine wl_op (k := 0) (k' := 1) rfl rfl rfl (wo_run rfl rfl (run_move rfl rfl) ?_)
                refine wl_op (k := 1) (k' := 2) rfl rfl rfl (wo_run rfl rfl (run_move rfl rfl) ?_)
                refine wl_op (k := 2) (k' := 3) rfl rfl rfl (wo_run rfl rfl (run_move rfl rfl) ?_)
                refine wl_op (k := 3) (k' := 4) rfl rfl rfl (wo_run rfl rfl (run_indexR (C := cdInt) (i := 1) (a + 1) rfl rfl rfl sl36 S26 rfl (by first | rfl | omega) (by first | omega | (simp only [List.length_set, List.length_append, List.length_replicate, List.length_singleton, List.length_cons, List.length_nil]; omega))) ?_)
                refine wl_op (k := 4) (k' := 5) rfl rfl rfl (wo_storeR (C := cdInt) (i := 1) (e := a + 1) (j := 0) (us := [_]) (H' := [_, _, _]) (rk d (a + 1)) rfl rfl S26 rfl (by first | omega | (simp only [List.length_set, List.length_append, List.length_replicate, List.length_singleton, List.length_cons, List.length_nil]; omega)) rfl rfl rfl sz3 rfl rfl rfl rfl ?_)
                intro w26 S27; clear S26
                refine wl_end rfl ?_
                refine nm_sub [(3, _), (4, _), (8, _), (9, _), (10, _), (11, _)] ⟨rfl, rfl, rfl, rfl, rfl, rfl, trivial⟩ ?_
                refine nm_thn ?_
                refine ws_region rfl ?_
                refine wl_op (k := 0) (k' := 1) rfl rfl rfl (wo_run rfl rfl (run_move rfl rfl) ?_)
                refine wl_op (k := 1) (k' := 2) rfl rfl rfl (wo_run rfl rfl (run_add rfl rfl rfl (by first | omega | (simp only [List.length_set, List.length_append, List.length_replicate, List.length_singleton, List.length_cons, List.length_nil]; omega))) ?_)
                refine wl_op (k := 2) (k' := 3) rfl rfl rfl (wo_run rfl rfl (run_assign rfl rfl) ?_)
                refine wl_end rfl ?_
                refine nm_sub [(3, _), (4, _), (8, _), (9, _), (10, _), (11, _)] ⟨rfl, rfl, rfl, rfl, rfl, rfl, trivial⟩ ?_
                refine nm_thn ?_
                refine ws_region rfl ?_
                refine wl_op (k := 0) (k' := 1) rfl rfl rfl (wo_run rfl rfl (run_move rfl rfl) ?_)
                refine wl_op (k := 1) (k' := 2) rfl rfl rfl (wo_run rfl rfl (run_move rfl rfl) ?_)
                refine wl_op (k := 2) (k' := 3) rfl rfl rfl (wo_run rfl rfl (run_move rfl rfl) ?_)
                refine wl_op (k := 3) (k' := 4) rfl rfl rfl (wo_run rfl rfl (run_move rfl rfl) ?_)
                refine wl_op (k := 4) (k' := 5) rfl rfl rfl (wo_run rfl rfl (run_indexR (C := cdInt) (i := 2) (a + 1) rfl rfl rfl sl36 S27 rfl (by first | rfl | omega) (by first | omega | (simp only [List.length_set, List.length_append, List.length_replicate, List.length_singleton, List.length_cons, List.length_nil]; omega))) ?_)
                refine wl_op (k := 5) (k' := 6) rfl rfl rfl (wo_run rfl rfl (run_load1 rfl rfl Try.underlying3 rfl (S27.rowc (i := 2) (e := a + 1) (j := 0) rfl (by first | omega | (simp only [List.length_set, List.length_append, List.length_replicate, List.length_singleton, List.length_cons, List.length_nil]; omega)) rfl rfl)) ?_)
                refine wl_op (k := 6) (k' := 7) rfl rfl rfl (wo_run rfl rfl (run_indexR (C := cdInt) (i := 1) ((ga ws2 (a + 1)).toNat) rfl rfl rfl sl36 S27 rfl (by first | rfl | omega) (by first | omega | (simp only [List.length_set, List.length_append, List.length_replicate, List.length_singleton, List.length_cons, List.length_nil]; omega))) ?_)
                refine wl_op (k := 7) (k' := 8) rfl rfl rfl (wo_run rfl rfl (run_load1 rfl rfl Try.underlying3 rfl (S27.rowc (i := 1) (e := (ga ws2 (a + 1)).toNat) (j := 0) rfl (by first | omega | (simp only [List.length_set, List.length_append, List.length_replicate, List.length_singleton, List.length_cons, List.length_nil]; omega)) rfl rfl)) ?_)
                refine wl_op (k := 8) (k' := 9) rfl rfl rfl (wo_buildSlice1 (C := cdInt) (l := [_]) rfl rfl rfl rfl sl36 rfl rfl rfl rfl S27 ?_)
                intro gb2 w27 S28; clear S27
                refine wl_op (k := 9) (k' := 10) rfl rfl rfl (wo_append1 (C := cdInt) (i := 1) (q := 0) (ga (nb.set (a + 1) (rk d (a + 1))) ((ga ws2 (a + 1)).toNat)) rfl rfl rfl rfl rfl rfl rfl rfl sl36 S28 rfl rfl rfl (by show (_ + 1) * 8 ≤ _; first | omega | (simp only [List.length_set, List.length_append, List.length_replicate, List.length_singleton, List.length_cons, List.length_nil]; omega)) ?_)
                intro vra1 w28 S29; clear S28
                have S30 := S29.pick [1, 2, 3] [_, _, _] (by decide) ⟨rfl, rfl, rfl, trivial⟩; clear S29
                refine wl_op (k := 10) (k' := 11) rfl rfl rfl (wo_run rfl rfl (run_assign rfl rfl) ?_)
                refine wl_end rfl ?_
                refine nm_blk ?_
                refine nm_sub [(3, _), (4, _), (8, _), (9, _), (10, _), (11, _)] ⟨rfl, rfl, rfl, rfl, rfl, rfl, trivial⟩ ?_
                refine nm_thn ?_
                refine ws_eq 9 (.int .i64 (rk d (a + 1 + 1))) rfl (int_eq (by exact (rk_root (a := a + 1) (by omega) (by rw [← hcL]; exact hb67)).symm)) ?_
                refine ws_region rfl ?_
                refine wl_op (k := 0) (k' := 1) rfl rfl rfl (wo_run rfl rfl (run_move rfl rfl) ?_)
                refine wl_op (k := 1) (k' := 2) rfl rfl rfl (wo_run rfl rfl (run_add rfl rfl rfl (by first | omega | (simp only [List.length_set, List.length_append, List.length_replicate, List.length_singleton, List.length_cons, List.length_nil]; omega))) ?_)
                refine wl_op (k := 2) (k' := 3) rfl rfl rfl (wo_run rfl rfl (run_assign rfl rfl) ?_)
                refine wl_end rfl ?_
                refine nm_lp ?_
                have hv : ga (nb.set (a + 1) (rk d (a + 1))) (ga ws2 (a + 1)).toNat = ovA d (a + 1) := by (have e9 : (ga ws2 (a + 1)).toNat = a + 1 := by omega); unfold ovA; rw [← hcL, e9, ga_set _ _ _ _ (by omega), if_pos rfl]
                intro ax_ hax_
                refine ⟨_, ?hq8m, ⟨a + 1, _, _, _, _, rfl, hax_.sub ⟨rfl, rfl, rfl, rfl, rfl, rfl, trivial⟩, S30.pick [0, 1, 2] [_, _, _] (by decide) ⟨rfl, rfl, rfl, trivial⟩, ?hq8f0, ?hq8f1, ?hq8f2, ?hq8f3⟩⟩
                case hq8f0 => omega
                case hq8f1 => first | assumption | simpa using hnl
                case hq8f2 => (rw [hv, hac, List.range_succ, List.map_append]; rfl)
                case hq8f3 => first | (intro x hx hr; rw [ga_set _ _ _ _ (by omega)]; split; (rename_i e9; rw [← e9]); exact hnb x (by omega) hr) | (intro x hx hr; exact hnb x (by rcases Nat.lt_or_ge x (a + 1) with h8 | h8; (· exact h8); (· obtain rfl : x = a + 1 := (by omega); rw [← hcL] at hr; exact absurd hr hb67)) hr)
                case hq8m => omega
              · have hb67 := of_decide_eq_false hb67
                refine ws_skip rfl ?_
                refine nm_sub [(3, _), (4, _), (8, _), (9, _), (10, _), (11, _)] ⟨rfl, rfl, rfl, rfl, rfl, rfl, trivial⟩ ?_
                refine nm_thn ?_
                refine ws_region rfl ?_
                refine wl_op (k := 0) (k' := 1) rfl rfl rfl (wo_run rfl rfl (run_move rfl rfl) ?_)
                refine wl_op (k := 1) (k' := 2) rfl rfl rfl (wo_run rfl rfl (run_move rfl rfl) ?_)
                refine wl_op (k := 2) (k' := 3) rfl rfl rfl (wo_run rfl rfl (run_move rfl rfl) ?_)
                refine wl_op (k := 3) (k' := 4) rfl rfl rfl (wo_run rfl rfl (run_move rfl rfl) ?_)
                refine wl_op (k := 4) (k' := 5) rfl rfl rfl (wo_run rfl rfl (run_indexR (C := cdInt) (i := 2) (a + 1) rfl rfl rfl sl36 S26 rfl (by first | rfl | omega) (by first | omega | (simp only [List.length_set, List.length_append, List.length_replicate, List.length_singleton, List.length_cons, List.length_nil]; omega))) ?_)
                refine wl_op (k := 5) (k' := 6) rfl rfl rfl (wo_run rfl rfl (run_load1 rfl rfl Try.underlying3 rfl (S26.rowc (i := 2) (e := a + 1) (j := 0) rfl (by first | omega | (simp only [List.length_set, List.length_append, List.length_replicate, List.length_singleton, List.length_cons, List.length_nil]; omega)) rfl rfl)) ?_)
                refine wl_op (k := 6) (k' := 7) rfl rfl rfl (wo_run rfl rfl (run_indexR (C := cdInt) (i := 1) ((ga ws2 (a + 1)).toNat) rfl rfl rfl sl36 S26 rfl (by first | rfl | omega) (by first | omega | (simp only [List.length_set, List.length_append, List.length_replicate, List.length_singleton, List.length_cons, List.length_nil]; omega))) ?_)
                refine wl_op (k := 7) (k' := 8) rfl rfl rfl (wo_run rfl rfl (run_load1 rfl rfl Try.underlying3 rfl (S26.rowc (i := 1) (e := (ga ws2 (a + 1)).toNat) (j := 0) rfl (by first | omega | (simp only [List.length_set, List.length_append, List.length_replicate, List.length_singleton, List.length_cons, List.length_nil]; omega)) rfl rfl)) ?_)
                refine wl_op (k := 8) (k' := 9) rfl rfl rfl (wo_buildSlice1 (C := cdInt) (l := [_]) rfl rfl rfl rfl sl36 rfl rfl rfl rfl S26 ?_)
                intro gb3 w29 S31; clear S26
                refine wl_op (k := 9) (k' := 10) rfl rfl rfl (wo_append1 (C := cdInt) (i := 1) (q := 0) (ga nb ((ga ws2 (a + 1)).toNat)) rfl rfl rfl rfl rfl rfl rfl rfl sl36 S31 rfl rfl rfl (by show (_ + 1) * 8 ≤ _; first | omega | (simp only [List.length_set, List.length_append, List.length_replicate, List.length_singleton, List.length_cons, List.length_nil]; omega)) ?_)
                intro vra2 w30 S32; clear S31
                have S33 := S32.pick [1, 2, 3] [_, _, _] (by decide) ⟨rfl, rfl, rfl, trivial⟩; clear S32
                refine wl_op (k := 10) (k' := 11) rfl rfl rfl (wo_run rfl rfl (run_assign rfl rfl) ?_)
                refine wl_end rfl ?_
                refine nm_blk ?_
                refine nm_sub [(3, _), (4, _), (8, _), (9, _), (10, _), (11, _)] ⟨rfl, rfl, rfl, rfl, rfl, rfl, trivial⟩ ?_
                refine nm_thn ?_
                refine ws_eq 9 (.int .i64 (rk d (a + 1 + 1))) rfl (int_eq (by exact (rk_skip (a := a + 1) (by rw [← hcL]; exact hb67)).symm)) ?_
                refine ws_region rfl ?_
                refine wl_op (k := 0) (k' := 1) rfl rfl rfl (wo_run rfl rfl (run_move rfl rfl) ?_)
                refine wl_op (k := 1) (k' := 2) rfl rfl rfl (wo_run rfl rfl (run_add rfl rfl rfl (by first | omega | (simp only [List.length_set, List.length_append, List.length_replicate, List.length_singleton, List.length_cons, List.length_nil]; omega))) ?_)
                refine wl_op (k := 2) (k' := 3) rfl rfl rfl (wo_run rfl rfl (run_assign rfl rfl) ?_)
                refine wl_end rfl ?_
                refine nm_lp ?_
                have hv : ga nb (ga ws2 (a + 1)).toNat = ovA d (a + 1) := by unfold ovA; rw [← hcL]; exact hnb _ (by omega) (by rw [← hcL, o3]; omega)
                intro ax_ hax_
                refine ⟨_, ?hq9m, ⟨a + 1, _, _, _, _, rfl, hax_.sub ⟨rfl, rfl, rfl, rfl, rfl, rfl, trivial⟩, S33.pick [0, 1, 2] [_, _, _] (by decide) ⟨rfl, rfl, rfl, trivial⟩, ?hq9f0, ?hq9f1, ?hq9f2, ?hq9f3⟩⟩
                case hq9f0 => omega
                case hq9f1 => first | assumption | simpa using hnl
                case hq9f2 => (rw [hv, hac, List.range_succ, List.map_append]; rfl)
                case hq9f3 => first | (intro x hx hr; rw [ga_set _ _ _ _ (by omega)]; split; (rename_i e9; rw [← e9]); exact hnb x (by omega) hr) | (intro x hx hr; exact hnb x (by rcases Nat.lt_or_ge x (a + 1) with h8 | h8; (· exact h8); (· obtain rfl : x = a + 1 := (by omega); rw [← hcL] at hr; exact absurd hr hb67)) hr)
                case hq9m => omega
            · have hb59 := of_decide_eq_false hb59
              refine ws_exit rfl rfl ?_
              refine nm_sub [(8, _)] ⟨rfl, trivial⟩ ?_
              refine nm_thn ?_
              refine ws_seqN OversOf_n79 OversOf_n80 rfl rfl rfl ?_
              refine ws_region rfl ?_
              refine wl_op (k := 0) (k' := 1) rfl rfl rfl (wo_run rfl rfl (run_move rfl rfl) ?_)
              refine wl_op (k := 1) (k' := 2) rfl rfl rfl (wo_run rfl rfl (run_assign rfl rfl) ?_)
              refine wl_end rfl ?_
              refine nm_sub [(2, _)] ⟨rfl, trivial⟩ ?_
              refine nm_thn ?_
              obtain ⟨M15, hle19, S34, ⟨A1, c1, e1, hr1⟩⟩ := S26.pubrow (i := 0) (H' := [_, _, _]) rfl rfl (by show _ * 8 ≤ _; first | omega | (simp only [List.length_set, List.length_append, List.length_replicate, List.length_singleton, List.length_cons, List.length_nil]; omega))
              clear S26; subst e1
              replace hdcrs := hdcrs.mono (Hp.un_mono hle19 S34.mx)
              refine ws_ret hC [_] rfl rfl ⟨rfl, trivial⟩ ?_
              refine ⟨_, rfl, _, hle19, (S34.pick [] [] (by decide) trivial), ?_⟩
              obtain rfl : a = 2 * d.crs.length := by omega
              have e2 : ovTail d = acc := hac.symm
              rw [e2]
              exact ⟨_, _, rfl, hr1⟩
end Go.Proofs.Ytkcighnochjlgaa
namespace Go.Proofs.Ytkcighnochjlgaa
open Go.ChangeShapes Go.WideShapes Go.ChangeAt Go.RowKit
def md (x : Int) : Int := x % 18446744073709551616
theorem wr_md {x y : Int} : wr x = wr y ↔ md x = md y := by unfold wr md; rw [IntKind.wrap_i64, IntKind.wrap_i64]; omega
theorem md_wr (x : Int) : md (wr x) = md x := by unfold wr md; rw [IntKind.wrap_i64]; omega
theorem wr_idem (x : Int) : wr (wr x) = wr x := wr_md.2 (md_wr x)
theorem md_add {a b c d : Int} (h : md a = md b) (k : md c = md d) : md (a + c) = md (b + d) := by
  unfold md at *; omega
theorem md_neg {a b : Int} (h : md a = md b) : md (-a) = md (-b) := by
  unfold md at *; omega
theorem md_mul {a b c d : Int} (h : md a = md b) (k : md c = md d) : md (a * c) = md (b * d) := by
  unfold md at *
  rw [Int.mul_emod, h, k, ← Int.mul_emod]
theorem md_range {x : Int} (h : wr x = x) (k : md x = 0) : x = 0 := by
  have h1 : wr x = wr 0 := wr_md.2 (by rw [k]; rfl)
  rw [h] at h1
  rw [h1]
  exact wr_id (by omega)
theorem wr_add2 (x y : Int) : wr (x + wr y) = wr (x + y) := wr_md.2 (md_add rfl (md_wr y))
abbrev Tms := List (Int × Int)
/-- The value of a test at a polynomial. -/
def ev : Tms → (Int → Int) → Int
  | [], _ => 0
  | p :: r, φ => p.2 * φ (wr p.1) + ev r φ
theorem ev_append (P Q : Tms) (φ : Int → Int) : ev (P ++ Q) φ = ev P φ + ev Q φ := by
  induction P with
  | nil => simp [ev]
  | cons p P ih => simp only [List.cons_append, ev, ih]; omega
theorem ev_add (P : Tms) (φ ψ : Int → Int) : ev P (fun x => φ x + ψ x) = ev P φ + ev P ψ := by
  induction P with
  | nil => rfl
  | cons p P ih => simp only [ev, ih, Int.mul_add]; omega
theorem ev_zero (P : Tms) : ev P (fun _ => 0) = 0 := by
  induction P with
  | nil => rfl
  | cons p P ih => simp only [ev, ih]; omega
theorem ev_mul (P : Tms) (c : Int) (φ : Int → Int) : ev P (fun x => c * φ x) = c * ev P φ := by
  induction P with
  | nil => simp [ev]
  | cons p P ih => simp only [ev, ih, Int.mul_add, Int.mul_left_comm]
theorem ev_swap (P Q : Tms) (ψ : Int → Int → Int) : ev P (fun x => ev Q (ψ x)) = ev Q (fun y => ev P (fun x => ψ x y)) := by
  induction P with
  | nil => simp only [ev]; rw [ev_zero]
  | cons p P ih => simp only [ev]; rw [ih, ev_add, ev_mul]
theorem ev_cong (P : Tms) {φ ψ : Int → Int} (h : ∀ x, md (φ x) = md (ψ x)) : md (ev P φ) = md (ev P ψ) := by
  induction P with
  | nil => rfl
  | cons p P ih => exact md_add (md_mul rfl (h _)) ih
theorem ev_map (P : Tms) (f : Int × Int → Int × Int) (c : Int) (g : Int → Int) (hf : ∀ p, (f p).2 = p.2 * c) (hg : ∀ p : Int × Int, wr (f p).1 = g (wr p.1)) (φ : Int → Int) : ev (P.map f) φ = c * ev P (fun x => φ (g x)) := by
  induction P with
  | nil => simp [ev]
  | cons p P ih => simp only [List.map_cons, ev, ih, hf, hg, Int.mul_add]; rw [Int.mul_comm p.2 c, Int.mul_assoc]
def cf (P : Tms) (k : Int) : Int := ev P (fun x => if x = k then 1 else 0)
theorem cf_cons (p : Int × Int) (P : Tms) (k : Int) : cf (p :: P) k = (if wr p.1 = k then p.2 else 0) + cf P k := by
  unfold cf; simp only [ev]; split <;> simp
def eqv (P Q : Tms) : Prop := ∀ φ, md (ev P φ) = md (ev Q φ)
theorem eqv.refl (P : Tms) : eqv P P := fun _ => rfl
theorem eqv.symm {P Q : Tms} (h : eqv P Q) : eqv Q P := fun φ => (h φ).symm
theorem eqv.trans {P Q R : Tms} (h : eqv P Q) (k : eqv Q R) : eqv P R := fun φ => (h φ).trans (k φ)
def negT (P : Tms) : Tms := P.map fun p => (p.1, -p.2)
theorem ev_negT (P : Tms) (φ : Int → Int) : ev (negT P) φ = - ev P φ := by
  have := ev_map P (fun p => (p.1, -p.2)) (-1) id (fun p => by simp only; omega) (fun p => rfl) φ
  unfold negT
  rw [this]
  show -1 * ev P φ = _
  omega
def prodT (P Q : Tms) : Tms := P.flatMap fun p => Q.map fun q => (p.1 + q.1, p.2 * q.2)
theorem ev_prodT (P Q : Tms) (φ : Int → Int) : ev (prodT P Q) φ = ev P (fun x => ev Q (fun y => φ (wr (x + y)))) := by
  induction P with
  | nil => rfl
  | cons p P ih =>
    have e : ∀ Q : Tms, ev (Q.map fun q => (p.1 + q.1, p.2 * q.2)) φ = p.2 * ev Q (fun y => φ (wr (wr p.1 + y))) := fun Q => by
      have := ev_map Q (fun q => (p.1 + q.1, p.2 * q.2)) p.2 (fun y => wr (wr p.1 + y)) (fun q => Int.mul_comm _ _) (fun q => by simp only; rw [wr_add2, wr_wr]) φ
      exact this
    show ev ((Q.map fun q => (p.1 + q.1, p.2 * q.2)) ++ prodT P Q) φ = _
    rw [ev_append, ih, e]
    rfl
theorem eqv_append {P P' Q Q' : Tms} (h : eqv P P') (k : eqv Q Q') : eqv (P ++ Q) (P' ++ Q') := fun φ => by
  rw [ev_append, ev_append]; exact md_add (h φ) (k φ)
theorem eqv_prod {P P' Q Q' : Tms} (h : eqv P P') (k : eqv Q Q') : eqv (prodT P Q) (prodT P' Q') := fun φ => by
  rw [ev_prodT, ev_prodT]
  exact (h _).trans (ev_cong _ fun x => k _)
theorem eqv_neg {P P' : Tms} (h : eqv P P') : eqv (negT P) (negT P') := fun φ => by
  rw [ev_negT, ev_negT]; exact md_neg (h φ)
def polS : Setoid Tms := ⟨eqv, eqv.refl, eqv.symm, eqv.trans⟩
def Pol := Quotient polS
def mk (P : Tms) : Pol := Quotient.mk polS P
theorem mk_eq {P Q : Tms} (h : eqv P Q) : mk P = mk Q := Quotient.sound (s := polS) h
theorem mk_eqv {P Q : Tms} (h : mk P = mk Q) : eqv P Q := Quotient.exact (s := polS) h
theorem Pol.ind {p : Pol → Prop} (h : ∀ P, p (mk P)) (x : Pol) : p x := Quotient.ind (s := polS) h x
def Pol.add (x y : Pol) : Pol := Quotient.liftOn₂ (s₁ := polS) (s₂ := polS) x y (fun P Q => mk (P ++ Q)) fun _ _ _ _ h k => mk_eq (eqv_append h k)
def Pol.mul (x y : Pol) : Pol := Quotient.liftOn₂ (s₁ := polS) (s₂ := polS) x y (fun P Q => mk (prodT P Q)) fun _ _ _ _ h k => mk_eq (eqv_prod h k)
def Pol.neg (x : Pol) : Pol := Quotient.liftOn (s := polS) x (fun P => mk (negT P)) fun _ _ h => mk_eq (eqv_neg h)
instance : Add Pol := ⟨Pol.add⟩
instance : Mul Pol := ⟨Pol.mul⟩
instance : Neg Pol := ⟨Pol.neg⟩
def Pol.o : Pol := mk []
def Pol.i : Pol := mk [(0, 1)]
def mono (e c : Int) : Pol := mk [(e, c)]
theorem mk_append (P Q : Tms) : mk (P ++ Q) = mk P + mk Q := rfl
theorem mk_cons (p : Int × Int) (P : Tms) : mk (p :: P) = mono p.1 p.2 + mk P := rfl
theorem Pol.add_comm (x y : Pol) : x + y = y + x := by
  induction x using Pol.ind with | _ P =>
  induction y using Pol.ind with | _ Q =>
  exact mk_eq fun φ => by rw [ev_append, ev_append, Int.add_comm]
theorem Pol.add_assoc (x y z : Pol) : x + y + z = x + (y + z) := by
  induction x using Pol.ind with | _ P =>
  induction y using Pol.ind with | _ Q =>
  induction z using Pol.ind with | _ R =>
  exact mk_eq fun φ => by simp only [ev_append, Int.add_assoc]
theorem Pol.add_zero (x : Pol) : x + Pol.o = x := by
  induction x using Pol.ind with | _ P =>
  exact mk_eq fun φ => by rw [List.append_nil]
theorem Pol.zero_add (x : Pol) : Pol.o + x = x := by rw [Pol.add_comm, Pol.add_zero]
theorem Pol.mul_comm (x y : Pol) : x * y = y * x := by
  induction x using Pol.ind with | _ P =>
  induction y using Pol.ind with | _ Q =>
  exact mk_eq fun φ => by rw [ev_prodT, ev_prodT, ev_swap]; simp only [Int.add_comm]
theorem Pol.mul_assoc (x y z : Pol) : x * y * z = x * (y * z) := by
  induction x using Pol.ind with | _ P =>
  induction y using Pol.ind with | _ Q =>
  induction z using Pol.ind with | _ R =>
  exact mk_eq fun φ => by simp only [ev_prodT, wr_wr, wr_add2, Int.add_assoc]
theorem Pol.mul_add (x y z : Pol) : x * (y + z) = x * y + x * z := by
  induction x using Pol.ind with | _ P =>
  induction y using Pol.ind with | _ Q =>
  induction z using Pol.ind with | _ R =>
  exact mk_eq fun φ => by simp only [ev_prodT, ev_append, ev_add]
theorem Pol.add_mul (x y z : Pol) : (x + y) * z = x * z + y * z := by rw [Pol.mul_comm, Pol.mul_add, Pol.mul_comm z x, Pol.mul_comm z y]
theorem Pol.mul_zero (x : Pol) : x * Pol.o = Pol.o := by
  induction x using Pol.ind with | _ P =>
  exact mk_eq fun φ => by rw [ev_prodT]; simp only [ev]; rw [ev_zero]
theorem Pol.zero_mul (x : Pol) : Pol.o * x = Pol.o := by rw [Pol.mul_comm, Pol.mul_zero]
theorem Pol.mul_one (x : Pol) : x * Pol.i = x := by
  induction x using Pol.ind with | _ P =>
  refine mk_eq fun φ => ?_
  rw [ev_prodT]
  have e : ∀ Q : Tms, ev Q (fun x => ev [(0, 1)] (fun y => φ (wr (x + y)))) = ev Q φ := by
    intro Q
    induction Q with
    | nil => rfl
    | cons q Q ih =>
      have h0 : wr 0 = 0 := wr_id (by omega)
      show q.2 * (1 * φ (wr (wr q.1 + wr 0)) + 0) + _ = q.2 * φ (wr q.1) + _
      rw [h0, show wr (wr q.1 + 0) = wr q.1 from by rw [Int.add_zero, wr_idem], ih, Int.one_mul, Int.add_zero]
  rw [e]
theorem Pol.one_mul (x : Pol) : Pol.i * x = x := by rw [Pol.mul_comm, Pol.mul_one]
instance : Std.Associative (α := Pol) (· + ·) := ⟨Pol.add_assoc⟩
instance : Std.Commutative (α := Pol) (· + ·) := ⟨Pol.add_comm⟩
instance : Std.Associative (α := Pol) (· * ·) := ⟨Pol.mul_assoc⟩
instance : Std.Commutative (α := Pol) (· * ·) := ⟨Pol.mul_comm⟩
theorem mono_congr {e e' c c' : Int} (he : wr e = wr e') (hc : md c = md c') : mono e c = mono e' c' := mk_eq fun φ => by
  show md (c * φ (wr e) + 0) = md (c' * φ (wr e') + 0)
  rw [he]
  exact md_add (md_mul hc rfl) rfl
theorem mono_zero (e : Int) : mono e 0 = Pol.o := mk_eq fun φ => by simp [ev]
theorem mono_add (e c d : Int) : mono e (c + d) = mono e c + mono e d := mk_eq fun φ => by
  show md ((c + d) * φ (wr e) + 0) = md (c * φ (wr e) + (d * φ (wr e) + 0))
  rw [Int.add_mul]; congr 1; omega
theorem mk_perm {P Q : Tms} (h : P.Perm Q) : mk P = mk Q := by
  induction h with
  | nil => rfl
  | cons x _ ih => rw [mk_cons, mk_cons, ih]
  | swap x y l => simp only [mk_cons]; rw [← Pol.add_assoc, ← Pol.add_assoc, Pol.add_comm (mono y.1 y.2)]
  | trans _ _ h1 h2 => exact h1.trans h2
structure Tm where
  e : Int
  c : Int
instance : Inhabited Tm := ⟨⟨0, 0⟩⟩
def pr (l : List Tm) : Tms := l.map fun t => (t.e, t.c)
def Can (l : List Tm) : Prop := l.Pairwise (fun s t => s.e < t.e) ∧ ∀ t ∈ l, t.c ≠ 0 ∧ wr t.c = t.c ∧ wr t.e = t.e
theorem Can.nil_ : Can [] := ⟨List.Pairwise.nil, by simp⟩
theorem Can.tail {t : Tm} {l : List Tm} (h : Can (t :: l)) : Can l := ⟨(List.pairwise_cons.1 h.1).2, fun s hs => h.2 s (by simp [hs])⟩
theorem cf_pr_zero {l : List Tm} (h : ∀ t ∈ l, wr t.e = t.e) {k : Int} (hk : ∀ t ∈ l, t.e ≠ k) : cf (pr l) k = 0 := by
  induction l with
  | nil => rfl
  | cons t l ih =>
    rw [show pr (t :: l) = (t.e, t.c) :: pr l from rfl, cf_cons, ih (fun s hs => h s (by simp [hs])) (fun s hs => hk s (by simp [hs]))]
    simp only [h t (by simp)]
    rw [if_neg (hk t (by simp))]; rfl
theorem can_cf {l : List Tm} (h : Can l) {t : Tm} (ht : t ∈ l) : cf (pr l) t.e = t.c := by
  induction l with
  | nil => simp at ht
  | cons s l ih =>
    rw [show pr (s :: l) = (s.e, s.c) :: pr l from rfl, cf_cons]
    simp only [(h.2 s (by simp)).2.2]
    have hs := (List.pairwise_cons.1 h.1).1
    rcases List.mem_cons.1 ht with rfl | ht
    · rw [if_pos rfl, cf_pr_zero (fun u hu => (h.2 u (by simp [hu])).2.2) (fun u hu e => by have := hs u hu; omega)]; omega
    · rw [if_neg (fun e => by have := hs t ht; omega), ih h.tail ht]; omega
theorem can_mem {l : List Tm} (h : Can l) {k : Int} (hk : cf (pr l) k ≠ 0) : (⟨k, cf (pr l) k⟩ : Tm) ∈ l := by
  by_cases he : ∃ t ∈ l, t.e = k
  · obtain ⟨t, ht, rfl⟩ := he
    rw [can_cf h ht]; exact ht
  · exact absurd (cf_pr_zero (fun u hu => (h.2 u hu).2.2) (fun t ht e => he ⟨t, ht, e⟩)) hk
theorem can_sub {a b : List Tm} (ha : Can a) (hb : Can b) (h : mk (pr a) = mk (pr b)) {t : Tm} (ht : t ∈ a) : t ∈ b := by
  have h1 := can_cf ha ht
  have h2 : md (cf (pr a) t.e) = md (cf (pr b) t.e) := mk_eqv h _
  obtain ⟨c1, c2, c3⟩ := ha.2 t ht
  rw [h1] at h2
  have hne : cf (pr b) t.e ≠ 0 := fun e0 => c1 (md_range c2 (by rw [h2, e0]; rfl))
  have hm := can_mem hb hne
  have h3 : cf (pr b) t.e = t.c := by
    have := (hb.2 _ hm).2.1
    have h4 : wr (cf (pr b) t.e) = wr t.c := wr_md.2 h2.symm
    exact this.symm.trans (h4.trans c2)
  rw [h3] at hm
  exact hm
theorem sorted_ext : ∀ {a b : List Tm}, a.Pairwise (fun s t => s.e < t.e) → b.Pairwise (fun s t => s.e < t.e) → (∀ t, t ∈ a ↔ t ∈ b) → a = b
  | [], [], _, _, _ => rfl
  | [], t :: b, _, _, h => by have := (h t).2 (by simp); simp at this
  | t :: a, [], _, _, h => by have := (h t).1 (by simp); simp at this
  | s :: a, t :: b, ha, hb, h => by
    obtain ⟨a1, a2⟩ := List.pairwise_cons.1 ha
    obtain ⟨b1, b2⟩ := List.pairwise_cons.1 hb
    have hst : s = t := by
      have h1 := (h s).1 (by simp)
      have h2 := (h t).2 (by simp)
      rcases List.mem_cons.1 h1 with e | h1
      · exact e
      · rcases List.mem_cons.1 h2 with e | h2
        · exact e.symm
        · have := a1 t h2; have := b1 s h1; omega
    subst hst
    refine congrArg _ (sorted_ext a2 b2 fun u => ⟨fun hu => ?_, fun hu => ?_⟩)
    · rcases List.mem_cons.1 ((h u).1 (by simp [hu])) with e | h1
      · subst e; have := a1 u hu; omega
      · exact h1
    · rcases List.mem_cons.1 ((h u).2 (by simp [hu])) with e | h1
      · subst e; have := b1 u hu; omega
      · exact h1
theorem can_ext {a b : List Tm} (ha : Can a) (hb : Can b) (h : mk (pr a) = mk (pr b)) : a = b :=
  sorted_ext ha.1 hb.1 fun _ => ⟨can_sub ha hb h, can_sub hb ha h.symm⟩
/-- A term put into a polynomial in form. -/
def put : List Tm → Int → Int → List Tm
  | [], e, c => if c = 0 then [] else [⟨e, c⟩]
  | t :: l, e, c => if c = 0 then t :: l else if t.e < e then t :: put l e c else if t.e = e then (if wr (t.c + c) = 0 then l else ⟨e, wr (t.c + c)⟩ :: l) else ⟨e, c⟩ :: t :: l
theorem put_zero (l : List Tm) (e : Int) : put l e 0 = l := by cases l <;> simp [put]
theorem mk_put (l : List Tm) (e c : Int) : mk (pr (put l e c)) = mk (pr l) + mono e c := by
  induction l with
  | nil =>
    unfold put
    split
    · rename_i h; subst h; rw [mono_zero, Pol.add_zero]
    · show mono e c + Pol.o = Pol.o + mono e c
      rw [Pol.add_comm]
  | cons t l ih =>
    unfold put
    split
    · rename_i h; subst h; rw [mono_zero, Pol.add_zero]
    · split
      · show mono t.e t.c + mk (pr (put l e c)) = mono t.e t.c + mk (pr l) + mono e c
        rw [ih, Pol.add_assoc]
      · split
        · rename_i he
          subst he
          have h1 : mono t.e (wr (t.c + c)) = mono t.e t.c + mono t.e c := by rw [← mono_add]; exact mono_congr rfl (md_wr _)
          split
          · rename_i h0
            show mk (pr l) = mono t.e t.c + mk (pr l) + mono t.e c
            rw [h0, mono_zero] at h1
            rw [Pol.add_assoc, Pol.add_comm (mk (pr l)), ← Pol.add_assoc, ← h1, Pol.zero_add]
          · show mono t.e (wr (t.c + c)) + mk (pr l) = mono t.e t.c + mk (pr l) + mono t.e c
            rw [h1, Pol.add_assoc, Pol.add_assoc, Pol.add_comm (mono t.e c)]
        · show mono e c + (mono t.e t.c + mk (pr l)) = mono t.e t.c + mk (pr l) + mono e c
          rw [Pol.add_comm]
theorem put_mem {l : List Tm} {e c : Int} {u : Tm} (hu : u ∈ put l e c) : u.e = e ∨ u ∈ l := by
  induction l with
  | nil =>
    unfold put at hu
    split at hu
    · simp at hu
    · simp at hu; subst hu; exact .inl rfl
  | cons t l ih =>
    unfold put at hu
    split at hu
    · exact .inr hu
    · split at hu
      · rcases List.mem_cons.1 hu with h | h
        · subst h; exact .inr (by simp)
        · rcases ih h with h | h
          · exact .inl h
          · exact .inr (by simp [h])
      · split at hu
        · split at hu
          · exact .inr (by simp [hu])
          · rcases List.mem_cons.1 hu with h | h
            · subst h; exact .inl rfl
            · exact .inr (by simp [h])
        · rcases List.mem_cons.1 hu with h | h
          · subst h; exact .inl rfl
          · exact .inr h
theorem put_can {l : List Tm} (h : Can l) {e c : Int} (he : wr e = e) (hc : wr c = c) : Can (put l e c) := by
  induction l with
  | nil =>
    unfold put
    split
    · exact Can.nil_
    · rename_i h0
      exact ⟨List.pairwise_singleton _ _, fun t ht => by simp at ht; subst ht; exact ⟨h0, hc, he⟩⟩
  | cons t l ih =>
    obtain ⟨h1, h2⟩ := List.pairwise_cons.1 h.1
    have ih := ih h.tail
    unfold put
    split
    · exact h
    · rename_i h0
      split
      · rename_i hlt
        refine ⟨List.pairwise_cons.2 ⟨fun u hu => ?_, ih.1⟩, fun u hu => ?_⟩
        · rcases put_mem hu with e' | h'
          · omega
          · exact h1 u h'
        · rcases List.mem_cons.1 hu with e' | h'
          · subst e'; exact h.2 _ (by simp)
          · exact ih.2 u h'
      · split
        · rename_i hle heq
          split
          · exact h.tail
          · rename_i hn
            refine ⟨List.pairwise_cons.2 ⟨fun u hu => ?_, h2⟩, fun u hu => ?_⟩
            · have := h1 u hu; show e < u.e; omega
            · rcases List.mem_cons.1 hu with e' | h'
              · subst e'; exact ⟨hn, wr_idem _, he⟩
              · exact h.2 u (by simp [h'])
        · rename_i hle hne
          refine ⟨List.pairwise_cons.2 ⟨fun u hu => ?_, h.1⟩, fun u hu => ?_⟩
          · show e < u.e
            rcases List.mem_cons.1 hu with e' | h'
            · subst e'; omega
            · have := h1 u h'; omega
          · rcases List.mem_cons.1 hu with e' | h'
            · subst e'; exact ⟨h0, hc, he⟩
            · exact h.2 u h'
end Go.Proofs.Ytkcighnochjlgaa
namespace Go.Proofs.Ytkcighnochjlgaa
/-- How many of a set lie below. -/
def bl (S : Nat → Bool) : Nat → Nat
  | 0 => 0
  | c + 1 => bl S c + if S c = true then 1 else 0
section
variable (m : Nat → Nat → Pol) (N : Nat)
variable {m N}
end
instance : Inhabited Pol := ⟨Pol.o⟩
end Go.Proofs.Ytkcighnochjlgaa
namespace Go.Proofs.Ytkcighnochjlgaa
open Go.ChangeShapes Go.WideShapes Go.ChangeAt Go.RowKit
open Go.ChangeMaps (setBlock)
theorem MpOk.mono {κ ε : Type} {kc : κ → Value} {vc : ε → Value} {g : Nat} {es : List (κ × ε)} {N N' : Hp} (h : MpOk kc vc g es N) (k : N.le N') : MpOk kc vc g es N' := by
  obtain ⟨arr, clock, h1, h2, h3⟩ := h
  exact ⟨arr, clock, k _ _ h1, h2, h3⟩
/-- An iterator over a map that stays as it is. -/
def Rs.itr (g clock r : Nat) (seen : Array Nat) : Rs := ⟨[r], fun h => h r = some (.mapIter (some g) clock seen clock), fun h h' hb hk => by rw [hb r (by simp)]; exact hk⟩
section
variable {κ ε : Type}
/-- The map's entries. -/
def MpEs (kc : κ → Value) (vc : ε → Value) (N : Hp) (g : Nat) (arr : Array MapEntry) (clock : Nat) (es : List (κ × ε)) : Prop := N g = some (.map arr clock) ∧ arr.toList.map (fun e => (e.key, e.val)) = es.map (fun p => (kc p.1, vc p.2)) ∧ Stm arr clock
/-- What is left to come. -/
def Lft (kc : κ → Value) (vc : ε → Value) (arr : Array MapEntry) (seen : Array Nat) (lf : List (κ × ε)) : Prop := (leftOf arr seen).toList.map (fun e => (e.key, e.val)) = lf.map (fun p => (kc p.1, vc p.2))
/-- The entry that came last. -/
def Lst (kc : κ → Value) (vc : ε → Value) (arr : Array MapEntry) (seen : Array Nat) (k : κ) (v : ε) : Prop := ∃ (e : MapEntry) (s0 : Array Nat), seen = s0.push e.born ∧ e ∈ arr.toList ∧ e.key = kc k ∧ e.val = vc v
variable {kc : κ → Value} {vc : ε → Value} {N : Hp} {arr : Array MapEntry} {clock g : Nat} {es lf : List (κ × ε)} {seen : Array Nat}
theorem MpEs.mono {N' : Hp} (h : MpEs kc vc N g arr clock es) (k : N.le N') : MpEs kc vc N' g arr clock es := ⟨k _ _ h.1, h.2⟩
theorem MpOk.ents (h : MpOk kc vc g es N) : ∃ arr clock, MpEs kc vc N g arr clock es := by
  obtain ⟨arr, clock, h⟩ := h
  exact ⟨arr, clock, h⟩
theorem left_empty (arr : Array MapEntry) : leftOf arr #[] = arr := by unfold leftOf; simp
theorem MpEs.lft (h : MpEs kc vc N g arr clock es) : Lft kc vc arr #[] es := by unfold Lft; rw [left_empty]; exact h.2.1
theorem left_push (arr : Array MapEntry) (seen : Array Nat) (b : Nat) : (leftOf arr (seen.push b)).toList = (leftOf arr seen).toList.filter fun e => !decide (e.born = b) := by
  unfold leftOf
  rw [Array.toList_filter, Array.toList_filter, List.filter_filter]
  refine List.filter_congr fun x _ => ?_
  have e : (seen.push b).contains x.born = (seen.contains x.born || decide (x.born = b)) := by
    rw [Bool.eq_iff_iff]
    simp [Array.mem_push]
  rw [e, Bool.not_or, Bool.and_comm]
theorem filter_one {l : List MapEntry} (hn : (l.map (·.born)).Nodup) {e : MapEntry} (he : e ∈ l) : ∃ a b, l = a ++ e :: b ∧ (l.filter fun x => !decide (x.born = e.born)) = a ++ b := by
  obtain ⟨a, b, rfl⟩ := List.append_of_mem he
  refine ⟨a, b, rfl, ?_⟩
  rw [List.map_append, List.map_cons] at hn
  obtain ⟨n1, n2, n3⟩ := List.nodup_append.1 hn
  rw [List.filter_append, List.filter_cons_of_neg (by simp)]
  have h1 : (a.filter fun x => !decide (x.born = e.born)) = a := List.filter_eq_self.2 fun x hx => by
    have := n3 x.born (List.mem_map.2 ⟨x, hx, rfl⟩) e.born (by simp)
    simp [this]
  have h2 : (b.filter fun x => !decide (x.born = e.born)) = b := List.filter_eq_self.2 fun x hx => by
    have := (List.nodup_cons.1 n2).1
    have hne : x.born ≠ e.born := fun e' => this (by rw [← e']; exact List.mem_map.2 ⟨x, hx, rfl⟩)
    simp [hne]
  rw [h1, h2]
theorem split_map : ∀ {a : List MapEntry} {e : MapEntry} {b : List MapEntry} {lf : List (κ × ε)}, (a ++ e :: b).map (fun e => (e.key, e.val)) = lf.map (fun p => (kc p.1, vc p.2)) → ∃ l1 p l2, lf = l1 ++ p :: l2 ∧ e.key = kc p.1 ∧ e.val = vc p.2 ∧ (a ++ b).map (fun e => (e.key, e.val)) = (l1 ++ l2).map (fun p => (kc p.1, vc p.2))
  | [], e, b, [], h => by simp at h
  | [], e, b, p :: lf, h => by
    simp only [List.nil_append, List.map_cons, List.cons.injEq, Prod.mk.injEq] at h
    exact ⟨[], p, lf, rfl, h.1.1, h.1.2, h.2⟩
  | x :: a, e, b, [], h => by simp at h
  | x :: a, e, b, q :: lf, h => by
    simp only [List.cons_append, List.map_cons, List.cons.injEq] at h
    obtain ⟨l1, p, l2, rfl, h1, h2, h3⟩ := split_map h.2
    exact ⟨q :: l1, p, l2, rfl, h1, h2, by simp only [List.cons_append, List.map_cons, h.1, h3]⟩
section
variable {P : Program} {o : Oper} {L : List (Nat × Value)} {w : World} {x : Operand} {T K E : TypeId} {n d r i : Nat} {Kt : List (Nat × Value) → World → Prop} {M : Hp} {X : Fr} {H : List Rs}
theorem wo_range (hop : o.op = .range T x) (hd : o.dst = some d) (hn : Nat.blt d n = true) (hx : oev L x = some (.map (some g))) (hu : P.underlying T = some (.map K E)) (S : SH w M X H) (hg : MpEs kc vc N g arr clock es) (hN : N.le (hp w))
    (h : ∀ r w', SH w' M X (Rs.itr g clock r #[] :: H) → Kt ((d, .pointer (some ⟨r, 0, none⟩)) :: L) w') : WO P n o L w Kt := by
  have hg' : w.heap[g]? = some (.map arr clock) := hN _ _ hg.1
  refine wo_run (v := .pointer (some ⟨w.heap.size, 0, none⟩)) (w' := w.alloc (.mapIter (some g) clock #[] clock)) hd hn ?_ (h _ _ ?_)
  · intro n c he
    unfold execOp
    simp only [hop, he.eval hx, run_range_map w T K E g arr clock hu hg', Sem.run_bind, Result.andThen_ok, Sem.run_pure]
  · exact S.cons (like_alloc w _) (keep_alloc w _) (heap_alloc_new w _) (fun b hb => by simp [Rs.itr] at hb; subst hb; rw [size_al]; omega)
theorem wo_next (hop : o.op = .next x false) (hd : o.dst = some d) (hn : Nat.blt d n = true) (hx : oev L x = some (.pointer (some ⟨r, 0, none⟩))) (S : SH w M X H) (hi : nth H i = some (Rs.itr g clock r seen)) (hg : MpEs kc vc N g arr clock es) (hN : N.le (hp w)) (hl : Lft kc vc arr seen lf)
    (h0 : lf = [] → Kt ((d, .tuple [.bool false].toArray) :: L) w)
    (h1 : ∀ k v l1 l2 seen' w', lf = l1 ++ (k, v) :: l2 → Lft kc vc arr seen' (l1 ++ l2) → Lst kc vc arr seen' k v → SH w' M X (H.set i (Rs.itr g clock r seen')) → Kt ((d, .tuple [.bool true, kc k, vc v].toArray) :: L) w') : WO P n o L w Kt := by
  have hg' : w.heap[g]? = some (.map arr clock) := hN _ _ hg.1
  have hr : w.heap[r]? = some (.mapIter (some g) clock seen clock) := S.get hi
  rcases run_next_at (P := P) w o.type r g clock clock seen arr clock hr hg' hg.2.2.2 (Nat.le_refl _) with ⟨e0, hrun⟩ | ⟨e, he, w1, hal, hrun⟩
  · refine wo_run (v := .tuple #[.bool false]) (w' := w) hd hn ?_ (h0 ?_)
    · intro n c he
      unfold execOp
      simp only [hop, he.eval hx, hrun, Sem.run_bind, Result.andThen_ok, Sem.run_pure]
    · have : leftOf arr seen = #[] := Array.eq_empty_of_size_eq_zero e0
      unfold Lft at hl
      rw [this] at hl
      cases lf with
      | nil => rfl
      | cons p l => simp at hl
  · obtain ⟨hem, _⟩ := mem_left he
    have hsub : ((leftOf arr seen).toList.map (·.born)).Nodup := by
      unfold leftOf; rw [Array.toList_filter]
      exact List.Nodup.sublist (List.Sublist.map _ List.filter_sublist) hg.2.2.1
    obtain ⟨a, b, hab, hf⟩ := filter_one hsub he
    unfold Lft at hl
    rw [hab] at hl
    obtain ⟨l1, p, l2, hlf, hk, hv, hl'⟩ := split_map hl
    have hrun' : (Instr.next (.pointer (some ⟨r, 0, none⟩)) false o.type).run P w = .ok (.tuple [.bool true, kc p.1, vc p.2].toArray) (setBlock w1 r (.mapIter (some g) clock (seen.push e.born) clock)) := by rw [hrun, hk, hv]
    have hr1 : w1.heap[r]? = some (.mapIter (some g) clock seen clock) := by rcases hal with rfl | rfl <;> exact hr
    have hset := Go.MapKept.heap_set (o' := .mapIter (some g) clock (seen.push e.born) clock) hr1
    have hlike : Like w w1 := by rcases hal with rfl | rfl <;> exact ⟨rfl, rfl, rfl, Nat.le_refl _⟩
    have hheap : w1.heap = w.heap := by rcases hal with rfl | rfl <;> rfl
    have hsz : (setBlock w1 r (.mapIter (some g) clock (seen.push e.born) clock)).heap.size = w1.heap.size := by simp [setBlock]
    refine wo_run (v := .tuple [.bool true, kc p.1, vc p.2].toArray) (w' := setBlock w1 r (.mapIter (some g) clock (seen.push e.born) clock)) hd hn ?_ (h1 p.1 p.2 l1 l2 (seen.push e.born) _ hlf ?_ ⟨e, seen, rfl, hem, hk, hv⟩ ?_)
    · intro n c he
      unfold execOp
      simp only [hop, he.eval hx, hrun', Sem.run_bind, Result.andThen_ok, Sem.run_pure]
    · unfold Lft
      rw [left_push, hf]
      exact hl'
    · refine S.step hi rfl (hlike.trans ⟨rfl, rfl, rfl, by rw [hsz]; exact Nat.le_refl _⟩) (fun b _ hb => ?_) hset.1 (fun b hb => ⟨.inl hb, ?_⟩)
      · have hne : b ≠ r := by simpa [Rs.itr] using hb
        show (setBlock w1 r _).heap[b]? = w.heap[b]?
        exact (hset.2 b hne).trans (by rw [hheap])
      · simp [Rs.itr] at hb
        subst hb
        rw [hsz, hheap]
        exact hp_lt hr
theorem run_entry (hop : o.op = .entry x) (hx : oev L x = some (.pointer (some ⟨r, 0, none⟩))) (S : SH w M X H) (hi : nth H i = some (Rs.itr g clock r seen)) (hg : MpEs kc vc N g arr clock es) (hN : N.le (hp w)) {k : κ} {v : ε} (hl : Lst kc vc arr seen k v) : Run P o L w (.tuple [kc k, vc v].toArray) w := by
  have hg' : w.heap[g]? = some (.map arr clock) := hN _ _ hg.1
  obtain ⟨e, s0, rfl, he, hk, hv⟩ := hl
  have hr : w.heap[r]? = some (.mapIter (some g) clock (s0.push e.born) clock) := S.get hi
  have hrun := run_entry_at (P := P) w r g clock s0 arr clock e hr hg' he hg.2.2.1
  rw [hk, hv] at hrun
  intro n c he
  unfold execOp
  simp only [hop, he.eval hx, hrun, Sem.run_bind, Result.andThen_ok, Sem.run_pure]
theorem one_sh (hm : MpOk kc vc g es (hp w)) : SH w (fun _ => none) ⟨fun _ => none, w⟩ [Rs.mp kc vc g es] := by
  refine ⟨fun _ _ h => by simp at h, fun _ _ h => by simp at h, fun _ _ h => by simp at h, fun r hr => ?_, fun r hr b hb => ?_, fun i j r s hij h1 h2 => ?_, Like.refl w⟩
  · rw [List.mem_singleton] at hr; subst hr; exact hm
  · rw [List.mem_singleton] at hr; subst hr
    obtain ⟨arr, clock, h1, _⟩ := hm
    simp [Rs.mp] at hb; subst hb
    exact ⟨hp_lt h1, rfl, rfl⟩
  · have h1 := (List.getElem?_eq_some_iff.1 h1).1
    have h2 := (List.getElem?_eq_some_iff.1 h2).1
    simp at h1 h2; omega
/-- A lookup in a map that lasts. -/
theorem lookM [DecidableEq κ] {k : κ} {zv : ε} (hm : MpOk kc vc g es (hp w)) (hu : P.underlying T = some (.map K E)) (hK : MapK P K kc) (hz : (P.info? E).map (·.zero) = some (some (vc zv))) : (Instr.lookup T (.map (some g)) (kc k) false).run P w = .ok (vc ((mg k es).getD zv)) w :=
  (SH.look (i := 0) (H := [Rs.mp kc vc g es]) (M := fun _ => none) (X := ⟨fun _ => none, w⟩) (one_sh hm) rfl hu hK hz).1
theorem run_lookupM [DecidableEq κ] {y : Operand} {k : κ} {zv : ε} (hop : o.op = .lookup T x y false) (hx : oev L x = some (.map (some g))) (hy : oev L y = some (kc k)) (hu : P.underlying T = some (.map K E)) (hK : MapK P K kc) (hz : (P.info? E).map (·.zero) = some (some (vc zv))) (hm : MpOk kc vc g es N) (hN : N.le (hp w)) : Run P o L w (vc ((mg k es).getD zv)) w := by
  intro n c he
  unfold execOp
  simp only [hop, he.eval hx, he.eval hy, lookM (hm.mono hN) hu hK hz, Sem.run_bind, Result.andThen_ok, Sem.run_pure]
/-- A map of the call's own lasts from now on. -/
theorem SH.pubmap {H' : List Rs} (S : SH w M X H) (hi : nth H i = some (Rs.mp kc vc g es)) (hH : H.set i Rs.emp = H') : ∃ M', M.le M' ∧ SH w M' X H' ∧ MpOk kc vc g es M' := by
  obtain ⟨h1, h2, h3⟩ := S.pub hi hH
  have h4 : MpOk kc vc g es (hp w) := S.get hi
  obtain ⟨arr, clock, e, h5⟩ := h4
  exact ⟨_, h1, h2, arr, clock, (h3 g (by simp [Rs.mp])).trans e, h5⟩
end
end
section
variable {P : Program} {o : Oper} {L : List (Nat × Value)} {w : World} {x y : Operand} {t t' : TypeId} {a b : Int}
end
end Go.Proofs.Ytkcighnochjlgaa
namespace Go.Proofs.Ytkcighnochjlgaa
open Go.ChangeShapes Go.WideShapes Go.ChangeAt Go.RowKit
def Bd (l : List Tm) (B : Nat) : Prop := ∀ t ∈ l, -(B : Int) ≤ t.e ∧ t.e ≤ B
theorem Bd.mono {l : List Tm} {B C : Nat} (h : Bd l B) (k : B ≤ C) : Bd l C := fun t ht => by have := h t ht; omega
theorem put_bd {l : List Tm} {B : Nat} (h : Bd l B) {e c : Int} (he : -(B : Int) ≤ e ∧ e ≤ B) : Bd (put l e c) B := fun t ht => by
  rcases put_mem ht with e1 | h1
  · rw [e1]; exact he
  · exact h t h1
theorem inc_len : ∀ {ks : List Int} {lo hi : Int}, ks.Pairwise (fun a b => a < b) → (∀ k ∈ ks, lo ≤ k ∧ k ≤ hi) → lo ≤ hi + 1 → (ks.length : Int) ≤ hi - lo + 1
  | [], lo, hi, _, _, h => by simp; omega
  | k :: ks, lo, hi, hp, hb, h => by
    obtain ⟨h1, h2⟩ := List.pairwise_cons.1 hp
    have hk := hb k (by simp)
    have := inc_len (lo := k + 1) (hi := hi) h2 (fun j hj => ⟨by have := h1 j hj; omega, (hb j (by simp [hj])).2⟩) (by omega)
    simp only [List.length_cons]
    omega
theorem can_len {l : List Tm} {B : Nat} (h : Can l) (hb : Bd l B) : l.length ≤ 2 * B + 1 := by
  have := inc_len (ks := l.map (·.e)) (lo := -(B : Int)) (hi := B) (by rw [List.pairwise_map]; exact h.1) (fun k hk => by
    obtain ⟨t, ht, rfl⟩ := List.mem_map.1 hk
    exact hb t ht) (by omega)
  rw [List.length_map] at this
  omega
def Ents (es : List (Int × Int)) (B : Nat) : Prop := (es.map Prod.fst).Nodup ∧ ∀ q ∈ es, (-(B : Int) ≤ q.1 ∧ q.1 ≤ B) ∧ wr q.2 = q.2
theorem Ents.nil_ (B : Nat) : Ents [] B := ⟨by simp, by simp⟩
theorem Ents.mono {es : List (Int × Int)} {B C : Nat} (h : Ents es B) (k : B ≤ C) : Ents es C := ⟨h.1, fun q hq => by have := h.2 q hq; exact ⟨by omega, this.2⟩⟩
theorem mp_mem {k v : Int} {es : List (Int × Int)} {q : Int × Int} (h : q ∈ mp k v es) : q = (k, v) ∨ q ∈ es := by
  induction es with
  | nil => simp [mp] at h; exact .inl h
  | cons p r ih =>
    unfold mp at h
    split at h
    · rcases List.mem_cons.1 h with e | h
      · exact .inl e
      · exact .inr (by simp [h])
    · rcases List.mem_cons.1 h with e | h
      · exact .inr (by simp [e])
      · rcases ih h with e | h
        · exact .inl e
        · exact .inr (by simp [h])
theorem mp_keys (k v : Int) (es : List (Int × Int)) : (mp k v es).map Prod.fst = if k ∈ es.map Prod.fst then es.map Prod.fst else es.map Prod.fst ++ [k] := by
  induction es with
  | nil => simp [mp]
  | cons p r ih =>
    unfold mp
    by_cases h : k = p.1
    · rw [if_pos h]; simp [h]
    · rw [if_neg h, List.map_cons, ih]
      by_cases h2 : k ∈ r.map Prod.fst
      · rw [if_pos h2, if_pos (by rw [List.map_cons]; exact List.mem_cons_of_mem _ h2), List.map_cons]
      · rw [if_neg h2, if_neg (by rw [List.map_cons]; intro h3; exact (List.mem_cons.1 h3).elim h h2), List.map_cons, List.cons_append]
theorem mp_ents {es : List (Int × Int)} {B : Nat} (h : Ents es B) {k v : Int} (hk : -(B : Int) ≤ k ∧ k ≤ B) (hv : wr v = v) : Ents (mp k v es) B := by
  refine ⟨?_, fun q hq => ?_⟩
  · rw [mp_keys]
    split
    · exact h.1
    · rename_i hn
      exact List.nodup_append.2 ⟨h.1, by simp, fun a ha b hb => by simp at hb; subst hb; exact fun e => hn (e ▸ ha)⟩
  · rcases mp_mem hq with rfl | hq
    · exact ⟨hk, hv⟩
    · exact h.2 q hq
theorem mk_mp (k v : Int) (es : List (Int × Int)) : mk (mp k v es) = mk es + mono k (v - (mg k es).getD 0) := by
  induction es with
  | nil =>
    show mk [(k, v)] = Pol.o + mono k (v - 0)
    rw [Pol.zero_add, Int.sub_zero]; rfl
  | cons p r ih =>
    unfold mp mg
    by_cases h : k = p.1
    · rw [if_pos h, if_pos h, mk_cons, mk_cons]
      subst h
      show mono p.1 v + mk r = mono p.1 p.2 + mk r + mono p.1 (v - p.2)
      rw [Pol.add_assoc, Pol.add_comm (mk r), ← Pol.add_assoc, ← mono_add, show p.2 + (v - p.2) = v by omega]
    · rw [if_neg h, if_neg h, mk_cons, mk_cons, ih, Pol.add_assoc]
theorem mk_mp_add (k c : Int) (es : List (Int × Int)) : mk (mp k (wr ((mg k es).getD 0 + c)) es) = mk es + mono k c := by
  rw [mk_mp]
  refine congrArg _ (mono_congr rfl ?_)
  have h1 := md_add (md_wr ((mg k es).getD 0 + c)) (rfl : md (-(mg k es).getD 0) = _)
  rw [show wr ((mg k es).getD 0 + c) - (mg k es).getD 0 = wr ((mg k es).getD 0 + c) + -(mg k es).getD 0 by omega, h1]
  congr 1; omega
theorem mg_mem {es : List (Int × Int)} (h : (es.map Prod.fst).Nodup) {q : Int × Int} (hq : q ∈ es) : (mg q.1 es).getD 0 = q.2 := by
  induction es with
  | nil => simp at hq
  | cons p r ih =>
    obtain ⟨h1, h2⟩ := List.nodup_cons.1 (by simpa using h : (p.1 :: r.map Prod.fst).Nodup)
    unfold mg
    rcases List.mem_cons.1 hq with rfl | hq
    · rw [if_pos rfl]; rfl
    · rw [if_neg (fun e => h1 (by rw [← e]; exact List.mem_map.2 ⟨q, hq, rfl⟩))]
      exact ih h2 hq
theorem mg_none {es : List (Int × Int)} {k : Int} (h : k ∉ es.map Prod.fst) : (mg k es).getD 0 = 0 := by
  induction es with
  | nil => rfl
  | cons p r ih =>
    unfold mg
    rw [if_neg (fun e => h (by simp [e]))]
    exact ih fun h2 => h (by rw [List.map_cons]; exact List.mem_cons_of_mem _ h2)
theorem mg_rng {es : List (Int × Int)} {B : Nat} (h : Ents es B) (k : Int) : wr ((mg k es).getD 0) = (mg k es).getD 0 := by
  by_cases hk : k ∈ es.map Prod.fst
  · obtain ⟨q, hq, rfl⟩ := List.mem_map.1 hk
    rw [mg_mem h.1 hq]; exact (h.2 q hq).2
  · rw [mg_none hk]; exact wr_id (by omega)
theorem srt_inc {ks : List Int} (h : ks.Nodup) : (srt ks).Pairwise (fun a b => a < b) := by
  have h1 : (srt ks).Pairwise (fun a b => decide (a ≤ b) = true) := List.pairwise_mergeSort (fun a b c h1 h2 => by simp at *; omega) (fun a b => by simp; omega) ks
  have h2 : (srt ks).Nodup := (srt_perm ks).nodup_iff.2 h
  exact (h1.and h2).imp fun {a b} h => by have := h.1; have := h.2; simp at *; omega
theorem ents_len {es : List (Int × Int)} {B : Nat} (h : Ents es B) : es.length ≤ 2 * B + 1 := by
  have := inc_len (ks := srt (es.map Prod.fst)) (lo := -(B : Int)) (hi := B) (srt_inc h.1) (fun k hk => by
    obtain ⟨q, hq, rfl⟩ := List.mem_map.1 (srt_mem.1 hk)
    exact (h.2 q hq).1) (by omega)
  rw [srt_len, List.length_map] at this
  omega
def fm (es : List (Int × Int)) (ks : List Int) : List Tm := ks.flatMap fun e => if (mg e es).getD 0 = 0 then [] else [⟨e, (mg e es).getD 0⟩]
theorem fm_snoc (es : List (Int × Int)) (ks : List Int) (e : Int) : fm es (ks ++ [e]) = fm es ks ++ (if (mg e es).getD 0 = 0 then [] else [⟨e, (mg e es).getD 0⟩]) := by
  unfold fm; rw [List.flatMap_append]; simp
theorem fm_mem {es : List (Int × Int)} {ks : List Int} {t : Tm} (h : t ∈ fm es ks) : t.e ∈ ks ∧ t.c = (mg t.e es).getD 0 ∧ t.c ≠ 0 := by
  obtain ⟨e, he, ht⟩ := List.mem_flatMap.1 h
  split at ht
  · simp at ht
  · rename_i h0
    simp at ht; subst ht; exact ⟨he, rfl, h0⟩
theorem fm_len (es : List (Int × Int)) (ks : List Int) : (fm es ks).length ≤ ks.length := by
  induction ks with
  | nil => simp [fm]
  | cons k ks ih =>
    have : fm es (k :: ks) = (if (mg k es).getD 0 = 0 then [] else [⟨k, (mg k es).getD 0⟩]) ++ fm es ks := by unfold fm; rw [List.flatMap_cons]
    rw [this, List.length_append, List.length_cons]
    split <;> simp <;> omega
theorem fm_inc {es : List (Int × Int)} : ∀ {ks : List Int}, ks.Pairwise (fun a b => a < b) → (fm es ks).Pairwise (fun s t => s.e < t.e)
  | [], _ => List.Pairwise.nil
  | k :: ks, h => by
    obtain ⟨h1, h2⟩ := List.pairwise_cons.1 h
    have e : fm es (k :: ks) = (if (mg k es).getD 0 = 0 then [] else [⟨k, (mg k es).getD 0⟩]) ++ fm es ks := by unfold fm; rw [List.flatMap_cons]
    rw [e]
    split
    · exact fm_inc h2
    · exact List.pairwise_cons.2 ⟨fun t ht => h1 _ (fm_mem ht).1, fm_inc h2⟩
theorem mk_fm (es : List (Int × Int)) (ks : List Int) : mk (pr (fm es ks)) = mk (ks.map fun e => (e, (mg e es).getD 0)) := by
  induction ks with
  | nil => rfl
  | cons k ks ih =>
    have e : fm es (k :: ks) = (if (mg k es).getD 0 = 0 then [] else [⟨k, (mg k es).getD 0⟩]) ++ fm es ks := by unfold fm; rw [List.flatMap_cons]
    rw [e, List.map_cons, mk_cons, ← ih]
    split
    · rename_i h0
      show mk (pr (fm es ks)) = mono k ((mg k es).getD 0) + _
      rw [h0, mono_zero, Pol.zero_add]
    · rfl
def formL (es : List (Int × Int)) : List Tm := fm es (srt (es.map Prod.fst))
theorem mk_formL {es : List (Int × Int)} {B : Nat} (h : Ents es B) : mk (pr (formL es)) = mk es := by
  unfold formL
  rw [mk_fm, mk_perm ((srt_perm (es.map Prod.fst)).map _), List.map_map]
  refine congrArg mk ?_
  conv => rhs; rw [← List.map_id es]
  refine List.map_congr_left fun q hq => ?_
  show (q.1, (mg q.1 es).getD 0) = q
  rw [mg_mem h.1 hq]
theorem formL_bd {es : List (Int × Int)} {B : Nat} (h : Ents es B) : Bd (formL es) B := fun t ht => by
  obtain ⟨q, hq, e⟩ := List.mem_map.1 (srt_mem.1 (fm_mem ht).1)
  rw [← e]; exact (h.2 q hq).1
theorem formL_can {es : List (Int × Int)} {B : Nat} (h : Ents es B) (hB : B ≤ 1099511627776) : Can (formL es) := by
  refine ⟨fm_inc (srt_inc h.1), fun t ht => ?_⟩
  obtain ⟨h1, h2, h3⟩ := fm_mem ht
  have := formL_bd h t ht
  exact ⟨h3, by rw [h2]; exact mg_rng h _, wr_id (by omega)⟩
def Wk (N : Hp) (g : Nat) (B : Nat) (p : Pol) : Prop := ∃ es, MpOk (Value.int .i64) (Value.int .i64) g es N ∧ Ents es B ∧ mk es = p
theorem Wk.mono {N N' : Hp} {g B : Nat} {p : Pol} (h : Wk N g B p) (k : N.le N') : Wk N' g B p := by
  obtain ⟨es, h1, h2⟩ := h
  exact ⟨es, h1.mono k, h2⟩
theorem Wk.up {N : Hp} {g B C : Nat} {p : Pol} (h : Wk N g B p) (k : B ≤ C) : Wk N g C p := by
  obtain ⟨es, h1, h2, h3⟩ := h
  exact ⟨es, h1, h2.mono k, h3⟩
def WkR (B : Nat) (p : Pol) (u : Value) (N : Hp) : Prop := ∃ g, u = .map (some g) ∧ Wk N g B p
/-- Codec of lists of polynomials at work: each a map, or none yet. -/
def mpF (o : Option Nat) : List Value := [.map o]
theorem mpF_one (o : Option Nat) : ∀ u ∈ mpF o, u.oneCell' = true := fun u hu => by
  simp [mpF] at hu; subst hu; rfl
def cdMap (E : TypeId) : Cd (Option Nat) := ⟨mpF, 1, 8, E, none, fun _ => rfl, mpF_one⟩
/-- What the maps of a list are; bf: their exponents' bounds. -/
def Wks (bf : Nat → Nat) (N : Hp) (gs : List (Option Nat)) (ps : List (Option Pol)) : Prop := gs.length = ps.length ∧ ∀ i, i < gs.length → match ga ps i with
  | some p => ∃ g, ga gs i = some g ∧ Wk N g (bf i) p
  | none => ga gs i = none
section
variable {bf : Nat → Nat} {N N' : Hp} {gs : List (Option Nat)} {ps : List (Option Pol)}
theorem Wks.mono (h : Wks bf N gs ps) (k : N.le N') : Wks bf N' gs ps := ⟨h.1, fun i hi => by
  have := h.2 i hi
  split at this
  · obtain ⟨g, h1, h2⟩ := this
    exact ⟨g, h1, h2.mono k⟩
  · exact this⟩
theorem Wks.get (h : Wks bf N gs ps) {i : Nat} (hi : i < gs.length) {p : Pol} (hp : ga ps i = some p) : ∃ g, ga gs i = some g ∧ Wk N g (bf i) p := by
  have := h.2 i hi
  rw [hp] at this
  exact this
theorem Wks.rep (bf : Nat → Nat) (N : Hp) (n : Nat) : Wks bf N (List.replicate n none) (List.replicate n none) := ⟨by simp, fun i hi => by
  simp at hi
  rw [ga_rep _ _ _ hi, ga_rep _ _ _ hi]⟩
theorem Wks.nil_ (bf : Nat → Nat) (N : Hp) : Wks bf N [] [] := ⟨rfl, fun i hi => by simp at hi⟩
theorem Wks.set_ (h : Wks bf N gs ps) {g : Nat} {p : Pol} {i : Nat} (hg : Wk N g (bf i) p) (hi : i < gs.length) : Wks bf N (gs.set i (some g)) (ps.set i (some p)) := ⟨by simp [h.1], fun j hj => by
  rw [List.length_set] at hj
  rw [ga_set _ _ _ _ hi, ga_set _ _ _ _ (by rw [← h.1]; exact hi)]
  by_cases e : i = j
  · subst e; rw [if_pos rfl, if_pos rfl]; exact ⟨g, rfl, hg⟩
  · rw [if_neg e, if_neg e]; exact h.2 j hj⟩
theorem Wks.snoc (h : Wks bf N gs ps) {g : Nat} {p : Pol} (hg : Wk N g (bf gs.length) p) : Wks bf N (gs ++ [some g]) (ps ++ [some p]) := ⟨by simp [h.1], fun j hj => by
  simp at hj
  by_cases e : j < gs.length
  · rw [ga_append_left _ _ _ e, ga_append_left _ _ _ (by rw [← h.1]; exact e)]; exact h.2 j e
  · have hl := h.1
    obtain rfl : j = gs.length := by omega
    rw [ga_append_right gs _ _ (by omega), ga_append_right ps _ _ (by omega), show gs.length - gs.length = 0 by omega, show gs.length - ps.length = 0 by omega]
    exact ⟨g, rfl, hg⟩⟩
end
/-- A table of maps. -/
def WksA (bf : Nat → Nat) (N : Hp) (gss : List (List (Option Nat))) (pss : List (List (Option Pol))) : Prop := gss.length = pss.length ∧ ∀ i, i < gss.length → Wks bf N (ga gss i) (ga pss i)
section
variable {bf : Nat → Nat} {N N' : Hp} {gss : List (List (Option Nat))} {pss : List (List (Option Pol))}
theorem WksA.mono (h : WksA bf N gss pss) (k : N.le N') : WksA bf N' gss pss := ⟨h.1, fun i hi => (h.2 i hi).mono k⟩
theorem WksA.nil_ (bf : Nat → Nat) (N : Hp) : WksA bf N [] [] := ⟨rfl, fun i hi => by simp at hi⟩
theorem WksA.snoc (h : WksA bf N gss pss) {gs : List (Option Nat)} {ps : List (Option Pol)} (k : Wks bf N gs ps) : WksA bf N (gss ++ [gs]) (pss ++ [ps]) := ⟨by simp [h.1], fun j hj => by
  simp at hj
  by_cases e : j < gss.length
  · rw [ga_append_left _ _ _ e, ga_append_left _ _ _ (by rw [← h.1]; exact e)]; exact h.2 j e
  · have hl := h.1
    obtain rfl : j = gss.length := by omega
    rw [ga_append_right gss _ _ (by omega), ga_append_right pss _ _ (by omega), show gss.length - gss.length = 0 by omega, show gss.length - pss.length = 0 by omega]
    exact k⟩
theorem WksA.set_ (h : WksA bf N gss pss) {gs : List (Option Nat)} {ps : List (Option Pol)} (k : Wks bf N gs ps) {i : Nat} (hi : i < gss.length) : WksA bf N (gss.set i gs) (pss.set i ps) := ⟨by simp [h.1], fun j hj => by
  rw [List.length_set] at hj
  rw [ga_set _ _ _ _ hi, ga_set _ _ _ _ (by rw [← h.1]; exact hi)]
  by_cases e : i = j
  · rw [if_pos e, if_pos e]; exact k
  · rw [if_neg e, if_neg e]; exact h.2 j hj⟩
end
end Go.Proofs.Ytkcighnochjlgaa
namespace Go.Proofs.Ytkcighnochjlgaa
open Go.ChangeShapes Go.WideShapes Go.ChangeAt Go.RowKit
set_option maxRecDepth 100000 in
set_option maxHeartbeats 2000000 in
theorem clone_any (b : Nat) (es : Array MapEntry) (clock : Nat) (w : World) (hb : w.heap[b]? = some (.map es clock)) :
    Calls Try.prog 103 #[.map (some b)] w fun e w' => e = .returned (.map (some w.heap.size)) ∧ w' = w.alloc (.map es clock) := by
  have hq := fun w => run_eql_map_nil_sl (P := Try.prog) w 87 _ _ (some b) Try.underlying87
  go_enter Try.func103, Try.ntmps103
  go_wp2
  rw [run_callFunc_extern Try.func141 (by kernel_rfl) (by kernel_rfl) (by kernel_rfl) (e := Extern.MapsClone.clone) (by kernel_rfl), run_maps_clone_sl w 87 hb]
  simp only [Result.andThen]
  rw [Oper.upon_value]
  go_wp2
  rw [run_typeAssert_map_sl _ 87 _ _ _ _ Try.underlying87]
  simp only [Result.andThen]
  rw [Oper.upon_value]
  go_wp2
  go_ret
  exact ⟨rfl, rfl⟩
/-- The copy is the call's own. -/
theorem Clone_o {w : World} {M : Hp} {X : Fr} {g : Nat} {es : List (Int × Int)} (h : MpOk (Value.int .i64) (Value.int .i64) g es (M.un X.h)) (S : SH w M X []) :
    Co Try.prog 103 [.map (some g)] w M X fun u N => ∃ g', u = .map (some g') ∧ N = [Rs.mp (Value.int .i64) (Value.int .i64) g' es] := by
  obtain ⟨arr, clock, h1, h2, h3⟩ := h
  have hb : w.heap[g]? = some (.map arr clock) := S.um _ _ h1
  unfold Co
  refine (clone_any g arr clock w hb).mono ?_
  rintro e w' ⟨rfl, rfl⟩
  refine ⟨_, rfl, _, S.cons (r := Rs.mp (Value.int .i64) (Value.int .i64) w.heap.size es) (like_alloc w _) (keep_alloc w _) ⟨arr, clock, heap_alloc_new w _, h2, h3⟩ (fun b hb => by simp [Rs.mp] at hb; subst hb; rw [size_al]; omega), _, rfl, rfl⟩
end Go.Proofs.Ytkcighnochjlgaa
set_option linter.unusedSimpArgs false
set_option linter.unusedVariables false
namespace Go.Proofs.Ytkcighnochjlgaa
open Go.ChangeShapes Go.WideShapes Go.ChangeAt Go.RowKit
def tmF (t : Tm) : List Value := [.int .i64 t.e, .int .i64 t.c]
def cdTm : Cd Tm := ⟨tmF, 2, 16, 89, ⟨0, 0⟩, fun _ => rfl, by
  intro x u hu
  simp [tmF] at hu
  rcases hu with rfl | rfl <;> rfl⟩
/-- A list of terms that may be handed in. -/
def okT (a : List Tm) (i : Nat) : Prop := (-1000 ≤ (ga a i).e ∧ (ga a i).e ≤ 1000) ∧ (-1000000 ≤ (ga a i).c ∧ (ga a i).c ≤ 1000000) ∧ (ga a i).c ≠ 0 ∧ (0 < i → (ga a ((i : Int) - 1).toNat).e < (ga a i).e)
instance (a : List Tm) (i : Nat) : Decidable (okT a i) := by unfold okT; infer_instance
def LsE (a : List Tm) (u : Value) (N : Hp) : Prop := ∃ A c, u = .slice A a.length c ∧ RdA cdTm N A c a
/-- A polynomial in form, as a list that lasts. -/
def PT (B : Nat) (p : Pol) (u : Value) (N : Hp) : Prop := ∃ A c l, u = .slice A l.length c ∧ RdA cdTm N A c l ∧ Can l ∧ Bd l B ∧ mk (pr l) = p
theorem put_eq {l : List Tm} {e c : Int} {k : Nat} (hk : k ≤ l.length) (hlt : ∀ j, j < k → (ga l j).e < e) (hc : c ≠ 0) (hend : k = l.length ∨ (k < l.length ∧ ¬ (ga l k).e < e)) :
    put l e c = l.take k ++ (if k < l.length ∧ (ga l k).e = e then (if wr ((ga l k).c + c) = 0 then [] else [⟨e, wr ((ga l k).c + c)⟩]) ++ l.drop (k + 1) else ⟨e, c⟩ :: l.drop k) := by
  induction l generalizing k with
  | nil =>
    obtain rfl : k = 0 := by simp at hk; exact hk
    simp [put, hc]
  | cons t l ih =>
    unfold put
    rw [if_neg hc]
    cases k with
    | zero =>
      have hend' : ¬ t.e < e := by
        rcases hend with h | h
        · simp at h
        · exact h.2
      rw [if_neg hend']
      by_cases he : t.e = e
      · have h2 : 0 < (t :: l).length ∧ (ga (t :: l) 0).e = e := ⟨by simp, he⟩
        rw [if_pos he, if_pos h2]
        show (if wr (t.c + c) = 0 then l else ⟨e, wr (t.c + c)⟩ :: l) = [] ++ ((if wr (t.c + c) = 0 then [] else [⟨e, wr (t.c + c)⟩]) ++ l)
        split <;> rfl
      · have h2 : ¬ (0 < (t :: l).length ∧ (ga (t :: l) 0).e = e) := fun h => he h.2
        rw [if_neg he, if_neg h2]; rfl
    | succ k =>
      have h0 : t.e < e := hlt 0 (by omega)
      rw [if_pos h0]
      simp only [List.length_cons] at hk hend
      have e1 : ga (t :: l) (k + 1) = ga l k := rfl
      rw [ih (k := k) (by omega) (fun j hj => hlt (j + 1) (by omega)) (by rw [e1] at hend; omega), e1]
      simp only [List.length_cons, List.take_succ_cons, List.drop_succ_cons, List.cons_append, Nat.add_lt_add_iff_right]
theorem sl22 : SlOf Try.prog 22 cdTm := ⟨.agg [.int .i64 0, .int .i64 0].toArray, Try.underlying22, by kernel_rfl, rfl, by decide, by decide⟩
noncomputable def sameTerms_n0 : Code := Try.f17.body.getD .skip
noncomputable def sameTerms_n1 : Code := cL sameTerms_n0
noncomputable def sameTerms_n2 : Code := cR sameTerms_n0
noncomputable def sameTerms_n3 : Code := cL sameTerms_n2
noncomputable def sameTerms_n4 : Code := cR sameTerms_n2
noncomputable def sameTerms_n5 : Code := cL sameTerms_n3
noncomputable def sameTerms_n6 : Code := cR sameTerms_n3
noncomputable def sameTerms_n7 : Code := cL sameTerms_n6
noncomputable def sameTerms_n8 : Code := cR sameTerms_n6
noncomputable def sameTerms_n9 : Code := cL sameTerms_n4
noncomputable def sameTerms_n10 : Code := cR sameTerms_n4
noncomputable def sameTerms_n11 : Code := cL sameTerms_n9
noncomputable def sameTerms_n12 : Code := cR sameTerms_n9
noncomputable def sameTerms_n13 : Code := cL sameTerms_n12
noncomputable def sameTerms_n14 : Code := cL sameTerms_n13
noncomputable def sameTerms_n15 : Code := cL sameTerms_n14
noncomputable def sameTerms_n16 : Code := cR sameTerms_n14
noncomputable def sameTerms_n17 : Code := cL sameTerms_n15
noncomputable def sameTerms_n18 : Code := cR sameTerms_n15
noncomputable def sameTerms_n19 : Code := cL sameTerms_n18
noncomputable def sameTerms_n20 : Code := cR sameTerms_n18
noncomputable def sameTerms_n21 : Code := cL sameTerms_n16
noncomputable def sameTerms_n22 : Code := cR sameTerms_n16
noncomputable def sameTerms_n23 : Code := cL sameTerms_n21
noncomputable def sameTerms_n24 : Code := cL sameTerms_n23
noncomputable def sameTerms_n25 : Code := cR sameTerms_n23
noncomputable def sameTerms_n26 : Code := cL sameTerms_n25
noncomputable def sameTerms_n27 : Code := cR sameTerms_n25
noncomputable def sameTerms_n28 : Code := cL sameTerms_n10
noncomputable def sameTerms_n29 : Code := cR sameTerms_n10
set_option maxRecDepth 10000 in
theorem sameTerms_q {w : World} {M : Hp} {X : Fr} (p : List Tm) {pA : Option Addr} {pc : Nat} (q : List Tm) {qA : Option Addr} {qc : Nat} (hp : RdA cdTm (M.un X.h) pA pc p) (hq : RdA cdTm (M.un X.h) qA qc q) (he : p = q) (S : SH w M X []) : Cq Try.prog 17 [.slice pA p.length pc, .slice qA q.length qc] w M X (fun u => u = .bool true) := by
  unfold Cq
  have rmhp : p.length * 16 ≤ 140737488355328 := hp.room
  have rmhq : q.length * 16 ≤ 140737488355328 := hq.room
  have hle : p.length = q.length := by rw [he]
  refine calls_in (b := sameTerms_n0) Try.func17 rfl Try.ntmps17 rfl (fun C hC => ?_)
  refine ws_sub [(0, _), (1, _)] ⟨rfl, rfl, trivial⟩ ?_
  refine ws_seqN sameTerms_n1 sameTerms_n2 rfl rfl rfl ?_
  refine ws_region rfl ?_
  refine wl_op (k := 0) (k' := 1) rfl rfl rfl (wo_run rfl rfl (run_assign rfl rfl) ?_)
  refine wl_end rfl ?_
  refine nm_sub [(0, _), (1, _)] ⟨rfl, rfl, trivial⟩ ?_
  refine nm_thn ?_
  refine ws_seqN sameTerms_n3 sameTerms_n4 rfl rfl rfl ?_
  refine ws_seqN sameTerms_n5 sameTerms_n6 rfl rfl rfl ?_
  refine ws_region rfl ?_
  refine wl_op (k := 0) (k' := 1) rfl rfl rfl (wo_run rfl rfl (run_move rfl rfl) ?_)
  refine wl_op (k := 1) (k' := 2) rfl rfl rfl (wo_run rfl rfl (run_len rfl rfl rfl rfl rfl rfl Try.underlying22) ?_)
  refine wl_op (k := 2) (k' := 3) rfl rfl rfl (wo_run rfl rfl (run_move rfl rfl) ?_)
  refine wl_op (k := 3) (k' := 4) rfl rfl rfl (wo_run rfl rfl (run_len rfl rfl rfl rfl rfl rfl Try.underlying22) ?_)
  refine wl_op (k := 4) (k' := 5) rfl rfl rfl (wo_run rfl rfl (run_neq rfl rfl rfl) ?_)
  refine wl_end rfl ?_
  refine nm_sub [(0, _), (1, _), (10, _)] ⟨rfl, rfl, rfl, trivial⟩ ?_
  refine nm_thn ?_
  refine ws_condN sameTerms_n7 sameTerms_n8 rfl rfl rfl rfl (fun hb10 => ?_) (fun hb10 => ?_)
  · have hb10 := of_decide_eq_true hb10
    exfalso; omega
  · have hb10 := of_decide_eq_false hb10
    refine ws_skip rfl ?_
    refine nm_sub [(0, _), (1, _)] ⟨rfl, rfl, trivial⟩ ?_
    refine nm_thn ?_
    refine ws_seqN sameTerms_n9 sameTerms_n10 rfl rfl rfl ?_
    refine ws_seqN sameTerms_n11 sameTerms_n12 rfl rfl rfl ?_
    refine ws_region rfl ?_
    refine wl_op (k := 0) (k' := 1) rfl rfl rfl (wo_run rfl rfl (run_assign rfl rfl) ?_)
    refine wl_end rfl ?_
    refine nm_thn ?_
    refine ws_blockN sameTerms_n13 0 rfl rfl rfl ?_
    refine ws_loopE (fun mx_ ax_ wx_ => ∃ (k : Nat), mx_ = p.length - k ∧ Env 26 [(0, .slice pA p.length pc), (1, .slice qA q.length qc), (5, .int .i64 (k : Int))] ax_ ∧ SH wx_ M X [] ∧ k ≤ p.length) rfl ?_ ?_
    · intro ax_ hax_
      refine ⟨_, ⟨0, rfl, hax_.sub ⟨rfl, rfl, rfl, trivial⟩, S.pick [] [] (by decide) trivial, ?hq1f0⟩⟩
      case hq1f0 => omega
    · rintro m1 a1 w1 ⟨k, rfl, he1, S1, hk⟩
      clear S
      refine ws_in he1 (c := sameTerms_n14) rfl ?_
      clear he1 a1
      refine ws_seqN sameTerms_n15 sameTerms_n16 rfl rfl rfl ?_
      refine ws_seqN sameTerms_n17 sameTerms_n18 rfl rfl rfl ?_
      refine ws_region rfl ?_
      refine wl_op (k := 0) (k' := 1) rfl rfl rfl (wo_run rfl rfl (run_move rfl rfl) ?_)
      refine wl_op (k := 1) (k' := 2) rfl rfl rfl (wo_run rfl rfl (run_move rfl rfl) ?_)
      refine wl_op (k := 2) (k' := 3) rfl rfl rfl (wo_run rfl rfl (run_len rfl rfl rfl rfl rfl rfl Try.underlying22) ?_)
      refine wl_op (k := 3) (k' := 4) rfl rfl rfl (wo_run rfl rfl (run_lss rfl rfl rfl) ?_)
      refine wl_end rfl ?_
      refine nm_sub [(0, _), (1, _), (5, _), (14, _)] ⟨rfl, rfl, rfl, rfl, trivial⟩ ?_
      refine nm_thn ?_
      refine ws_condN sameTerms_n19 sameTerms_n20 rfl rfl rfl rfl (fun hb14 => ?_) (fun hb14 => ?_)
      · have hb14 := of_decide_eq_true hb14
        refine ws_skip rfl ?_
        refine nm_sub [(0, _), (1, _), (5, _)] ⟨rfl, rfl, rfl, trivial⟩ ?_
        refine nm_thn ?_
        refine ws_seqN sameTerms_n21 sameTerms_n22 rfl rfl rfl ?_
        refine ws_blockN sameTerms_n23 1 rfl rfl rfl ?_
        refine ws_seqN sameTerms_n24 sameTerms_n25 rfl rfl rfl ?_
        refine ws_draw rfl (by kernel_rfl) S1 9 rfl ?_
        clear S1
        refine wa_takeP (i := 0) (d := 17) 8 rfl (by kernel_rfl) (by kernel_rfl) (by kernel_rfl) rfl rfl rfl (fun w2 => run_move rfl rfl) ?_
        refine wa_takeP (i := 1) (d := 18) 7 rfl (by kernel_rfl) (by kernel_rfl) (by kernel_rfl) rfl rfl rfl (fun w3 => run_move rfl rfl) ?_
        refine wa_take (i := 2) (d := 19) 6 rfl (by kernel_rfl) (by kernel_rfl) (by kernel_rfl) rfl rfl rfl (fun M3 N3 w4 hle4 S4 => .inl (run_indexM (C := cdTm) k rfl rfl rfl sl22 (by first | rfl | omega) (hp.mono (Hp.un_mono hle4 S4.mx)) (by first | omega | (simp only [List.length_set, List.length_append, List.length_replicate, List.length_singleton, List.length_cons, List.length_nil]; omega)))) ?_
        refine wa_take (i := 3) (d := 20) 5 rfl (by kernel_rfl) (by kernel_rfl) (by kernel_rfl) rfl rfl rfl (fun M4 N4 w5 hle5 S5 => .inl (run_loadN (us := [_, _]) rfl rfl Try.underlying89 rfl sz89 ((hp.mono (Hp.un_mono hle5 S5.mx)).cellsAt S5.um (e := k) (by first | omega | (simp only [List.length_set, List.length_append, List.length_replicate, List.length_singleton, List.length_cons, List.length_nil]; omega)) (j := 0) ⟨rfl, rfl, trivial⟩))) ?_
        refine wa_takeP (i := 4) (d := 21) 4 rfl (by kernel_rfl) (by kernel_rfl) (by kernel_rfl) rfl rfl rfl (fun w6 => run_move rfl rfl) ?_
        refine wa_takeP (i := 5) (d := 22) 3 rfl (by kernel_rfl) (by kernel_rfl) (by kernel_rfl) rfl rfl rfl (fun w7 => run_move rfl rfl) ?_
        refine wa_take (i := 6) (d := 23) 2 rfl (by kernel_rfl) (by kernel_rfl) (by kernel_rfl) rfl rfl rfl (fun M7 N7 w8 hle8 S8 => .inl (run_indexM (C := cdTm) k rfl rfl rfl sl22 (by first | rfl | omega) (hq.mono (Hp.un_mono hle8 S8.mx)) (by first | omega | (simp only [List.length_set, List.length_append, List.length_replicate, List.length_singleton, List.length_cons, List.length_nil]; omega)))) ?_
        refine wa_take (i := 7) (d := 24) 1 rfl (by kernel_rfl) (by kernel_rfl) (by kernel_rfl) rfl rfl rfl (fun M8 N8 w9 hle9 S9 => .inl (run_loadN (us := [_, _]) rfl rfl Try.underlying89 rfl sz89 ((hq.mono (Hp.un_mono hle9 S9.mx)).cellsAt S9.um (e := k) (by first | omega | (simp only [List.length_set, List.length_append, List.length_replicate, List.length_singleton, List.length_cons, List.length_nil]; omega)) (j := 0) ⟨rfl, rfl, trivial⟩))) ?_
        refine wa_takeP (i := 8) (d := 25) 0 rfl (by kernel_rfl) (by kernel_rfl) (by kernel_rfl) rfl rfl rfl (fun w10 => run_neSt (Q := ((ga p k).e) = ((ga q k).e) ∧ ((ga p k).c) = ((ga q k).c)) rfl rfl rfl se89 ⟨_, _, _, _, rfl, rfl, ⟨_, _, _, rfl, rfl, rfl⟩, rfl⟩) ?_
        refine wa_end (by kernel_rfl) (fun w11 S11 => ?_)
        refine nm_sub [(0, _), (1, _), (5, _), (25, _)] ⟨rfl, rfl, rfl, rfl, trivial⟩ ?_
        refine nm_thn ?_
        refine ws_condN sameTerms_n26 sameTerms_n27 rfl rfl rfl rfl (fun hb25 => ?_) (fun hb25 => ?_)
        · have hb25 := of_decide_eq_true hb25
          exfalso; exact hb25 (by rw [he]; exact ⟨rfl, rfl⟩)
        · have hb25 := of_decide_eq_false hb25
          refine ws_skip rfl ?_
          refine nm_blk ?_
          refine nm_sub [(0, _), (1, _), (5, _)] ⟨rfl, rfl, rfl, trivial⟩ ?_
          refine nm_thn ?_
          refine ws_region rfl ?_
          refine wl_op (k := 0) (k' := 1) rfl rfl rfl (wo_run rfl rfl (run_move rfl rfl) ?_)
          refine wl_op (k := 1) (k' := 2) rfl rfl rfl (wo_run rfl rfl (run_add rfl rfl rfl (by first | omega | (simp only [List.length_set, List.length_append, List.length_replicate, List.length_singleton, List.length_cons, List.length_nil]; omega))) ?_)
          refine wl_op (k := 2) (k' := 3) rfl rfl rfl (wo_run rfl rfl (run_assign rfl rfl) ?_)
          refine wl_end rfl ?_
          refine nm_lp ?_
          intro ax_ hax_
          refine ⟨_, ?hq2m, ⟨k + 1, rfl, hax_.sub ⟨rfl, rfl, rfl, trivial⟩, S11.pick [] [] (by decide) trivial, ?hq2f0⟩⟩
          case hq2f0 => omega
          case hq2m => omega
      · have hb14 := of_decide_eq_false hb14
        refine ws_exit rfl rfl ?_
        refine nm_sub [] trivial ?_
        refine nm_thn ?_
        refine ws_seqN sameTerms_n28 sameTerms_n29 rfl rfl rfl ?_
        refine ws_region rfl ?_
        refine wl_op (k := 0) (k' := 1) rfl rfl rfl (wo_run rfl rfl (run_assign rfl rfl) ?_)
        refine wl_end rfl ?_
        refine nm_thn ?_
        refine ws_ret hC [_] rfl rfl ⟨rfl, trivial⟩ ?_
        exact ⟨_, rfl, (S1.pick [] [] (by decide) trivial), rfl⟩
end Go.Proofs.Ytkcighnochjlgaa
