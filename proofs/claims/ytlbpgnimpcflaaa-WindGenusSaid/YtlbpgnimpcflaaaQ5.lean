/- Walks printed by eng.py. -/
import Derived.Test.YtlbpgnimpcflaaaQ4
import Derived.Test.YtlbpgnimpcflaaaE8
set_option linter.unusedSimpArgs false
set_option linter.unusedVariables false
namespace Go.Proofs.Ytlbpgnimpcflaaa
open Go.ChangeShapes Go.WideShapes Go.ChangeAt Go.RowKit
theorem one_iff {d : Dg} (h : arcsB d = true) : (pcsL d).length = 1 ↔ (0 < d.crs.length ∧ ∀ x, x < d.crs.length → ga (whoL d) x = 0) := by
  constructor
  · intro h1
    obtain ⟨_, c0, hc0, _⟩ := (pcs h).el 0 (by show 0 < (pcsL d).length; omega)
    refine ⟨by omega, fun x hx => ?_⟩
    obtain ⟨z, _, hz, _, hmin⟩ := whoL_law h x hx
    have a1 := (pcI_lt h hx).1
    have a2 := (pcI_lt h (x := 0) (by omega)).1
    have := hmin 0 (by omega) (by omega)
    rw [hz]
    omega
  · rintro ⟨h0, hall⟩
    have key : ∀ i, i < (pcsL d).length → i = pcI d 0 := fun i hi => by
      obtain ⟨_, c0, hc0, hm, _⟩ := (pcs h).el i hi
      have e := (pcI_at h hi hm).2
      have e2 := (who_root h hc0 (z := 0) (hall c0 hc0)).2.1
      omega
    have a2 := (pcI_lt h h0).1
    have k0 := key 0 (by omega)
    rcases Nat.lt_or_ge 1 (pcsL d).length with h1 | h1
    · have := key 1 h1; omega
    · omega
def oneB (d : Dg) : Bool := decide ((pcsL d).length = 1 ∧ d.loops = 0)
theorem oneB_f {d : Dg} (h : arcsB d = true) {i : Nat} (hi : i < d.crs.length) (hne : ga (whoL d) i ≠ 0) : oneB d = false := by
  unfold oneB
  rw [decide_eq_false_iff_not]
  rintro ⟨h1, _⟩
  exact hne (((one_iff h).1 h1).2 i hi)
theorem oneB_t {d : Dg} (h : arcsB d = true) (hall : ∀ i, i < d.crs.length → ga (whoL d) i = 0) : oneB d = decide (0 < d.crs.length ∧ d.loops = 0) := by
  unfold oneB
  rw [decide_eq_decide, one_iff h]
  exact ⟨fun ⟨⟨a, _⟩, b⟩ => ⟨a, b⟩, fun ⟨a, b⟩ => ⟨⟨a, hall⟩, b⟩⟩
def genN (d : Dg) : Int := Int.tdiv (2 - ((strandsL d).length : Int) - ((circL d).length : Int) + (d.crs.length : Int)) 2
theorem tdiv_two (a : Int) (h : -1000 ≤ a ∧ a ≤ 1000) : -9223372036854775808 ≤ a.tdiv 2 ∧ a.tdiv 2 ≤ 9223372036854775807 := by
  rcases Int.le_total 0 a with h0 | h0
  · rw [Int.tdiv_eq_ediv_of_nonneg h0]; omega
  · have e : a.tdiv 2 = -((-a).tdiv 2) := by rw [Int.neg_tdiv, Int.neg_neg]
    rw [e, Int.tdiv_eq_ediv_of_nonneg (by omega)]; omega
def errG (d : Dg) : Int := if errO d = 0 then (if oneB d = true then 0 else 6) else errO d
def genR (d : Dg) : Int := if errG d = 0 then genN d else 0
theorem strands_many (d : Dg) : (strandsL d).length ≤ 2 * d.crs.length := rings_many _ _ _
theorem circ_many (d : Dg) : (circL d).length ≤ 2 * d.crs.length := rings_many _ _ _

noncomputable def OnePiece_n0 : Code := Try.f42.body.getD .skip
noncomputable def OnePiece_n1 : Code := cL OnePiece_n0
noncomputable def OnePiece_n2 : Code := cR OnePiece_n0
noncomputable def OnePiece_n3 : Code := cL OnePiece_n2
noncomputable def OnePiece_n4 : Code := cR OnePiece_n2
noncomputable def OnePiece_n5 : Code := cL OnePiece_n4
noncomputable def OnePiece_n6 : Code := cR OnePiece_n4
noncomputable def OnePiece_n7 : Code := cL OnePiece_n5
noncomputable def OnePiece_n8 : Code := cR OnePiece_n5
noncomputable def OnePiece_n9 : Code := cL OnePiece_n8
noncomputable def OnePiece_n10 : Code := cL OnePiece_n9
noncomputable def OnePiece_n11 : Code := cL OnePiece_n10
noncomputable def OnePiece_n12 : Code := cR OnePiece_n10
noncomputable def OnePiece_n13 : Code := cL OnePiece_n11
noncomputable def OnePiece_n14 : Code := cR OnePiece_n11
noncomputable def OnePiece_n15 : Code := cL OnePiece_n14
noncomputable def OnePiece_n16 : Code := cR OnePiece_n14
noncomputable def OnePiece_n17 : Code := cL OnePiece_n12
noncomputable def OnePiece_n18 : Code := cR OnePiece_n12
noncomputable def OnePiece_n19 : Code := cL OnePiece_n17
noncomputable def OnePiece_n20 : Code := cL OnePiece_n19
noncomputable def OnePiece_n21 : Code := cR OnePiece_n19
noncomputable def OnePiece_n22 : Code := cL OnePiece_n21
noncomputable def OnePiece_n23 : Code := cR OnePiece_n21
noncomputable def OnePiece_n24 : Code := cL OnePiece_n22
noncomputable def OnePiece_n25 : Code := cR OnePiece_n22
noncomputable def OnePiece_n26 : Code := cL OnePiece_n6
noncomputable def OnePiece_n27 : Code := cR OnePiece_n6
set_option maxRecDepth 10000 in
theorem OnePiece_t {w : World} {M : Hp} {X : Fr} (d : Dg) {dcrsA : Option Addr} {dcrsc : Nat} (hdcrs : RdA cdCr (M.un X.h) dcrsA dcrsc d.crs) (hn : d.crs.length ≤ 16) (hab : arcsB d = true) (S : SH w M X []) : Ct Try.prog 42 [.agg [.slice dcrsA d.crs.length dcrsc, .int .i64 d.loops].toArray] w M X (fun u _ => u = .bool (oneB d)) := by
  unfold Ct
  have rmhdcrs : d.crs.length * 40 ≤ 140737488355328 := hdcrs.room
  have hwl := rndsW_len d d.crs.length
  replace hwl : (whoL d).length = d.crs.length := hwl
  refine calls_in (b := OnePiece_n0) Try.func42 rfl Try.ntmps42 rfl (fun C hC => ?_)
  refine ws_sub [(0, _)] ⟨rfl, trivial⟩ ?_
  refine ws_seqN OnePiece_n1 OnePiece_n2 rfl rfl rfl ?_
  refine ws_region rfl ?_
  refine wl_op (k := 0) (k' := 1) rfl rfl rfl (wo_box (l := [_, _]) rfl rfl rfl rfl rfl S ?_)
  intro gb1 w1 S1; clear S
  refine wl_op (k := 1) (k' := 2) rfl rfl rfl (wo_run rfl rfl (run_assign rfl rfl) ?_)
  refine wl_end rfl ?_
  refine nm_sub [(1, _)] ⟨rfl, trivial⟩ ?_
  refine nm_thn ?_
  refine ws_seqN OnePiece_n3 OnePiece_n4 rfl rfl rfl ?_
  refine ws_region rfl ?_
  refine wl_op (k := 0) (k' := 1) rfl rfl rfl (wo_run rfl rfl (run_loadN (us := [_, _]) rfl rfl Try.underlying27 rfl sz27 (S1.boxcs (i := 0) rfl ⟨rfl, rfl, trivial⟩)) ?_)
  refine wl_op (k := 1) (k' := 2) rfl rfl rfl (wo_ct rfl rfl rfl rfl rfl rfl rfl cf70 S1 (PiecesOf_t d (hdcrs.mono S1.un_XH) (hn) (hab) S1.lend) ?_)
  intro vw2 w2 M1 hle1 S2 hRw2; clear S1
  replace hdcrs := hdcrs.mono (Hp.un_mono hle1 S2.mx)
  obtain ⟨A1, c1, rfl, hr1⟩ := hRw2
  refine wl_op (k := 2) (k' := 3) rfl rfl rfl (wo_run rfl rfl (run_assign rfl rfl) ?_)
  refine wl_end rfl ?_
  refine nm_sub [(1, _), (3, _)] ⟨rfl, rfl, trivial⟩ ?_
  refine nm_thn ?_
  refine ws_seqN OnePiece_n5 OnePiece_n6 rfl rfl rfl ?_
  refine ws_seqN OnePiece_n7 OnePiece_n8 rfl rfl rfl ?_
  refine ws_region rfl ?_
  refine wl_op (k := 0) (k' := 1) rfl rfl rfl (wo_run rfl rfl (run_assign rfl rfl) ?_)
  refine wl_end rfl ?_
  refine nm_thn ?_
  refine ws_blockN OnePiece_n9 0 rfl rfl rfl ?_
  refine ws_loopE (fun mx_ ax_ wx_ => ∃ (i : Nat), mx_ = (whoL d).length - i ∧ Env 26 [(1, .pointer (some ⟨gb1, 0, none⟩)), (3, .slice A1 (whoL d).length c1), (4, .int .i64 (i : Int))] ax_ ∧ SH wx_ M1 X [Rs.box gb1 27 [.slice dcrsA d.crs.length dcrsc, .int .i64 d.loops]] ∧ i ≤ (whoL d).length ∧ (∀ j, j < i → ga (whoL d) j = 0)) rfl ?_ ?_
  · intro ax_ hax_
    refine ⟨_, ⟨0, rfl, hax_.sub ⟨rfl, rfl, rfl, trivial⟩, S2.pick [0] [_] (by decide) ⟨rfl, trivial⟩, ?hq1f0, ?hq1f1⟩⟩
    case hq1f0 => omega
    case hq1f1 => (intro j hj; omega)
  · rintro m1 a1 w3 ⟨i, rfl, he1, S3, hi, hall⟩
    clear S2
    refine ws_in he1 (c := OnePiece_n10) rfl ?_
    clear he1 a1
    refine ws_seqN OnePiece_n11 OnePiece_n12 rfl rfl rfl ?_
    refine ws_seqN OnePiece_n13 OnePiece_n14 rfl rfl rfl ?_
    refine ws_region rfl ?_
    refine wl_op (k := 0) (k' := 1) rfl rfl rfl (wo_run rfl rfl (run_move rfl rfl) ?_)
    refine wl_op (k := 1) (k' := 2) rfl rfl rfl (wo_run rfl rfl (run_move rfl rfl) ?_)
    refine wl_op (k := 2) (k' := 3) rfl rfl rfl (wo_run rfl rfl (run_len rfl rfl rfl rfl rfl rfl Try.underlying44) ?_)
    refine wl_op (k := 3) (k' := 4) rfl rfl rfl (wo_run rfl rfl (run_lss rfl rfl rfl) ?_)
    refine wl_end rfl ?_
    refine nm_sub [(1, _), (3, _), (4, _), (10, _)] ⟨rfl, rfl, rfl, rfl, trivial⟩ ?_
    refine nm_thn ?_
    refine ws_condN OnePiece_n15 OnePiece_n16 rfl rfl rfl rfl (fun hb10 => ?_) (fun hb10 => ?_)
    · have hb10 := of_decide_eq_true hb10
      refine ws_skip rfl ?_
      refine nm_sub [(1, _), (3, _), (4, _)] ⟨rfl, rfl, rfl, trivial⟩ ?_
      refine nm_thn ?_
      refine ws_seqN OnePiece_n17 OnePiece_n18 rfl rfl rfl ?_
      refine ws_blockN OnePiece_n19 1 rfl rfl rfl ?_
      refine ws_seqN OnePiece_n20 OnePiece_n21 rfl rfl rfl ?_
      refine ws_region rfl ?_
      refine wl_op (k := 0) (k' := 1) rfl rfl rfl (wo_run rfl rfl (run_move rfl rfl) ?_)
      refine wl_op (k := 1) (k' := 2) rfl rfl rfl (wo_run rfl rfl (run_move rfl rfl) ?_)
      refine wl_op (k := 2) (k' := 3) rfl rfl rfl (wo_run rfl rfl (run_indexM (C := cdInt) i rfl rfl rfl sl44 (by first | rfl | omega) hr1 (by first | omega | (simp only [List.length_set, List.length_append, List.length_replicate, List.length_singleton, List.length_cons, List.length_nil]; omega))) ?_)
      refine wl_op (k := 3) (k' := 4) rfl rfl rfl (wo_run rfl rfl (run_load1 rfl rfl Try.underlying3 rfl (hr1.cell S3.m (i := i) (by first | omega | (simp only [List.length_set, List.length_append, List.length_replicate, List.length_singleton, List.length_cons, List.length_nil]; omega)) 0 rfl rfl)) ?_)
      refine wl_op (k := 4) (k' := 5) rfl rfl rfl (wo_run rfl rfl (run_neq rfl rfl rfl) ?_)
      refine wl_end rfl ?_
      refine nm_sub [(1, _), (3, _), (4, _), (17, _)] ⟨rfl, rfl, rfl, rfl, trivial⟩ ?_
      refine nm_thn ?_
      refine ws_condN OnePiece_n22 OnePiece_n23 rfl rfl rfl rfl (fun hb17 => ?_) (fun hb17 => ?_)
      · have hb17 := of_decide_eq_true hb17
        refine ws_seqN OnePiece_n24 OnePiece_n25 rfl rfl rfl ?_
        refine ws_region rfl ?_
        refine wl_op (k := 0) (k' := 1) rfl rfl rfl (wo_run rfl rfl (run_assign rfl rfl) ?_)
        refine wl_end rfl ?_
        refine nm_sub [(2, _)] ⟨rfl, trivial⟩ ?_
        refine nm_thn ?_
        refine ws_ret hC [_] rfl rfl ⟨rfl, trivial⟩ ?_
        refine ⟨_, rfl, _, hle1, (S3.pick [] [] (by decide) trivial), ?_⟩
        show Value.bool _ = _
        refine congrArg Value.bool ?_
        first | exact (oneB_f hab (i := i) (by omega) (by omega)).symm | (rw [oneB_t hab (fun j hj => hall j (by omega))]; first | (symm; rw [decide_eq_false_iff_not]; omega) | (rw [decide_eq_decide]; omega) | (symm; rw [decide_eq_true_iff]; omega))
      · have hb17 := of_decide_eq_false hb17
        refine ws_skip rfl ?_
        refine nm_blk ?_
        refine nm_sub [(1, _), (3, _), (4, _)] ⟨rfl, rfl, rfl, trivial⟩ ?_
        refine nm_thn ?_
        refine ws_region rfl ?_
        refine wl_op (k := 0) (k' := 1) rfl rfl rfl (wo_run rfl rfl (run_move rfl rfl) ?_)
        refine wl_op (k := 1) (k' := 2) rfl rfl rfl (wo_run rfl rfl (run_add rfl rfl rfl (by first | omega | (simp only [List.length_set, List.length_append, List.length_replicate, List.length_singleton, List.length_cons, List.length_nil]; omega))) ?_)
        refine wl_op (k := 2) (k' := 3) rfl rfl rfl (wo_run rfl rfl (run_assign rfl rfl) ?_)
        refine wl_end rfl ?_
        refine nm_lp ?_
        intro ax_ hax_
        refine ⟨_, ?hq2m, ⟨i + 1, rfl, hax_.sub ⟨rfl, rfl, rfl, trivial⟩, S3.pick [0] [_] (by decide) ⟨rfl, trivial⟩, ?hq2f0, ?hq2f1⟩⟩
        case hq2f0 => omega
        case hq2f1 => (intro j hj; by_cases e : j = i; (subst e; omega); exact hall j (by omega))
        case hq2m => omega
    · have hb10 := of_decide_eq_false hb10
      refine ws_exit rfl rfl ?_
      refine nm_sub [(1, _), (3, _)] ⟨rfl, rfl, trivial⟩ ?_
      refine nm_thn ?_
      refine ws_seqN OnePiece_n26 OnePiece_n27 rfl rfl rfl ?_
      refine ws_region rfl ?_
      refine wl_op (k := 0) (k' := 1) rfl rfl rfl (wo_run rfl rfl (run_move rfl rfl) ?_)
      refine wl_op (k := 1) (k' := 2) rfl rfl rfl (wo_run rfl rfl (run_len rfl rfl rfl rfl rfl rfl Try.underlying44) ?_)
      refine wl_op (k := 2) (k' := 3) rfl rfl rfl (wo_run rfl rfl (run_gtr rfl rfl rfl) ?_)
      refine wl_op (k := 3) (k' := 4) rfl rfl rfl (wo_run rfl rfl (run_move rfl rfl) ?_)
      refine wl_split (t := 21) rfl (fun hg21 => ?_) (fun hg21 => ?_)
      · have hg21 := of_decide_eq_true hg21
        refine wl_opG (k := 4) (k' := 5) rfl rfl ⟨_, _, _, rfl, rfl, rfl, rfl⟩ rfl (wo_run rfl rfl (run_fieldAddr rfl rfl Try.underlying27 rfl (ce3) (nf3)) ?_)
        refine wl_opG (k := 5) (k' := 6) rfl rfl ⟨_, _, _, rfl, rfl, rfl, rfl⟩ rfl (wo_run rfl rfl (run_load1 rfl rfl Try.underlying3 rfl (S3.boxc (i := 0) rfl rfl)) ?_)
        refine wl_opG (k := 6) (k' := 7) rfl rfl ⟨_, _, _, rfl, rfl, rfl, rfl⟩ rfl (wo_run rfl rfl (run_eql rfl rfl rfl) ?_)
        refine wl_op (k := 7) (k' := 8) rfl rfl rfl (wo_run rfl rfl (run_pickT rfl rfl rfl) ?_)
        refine wl_op (k := 8) (k' := 9) rfl rfl rfl (wo_run rfl rfl (run_assign rfl rfl) ?_)
        refine wl_end rfl ?_
        refine nm_sub [(2, _)] ⟨rfl, trivial⟩ ?_
        refine nm_thn ?_
        refine ws_ret hC [_] rfl rfl ⟨rfl, trivial⟩ ?_
        refine ⟨_, rfl, _, hle1, (S3.pick [] [] (by decide) trivial), ?_⟩
        show Value.bool _ = _
        refine congrArg Value.bool ?_
        first | exact (oneB_f hab (i := i) (by omega) (by omega)).symm | (rw [oneB_t hab (fun j hj => hall j (by omega))]; first | (symm; rw [decide_eq_false_iff_not]; omega) | (rw [decide_eq_decide]; omega) | (symm; rw [decide_eq_true_iff]; omega))
      · have hg21 := of_decide_eq_false hg21
        refine wl_no (k := 4) (k' := 5) (d := 22) rfl rfl ⟨_, _, _, rfl, rfl, rfl, rfl⟩ rfl rfl ?_
        refine wl_no (k := 5) (k' := 6) (d := 23) rfl rfl ⟨_, _, _, rfl, rfl, rfl, rfl⟩ rfl rfl ?_
        refine wl_no (k := 6) (k' := 7) (d := 24) rfl rfl ⟨_, _, _, rfl, rfl, rfl, rfl⟩ rfl rfl ?_
        refine wl_op (k := 7) (k' := 8) rfl rfl rfl (wo_run rfl rfl (run_pickF rfl rfl rfl) ?_)
        refine wl_op (k := 8) (k' := 9) rfl rfl rfl (wo_run rfl rfl (run_assign rfl rfl) ?_)
        refine wl_end rfl ?_
        refine nm_sub [(2, _)] ⟨rfl, trivial⟩ ?_
        refine nm_thn ?_
        refine ws_ret hC [_] rfl rfl ⟨rfl, trivial⟩ ?_
        refine ⟨_, rfl, _, hle1, (S3.pick [] [] (by decide) trivial), ?_⟩
        show Value.bool _ = _
        refine congrArg Value.bool ?_
        first | exact (oneB_f hab (i := i) (by omega) (by omega)).symm | (rw [oneB_t hab (fun j hj => hall j (by omega))]; first | (symm; rw [decide_eq_false_iff_not]; omega) | (rw [decide_eq_decide]; omega) | (symm; rw [decide_eq_true_iff]; omega))

noncomputable def GenusOf_n0 : Code := Try.f43.body.getD .skip
noncomputable def GenusOf_n1 : Code := cL GenusOf_n0
noncomputable def GenusOf_n2 : Code := cR GenusOf_n0
noncomputable def GenusOf_n3 : Code := cL GenusOf_n2
noncomputable def GenusOf_n4 : Code := cR GenusOf_n2
set_option maxRecDepth 10000 in
theorem GenusOf_t {w : World} {M : Hp} {X : Fr} (d : Dg) {dcrsA : Option Addr} {dcrsc : Nat} (hdcrs : RdA cdCr (M.un X.h) dcrsA dcrsc d.crs) (hn : d.crs.length ≤ 16) (hab : arcsB d = true) (S : SH w M X []) : Ct Try.prog 43 [.agg [.slice dcrsA d.crs.length dcrsc, .int .i64 d.loops].toArray] w M X (fun u _ => u = .int .i64 (genN d)) := by
  unfold Ct
  have rmhdcrs : d.crs.length * 40 ≤ 140737488355328 := hdcrs.room
  have hsm := strands_many d
  have hcm := circ_many d
  refine calls_in (b := GenusOf_n0) Try.func43 rfl Try.ntmps43 rfl (fun C hC => ?_)
  refine ws_sub [(0, _)] ⟨rfl, trivial⟩ ?_
  refine ws_seqN GenusOf_n1 GenusOf_n2 rfl rfl rfl ?_
  refine ws_region rfl ?_
  refine wl_op (k := 0) (k' := 1) rfl rfl rfl (wo_box (l := [_, _]) rfl rfl rfl rfl rfl S ?_)
  intro gb1 w1 S1; clear S
  refine wl_op (k := 1) (k' := 2) rfl rfl rfl (wo_run rfl rfl (run_assign rfl rfl) ?_)
  refine wl_end rfl ?_
  refine nm_sub [(1, _)] ⟨rfl, trivial⟩ ?_
  refine nm_thn ?_
  refine ws_seqN GenusOf_n3 GenusOf_n4 rfl rfl rfl ?_
  refine ws_draw rfl (by kernel_rfl) S1 14 rfl ?_
  clear S1
  refine wa_take (i := 0) (d := 3) 13 rfl (by kernel_rfl) (by kernel_rfl) (by kernel_rfl) rfl rfl rfl (fun M1 N1 w2 hle1 S2 => .inl (run_loadN (us := [_, _]) rfl rfl Try.underlying27 rfl sz27 (S2.suf.boxcs (i := 0) rfl ⟨rfl, rfl, trivial⟩))) ?_
  refine wa_take (i := 4) (d := 7) 12 rfl (by kernel_rfl) (by kernel_rfl) (by kernel_rfl) rfl rfl rfl (fun M3 N3 w4 hle3 S4 => .inl (run_loadN (us := [_, _]) rfl rfl Try.underlying27 rfl sz27 (S4.suf.boxcs (i := 0) rfl ⟨rfl, rfl, trivial⟩))) ?_
  refine wa_takeP (i := 8) (d := 11) 11 rfl (by kernel_rfl) (by kernel_rfl) (by kernel_rfl) rfl rfl rfl (fun w6 => run_fieldAddr rfl rfl Try.underlying27 rfl (ce25) (nf25)) ?_
  refine wa_take (i := 9) (d := 12) 10 rfl (by kernel_rfl) (by kernel_rfl) (by kernel_rfl) rfl rfl rfl (fun M7 N7 w8 hle7 S8 => .inl (run_load1 rfl rfl Try.underlying25 rfl (S8.suf.boxc (i := 0) rfl rfl))) ?_
  refine wa_take (i := 10) (d := 13) 9 rfl (by kernel_rfl) (by kernel_rfl) (by kernel_rfl) rfl rfl rfl (fun M9 N9 w10 hle9 S10 => .inl (run_len rfl rfl rfl rfl rfl rfl Try.underlying25)) ?_
  refine wa_only (i := 1) 8 rfl (by kernel_rfl) rfl rfl (fun w12 S12 => ?_)
  refine (wo_ct rfl rfl rfl rfl rfl rfl rfl cf21 S12 (StrandsOf_t d (hdcrs.mono S12.un_XH) (hn) (hab) S12.lend) ?_)
  intro vw13 w13 M11 hle11 S13 hRw13; clear S12
  replace hdcrs := hdcrs.mono (Hp.un_mono hle11 S13.mx)
  obtain ⟨A1, c1, vs1, rfl, hr1, hd1⟩ := hRw13
  have hlenstrandsL := hd1.1
  refine LeftW.grow [] (hle11) S13 ?_; clear S13
  change WA _ _ _ _ _ _ _ _ _ _ _ _ [_]
  refine wa_base ?_
  refine wa_take (i := 2) (d := 5) 7 rfl (by kernel_rfl) (by kernel_rfl) (by kernel_rfl) rfl rfl rfl (fun M12 N11 w14 hle12 S14 => .inl (run_len rfl rfl rfl rfl rfl rfl Try.underlying37)) ?_
  refine wa_takeP (i := 3) (d := 6) 6 rfl (by kernel_rfl) (by kernel_rfl) (by kernel_rfl) rfl rfl rfl (fun w15 => run_sub rfl rfl rfl (by first | omega | (simp only [List.length_set, List.length_append, List.length_replicate, List.length_singleton, List.length_cons, List.length_nil]; omega))) ?_
  refine wa_only (i := 5) 5 rfl (by kernel_rfl) rfl rfl (fun w17 S17 => ?_)
  refine (wo_ct rfl rfl rfl rfl rfl rfl rfl cf50 S17 (CirclesOf_t d (hdcrs.mono S17.un_XH) (hn) (hab) S17.lend) ?_)
  intro vw18 w18 M15 hle15 S18 hRw18; clear S17
  replace hdcrs := hdcrs.mono (Hp.un_mono hle15 S18.mx)
  replace hr1 := hr1.mono hle15
  replace hd1 := hd1.mono hle15
  obtain ⟨A2, c2, vs2, rfl, hr2, hd2⟩ := hRw18
  have hlencircL := hd2.1
  refine LeftW.grow [] (hle15) S18 ?_; clear S18
  change WA _ _ _ _ _ _ _ _ _ _ _ _ [_]
  refine wa_base ?_
  refine wa_take (i := 6) (d := 9) 4 rfl (by kernel_rfl) (by kernel_rfl) (by kernel_rfl) rfl rfl rfl (fun M16 N14 w19 hle16 S19 => .inl (run_len rfl rfl rfl rfl rfl rfl Try.underlying37)) ?_
  refine wa_takeP (i := 7) (d := 10) 3 rfl (by kernel_rfl) (by kernel_rfl) (by kernel_rfl) rfl rfl rfl (fun w20 => run_sub rfl rfl rfl (by first | omega | (simp only [List.length_set, List.length_append, List.length_replicate, List.length_singleton, List.length_cons, List.length_nil]; omega))) ?_
  refine wa_takeP (i := 11) (d := 14) 2 rfl (by kernel_rfl) (by kernel_rfl) (by kernel_rfl) rfl rfl rfl (fun w21 => run_add rfl rfl rfl (by first | omega | (simp only [List.length_set, List.length_append, List.length_replicate, List.length_singleton, List.length_cons, List.length_nil]; omega))) ?_
  refine wa_takeP (i := 12) (d := 15) 1 rfl (by kernel_rfl) (by kernel_rfl) (by kernel_rfl) rfl rfl rfl (fun w22 => run_tquo rfl rfl rfl (by decide) (tdiv_two _ (by omega))) ?_
  refine wa_takeP (i := 13) (d := 2) 0 rfl (by kernel_rfl) (by kernel_rfl) (by kernel_rfl) rfl rfl rfl (fun w23 => run_assign rfl rfl) ?_
  refine wa_end (by kernel_rfl) (fun w24 S24 => ?_)
  refine nm_sub [(2, _)] ⟨rfl, trivial⟩ ?_
  refine nm_thn ?_
  refine ws_ret hC [_] rfl rfl ⟨rfl, trivial⟩ ?_
  refine ⟨_, rfl, _, hle11.trans hle15, (S24.pick [] [] (by decide) trivial), ?_⟩
  show Value.int _ _ = _
  refine congrArg (Value.int .i64) ?_
  unfold genN
  rw [hlenstrandsL, hlencircL]

noncomputable def Genus_n0 : Code := Try.f41.body.getD .skip
noncomputable def Genus_n1 : Code := cL Genus_n0
noncomputable def Genus_n2 : Code := cR Genus_n0
noncomputable def Genus_n3 : Code := cL Genus_n2
noncomputable def Genus_n4 : Code := cR Genus_n2
noncomputable def Genus_n5 : Code := cL Genus_n4
noncomputable def Genus_n6 : Code := cR Genus_n4
noncomputable def Genus_n7 : Code := cL Genus_n5
noncomputable def Genus_n8 : Code := cL Genus_n7
noncomputable def Genus_n9 : Code := cR Genus_n7
noncomputable def Genus_n10 : Code := cL Genus_n9
noncomputable def Genus_n11 : Code := cR Genus_n9
noncomputable def Genus_n12 : Code := cL Genus_n10
noncomputable def Genus_n13 : Code := cR Genus_n10
noncomputable def Genus_n14 : Code := cL Genus_n11
noncomputable def Genus_n15 : Code := cR Genus_n11
noncomputable def Genus_n16 : Code := cL Genus_n15
noncomputable def Genus_n17 : Code := cR Genus_n15
noncomputable def Genus_n18 : Code := cL Genus_n16
noncomputable def Genus_n19 : Code := cR Genus_n16
noncomputable def Genus_n20 : Code := cL Genus_n6
noncomputable def Genus_n21 : Code := cR Genus_n6
set_option maxRecDepth 10000 in
theorem Genus_t {w : World} {M : Hp} {X : Fr} (d : Dg) {dcrsA : Option Addr} {dcrsc : Nat} (hdcrs : RdA cdCr (M.un X.h) dcrsA dcrsc d.crs) (S : SH w M X []) : Ct Try.prog 41 [.agg [.slice dcrsA d.crs.length dcrsc, .int .i64 d.loops].toArray] w M X (fun u _ => u = .tuple [.int .i64 (genR d), .int .i64 (errG d)].toArray) := by
  unfold Ct
  have rmhdcrs : d.crs.length * 40 ≤ 140737488355328 := hdcrs.room
  have hsm := strands_many d
  have hcm := circ_many d
  refine calls_in (b := Genus_n0) Try.func41 rfl Try.ntmps41 rfl (fun C hC => ?_)
  refine ws_sub [(0, _)] ⟨rfl, trivial⟩ ?_
  refine ws_seqN Genus_n1 Genus_n2 rfl rfl rfl ?_
  refine ws_region rfl ?_
  refine wl_op (k := 0) (k' := 1) rfl rfl rfl (wo_box (l := [_, _]) rfl rfl rfl rfl rfl S ?_)
  intro gb1 w1 S1; clear S
  refine wl_op (k := 1) (k' := 2) rfl rfl rfl (wo_run rfl rfl (run_assign rfl rfl) ?_)
  refine wl_op (k := 2) (k' := 3) rfl rfl rfl (wo_run rfl rfl (run_assign rfl rfl) ?_)
  refine wl_end rfl ?_
  refine nm_sub [(1, _)] ⟨rfl, trivial⟩ ?_
  refine nm_thn ?_
  refine ws_seqN Genus_n3 Genus_n4 rfl rfl rfl ?_
  refine ws_region rfl ?_
  refine wl_op (k := 0) (k' := 1) rfl rfl rfl (wo_run rfl rfl (run_loadN (us := [_, _]) rfl rfl Try.underlying27 rfl sz27 (S1.boxcs (i := 0) rfl ⟨rfl, rfl, trivial⟩)) ?_)
  refine wl_op (k := 1) (k' := 2) rfl rfl rfl (wo_ct rfl rfl rfl rfl rfl rfl rfl cf71 S1 (Open_t d (hdcrs.mono S1.un_XH) S1.lend) ?_)
  intro vw2 w2 M1 hle1 S2 hRw2; clear S1
  replace hdcrs := hdcrs.mono (Hp.un_mono hle1 S2.mx)
  rcases hRw2 with ⟨hopn8, rfl⟩ | ⟨hopn8, g1, cA8, iA8, oA8, cc8, ic8, oc8, rfl, hsb8, hsc8, hsi8, hso8⟩
  · refine wl_op (k := 2) (k' := 3) rfl rfl rfl (wo_run rfl rfl (run_move rfl rfl) ?_)
    refine wl_op (k := 3) (k' := 4) rfl rfl rfl (wo_run rfl rfl (run_extract rfl rfl rfl) ?_)
    refine wl_op (k := 4) (k' := 5) rfl rfl rfl (wo_run rfl rfl (run_extract rfl rfl rfl) ?_)
    refine wl_op (k := 5) (k' := 6) rfl rfl rfl (wo_run rfl rfl (run_assign rfl rfl) ?_)
    refine wl_op (k := 6) (k' := 7) rfl rfl rfl (wo_run rfl rfl (run_assign rfl rfl) ?_)
    refine wl_end rfl ?_
    refine nm_sub [(4, _), (5, _)] ⟨rfl, rfl, trivial⟩ ?_
    refine nm_thn ?_
    refine ws_seqN Genus_n5 Genus_n6 rfl rfl rfl ?_
    refine ws_blockN Genus_n7 0 rfl rfl rfl ?_
    refine ws_seqN Genus_n8 Genus_n9 rfl rfl rfl ?_
    refine ws_region rfl ?_
    refine wl_op (k := 0) (k' := 1) rfl rfl rfl (wo_run rfl rfl (run_move rfl rfl) ?_)
    refine wl_op (k := 1) (k' := 2) rfl rfl rfl (wo_run rfl rfl (run_neq rfl rfl rfl) ?_)
    refine wl_op (k := 2) (k' := 3) rfl rfl rfl (wo_run rfl rfl (run_assign rfl rfl) ?_)
    refine wl_end rfl ?_
    refine nm_sub [(4, _), (5, _), (11, _)] ⟨rfl, rfl, rfl, trivial⟩ ?_
    refine nm_thn ?_
    refine ws_condN Genus_n10 Genus_n11 rfl rfl rfl rfl (fun hb11 => ?_) (fun hb11 => ?_)
    · have hb11 := of_decide_eq_true hb11
      refine ws_seqN Genus_n12 Genus_n13 rfl rfl rfl ?_
      refine ws_region rfl ?_
      refine wl_op (k := 0) (k' := 1) rfl rfl rfl (wo_run rfl rfl (run_move rfl rfl) ?_)
      refine wl_op (k := 1) (k' := 2) rfl rfl rfl (wo_run rfl rfl (run_assign rfl rfl) ?_)
      refine wl_op (k := 2) (k' := 3) rfl rfl rfl (wo_run rfl rfl (run_assign rfl rfl) ?_)
      refine wl_end rfl ?_
      refine nm_sub [(2, _), (3, _)] ⟨rfl, rfl, trivial⟩ ?_
      refine nm_thn ?_
      refine ws_ret hC [_, _] rfl rfl ⟨rfl, rfl, trivial⟩ ?_
      refine ⟨_, rfl, _, hle1, (S2.pick [] [] (by decide) trivial), ?_⟩
      have e1 : errG d = errO d := by unfold errG; rw [if_neg hopn8]
      have e2 : genR d = 0 := by unfold genR; rw [if_neg (by rw [e1]; exact hopn8)]
      rw [e1, e2]
      rfl
    · have hb11 := of_decide_eq_false hb11
      exfalso; omega
  · obtain ⟨hmo, hpl⟩ := errO_ok hopn8
    obtain ⟨hn, hab, hlo0, hlo1⟩ := mayO hmo
    refine wl_op (k := 2) (k' := 3) rfl rfl rfl (wo_run rfl rfl (run_move rfl rfl) ?_)
    refine wl_op (k := 3) (k' := 4) rfl rfl rfl (wo_run rfl rfl (run_extract rfl rfl rfl) ?_)
    refine wl_op (k := 4) (k' := 5) rfl rfl rfl (wo_run rfl rfl (run_extract rfl rfl rfl) ?_)
    refine wl_op (k := 5) (k' := 6) rfl rfl rfl (wo_run rfl rfl (run_assign rfl rfl) ?_)
    refine wl_op (k := 6) (k' := 7) rfl rfl rfl (wo_run rfl rfl (run_assign rfl rfl) ?_)
    refine wl_end rfl ?_
    refine nm_sub [(4, _), (5, _)] ⟨rfl, rfl, trivial⟩ ?_
    refine nm_thn ?_
    refine ws_seqN Genus_n5 Genus_n6 rfl rfl rfl ?_
    refine ws_blockN Genus_n7 0 rfl rfl rfl ?_
    refine ws_seqN Genus_n8 Genus_n9 rfl rfl rfl ?_
    refine ws_region rfl ?_
    refine wl_op (k := 0) (k' := 1) rfl rfl rfl (wo_run rfl rfl (run_move rfl rfl) ?_)
    refine wl_op (k := 1) (k' := 2) rfl rfl rfl (wo_run rfl rfl (run_neq rfl rfl rfl) ?_)
    refine wl_op (k := 2) (k' := 3) rfl rfl rfl (wo_run rfl rfl (run_assign rfl rfl) ?_)
    refine wl_end rfl ?_
    refine nm_sub [(4, _), (5, _), (11, _)] ⟨rfl, rfl, rfl, trivial⟩ ?_
    refine nm_thn ?_
    refine ws_condN Genus_n10 Genus_n11 rfl rfl rfl rfl (fun hb11 => ?_) (fun hb11 => ?_)
    · have hb11 := of_decide_eq_true hb11
      exfalso; omega
    · have hb11 := of_decide_eq_false hb11
      refine ws_seqN Genus_n14 Genus_n15 rfl rfl rfl ?_
      refine ws_region rfl ?_
      refine wl_op (k := 0) (k' := 1) rfl rfl rfl (wo_run rfl rfl (run_move rfl rfl) ?_)
      refine wl_op (k := 1) (k' := 2) rfl rfl rfl (wo_ct rfl rfl rfl rfl rfl rfl rfl cf75 S2 (Pieces_t d (hsb8.mono (Hp.le_un _ _)) (hsc8.mono (Hp.le_un _ _)) (hsi8.mono (Hp.le_un _ _)) (hso8.mono (Hp.le_un _ _)) hn hab S2.lend) ?_)
      intro vw3 w3 M2 hle2 S3 hRw3; clear S2
      replace hdcrs := hdcrs.mono (Hp.un_mono hle2 S3.mx)
      replace hsb8 := hsb8.mono hle2
      replace hsc8 := hsc8.mono hle2
      replace hsi8 := hsi8.mono hle2
      replace hso8 := hso8.mono hle2
      obtain ⟨A1, c1, vs1, rfl, hr1, hd1⟩ := hRw3
      have hlenpcsL := hd1.1
      refine wl_op (k := 2) (k' := 3) rfl rfl rfl (wo_run rfl rfl (run_len rfl rfl rfl rfl rfl rfl Try.underlying37) ?_)
      refine wl_op (k := 3) (k' := 4) rfl rfl rfl (wo_run rfl rfl (run_neq rfl rfl rfl) ?_)
      refine wl_op (k := 4) (k' := 5) rfl rfl rfl (wo_run rfl rfl (run_move rfl rfl) ?_)
      refine wl_split (t := 20) rfl (fun hg20 => ?_) (fun hg20 => ?_)
      · have hg20 := of_decide_eq_true hg20
        refine wl_no (k := 5) (k' := 6) (d := 21) rfl rfl ⟨_, _, _, rfl, rfl, rfl, rfl⟩ rfl rfl ?_
        refine wl_no (k := 6) (k' := 7) (d := 22) rfl rfl ⟨_, _, _, rfl, rfl, rfl, rfl⟩ rfl rfl ?_
        refine wl_no (k := 7) (k' := 8) (d := 23) rfl rfl ⟨_, _, _, rfl, rfl, rfl, rfl⟩ rfl rfl ?_
        refine wl_no (k := 8) (k' := 9) (d := 24) rfl rfl ⟨_, _, _, rfl, rfl, rfl, rfl⟩ rfl rfl ?_
        refine wl_no (k := 9) (k' := 10) (d := 25) rfl rfl ⟨_, _, _, rfl, rfl, rfl, rfl⟩ rfl rfl ?_
        refine wl_no (k := 10) (k' := 11) (d := 26) rfl rfl ⟨_, _, _, rfl, rfl, rfl, rfl⟩ rfl rfl ?_
        refine wl_op (k := 11) (k' := 12) rfl rfl rfl (wo_run rfl rfl (run_pickT rfl rfl rfl) ?_)
        refine wl_op (k := 12) (k' := 13) rfl rfl rfl (wo_run rfl rfl (run_assign rfl rfl) ?_)
        refine wl_end rfl ?_
        refine nm_sub [(4, _), (15, _)] ⟨rfl, rfl, trivial⟩ ?_
        refine nm_thn ?_
        refine ws_condTN Genus_n16 rfl rfl rfl ?_
        refine ws_seqN Genus_n18 Genus_n19 rfl rfl rfl ?_
        refine ws_region rfl ?_
        refine wl_op (k := 0) (k' := 1) rfl rfl rfl (wo_run rfl rfl (run_assign rfl rfl) ?_)
        refine wl_op (k := 1) (k' := 2) rfl rfl rfl (wo_run rfl rfl (run_assign rfl rfl) ?_)
        refine wl_end rfl ?_
        refine nm_sub [(2, _), (3, _)] ⟨rfl, rfl, trivial⟩ ?_
        refine nm_thn ?_
        refine ws_ret hC [_, _] rfl rfl ⟨rfl, rfl, trivial⟩ ?_
        refine ⟨_, rfl, _, hle1.trans hle2, (S3.pick [] [] (by decide) trivial), ?_⟩
        have e1 : errG d = 6 := by unfold errG; rw [if_pos hopn8, if_neg (by unfold oneB; rw [decide_eq_true_iff]; omega)]
        have e2 : genR d = 0 := by unfold genR; rw [if_neg (by rw [e1]; decide)]
        rw [e1, e2]
        rfl
      · have hg20 := of_decide_eq_false hg20
        refine wl_opG (k := 5) (k' := 6) rfl rfl ⟨_, _, _, rfl, rfl, rfl, rfl⟩ rfl (wo_run rfl rfl (run_move rfl rfl) ?_)
        refine wl_opG (k := 6) (k' := 7) rfl rfl ⟨_, _, _, rfl, rfl, rfl, rfl⟩ rfl (wo_run rfl rfl (run_nilCheck rfl rfl) ?_)
        refine wl_opG (k := 7) (k' := 8) rfl rfl ⟨_, _, _, rfl, rfl, rfl, rfl⟩ rfl (wo_run rfl rfl (run_fieldAddr rfl rfl Try.underlying81 rfl (ce27) (nf27)) ?_)
        refine wl_opG (k := 8) (k' := 9) rfl rfl ⟨_, _, _, rfl, rfl, rfl, rfl⟩ rfl (wo_run rfl rfl (run_fieldAddr rfl rfl Try.underlying27 rfl (ce3) (nf3)) ?_)
        refine wl_opG (k := 9) (k' := 10) rfl rfl ⟨_, _, _, rfl, rfl, rfl, rfl⟩ rfl (wo_run rfl rfl (run_load1 rfl rfl Try.underlying3 rfl (hsb8.cell S3.m rfl)) ?_)
        refine wl_opG (k := 10) (k' := 11) rfl rfl ⟨_, _, _, rfl, rfl, rfl, rfl⟩ rfl (wo_run rfl rfl (run_gtr rfl rfl rfl) ?_)
        refine wl_op (k := 11) (k' := 12) rfl rfl rfl (wo_run rfl rfl (run_pickF rfl rfl rfl) ?_)
        refine wl_op (k := 12) (k' := 13) rfl rfl rfl (wo_run rfl rfl (run_assign rfl rfl) ?_)
        refine wl_end rfl ?_
        refine nm_sub [(4, _), (15, _)] ⟨rfl, rfl, trivial⟩ ?_
        refine nm_thn ?_
        refine ws_condN Genus_n16 Genus_n17 rfl rfl rfl rfl (fun hb15 => ?_) (fun hb15 => ?_)
        · have hb15 := of_decide_eq_true hb15
          refine ws_seqN Genus_n18 Genus_n19 rfl rfl rfl ?_
          refine ws_region rfl ?_
          refine wl_op (k := 0) (k' := 1) rfl rfl rfl (wo_run rfl rfl (run_assign rfl rfl) ?_)
          refine wl_op (k := 1) (k' := 2) rfl rfl rfl (wo_run rfl rfl (run_assign rfl rfl) ?_)
          refine wl_end rfl ?_
          refine nm_sub [(2, _), (3, _)] ⟨rfl, rfl, trivial⟩ ?_
          refine nm_thn ?_
          refine ws_ret hC [_, _] rfl rfl ⟨rfl, rfl, trivial⟩ ?_
          refine ⟨_, rfl, _, hle1.trans hle2, (S3.pick [] [] (by decide) trivial), ?_⟩
          have e1 : errG d = 6 := by unfold errG; rw [if_pos hopn8, if_neg (by unfold oneB; rw [decide_eq_true_iff]; omega)]
          have e2 : genR d = 0 := by unfold genR; rw [if_neg (by rw [e1]; decide)]
          rw [e1, e2]
          rfl
        · have hb15 := of_decide_eq_false hb15
          refine ws_skip rfl ?_
          refine nm_blk ?_
          refine nm_sub [(4, _)] ⟨rfl, trivial⟩ ?_
          refine nm_thn ?_
          refine ws_seqN Genus_n20 Genus_n21 rfl rfl rfl ?_
          refine ws_draw rfl (by kernel_rfl) S3 18 rfl ?_
          clear S3
          refine wa_takeP (i := 0) (d := 28) 17 rfl (by kernel_rfl) (by kernel_rfl) (by kernel_rfl) rfl rfl rfl (fun w4 => run_move rfl rfl) ?_
          refine wa_takeP (i := 4) (d := 32) 16 rfl (by kernel_rfl) (by kernel_rfl) (by kernel_rfl) rfl rfl rfl (fun w6 => run_move rfl rfl) ?_
          refine wa_takeP (i := 8) (d := 36) 15 rfl (by kernel_rfl) (by kernel_rfl) (by kernel_rfl) rfl rfl rfl (fun w8 => run_move rfl rfl) ?_
          refine wa_takeP (i := 9) (d := 37) 14 rfl (by kernel_rfl) (by kernel_rfl) (by kernel_rfl) rfl rfl rfl (fun w10 => run_nilCheck rfl rfl) ?_
          refine wa_takeP (i := 10) (d := 38) 13 rfl (by kernel_rfl) (by kernel_rfl) (by kernel_rfl) rfl rfl rfl (fun w12 => run_fieldAddr rfl rfl Try.underlying81 rfl (ce27) (nf27)) ?_
          refine wa_takeP (i := 11) (d := 39) 12 rfl (by kernel_rfl) (by kernel_rfl) (by kernel_rfl) rfl rfl rfl (fun w14 => run_fieldAddr rfl rfl Try.underlying27 rfl (ce25) (nf25)) ?_
          refine wa_take (i := 12) (d := 40) 11 rfl (by kernel_rfl) (by kernel_rfl) (by kernel_rfl) rfl rfl rfl (fun M15 N13 w16 hle15 S16 => .inl (run_load1 rfl rfl Try.underlying25 rfl ((hsb8.mono hle15).cell S16.m rfl))) ?_
          refine wa_take (i := 13) (d := 41) 10 rfl (by kernel_rfl) (by kernel_rfl) (by kernel_rfl) rfl rfl rfl (fun M17 N15 w18 hle17 S18 => .inl (run_len rfl rfl rfl rfl rfl rfl Try.underlying25)) ?_
          refine wa_only (i := 1) 9 rfl (by kernel_rfl) rfl rfl (fun w20 S20 => ?_)
          refine (wo_ct rfl rfl rfl rfl rfl rfl rfl cf59 S20 (Strands_t d (hsb8.mono (Hp.le_un _ _)) (hsc8.mono (Hp.le_un _ _)) (hsi8.mono (Hp.le_un _ _)) (hso8.mono (Hp.le_un _ _)) hn hab S20.lend) ?_)
          intro vw21 w21 M19 hle19 S21 hRw21; clear S20
          replace hdcrs := hdcrs.mono (Hp.un_mono hle19 S21.mx)
          replace hsb8 := hsb8.mono hle19
          replace hsc8 := hsc8.mono hle19
          replace hsi8 := hsi8.mono hle19
          replace hso8 := hso8.mono hle19
          replace hr1 := hr1.mono hle19
          replace hd1 := hd1.mono hle19
          obtain ⟨A2, c2, vs2, rfl, hr2, hd2⟩ := hRw21
          have hlenstrandsL := hd2.1
          refine LeftW.grow [] (hle19) S21 ?_; clear S21
          change WA _ _ _ _ _ _ _ _ _ _ _ _ [_]
          refine wa_base ?_
          refine wa_take (i := 2) (d := 30) 8 rfl (by kernel_rfl) (by kernel_rfl) (by kernel_rfl) rfl rfl rfl (fun M20 N17 w22 hle20 S22 => .inl (run_len rfl rfl rfl rfl rfl rfl Try.underlying37)) ?_
          refine wa_takeP (i := 3) (d := 31) 7 rfl (by kernel_rfl) (by kernel_rfl) (by kernel_rfl) rfl rfl rfl (fun w23 => run_sub rfl rfl rfl (by first | omega | (simp only [List.length_set, List.length_append, List.length_replicate, List.length_singleton, List.length_cons, List.length_nil]; omega))) ?_
          refine wa_only (i := 5) 6 rfl (by kernel_rfl) rfl rfl (fun w25 S25 => ?_)
          refine (wo_ct rfl rfl rfl rfl rfl rfl rfl cf76 S25 (Circles_t d (hsb8.mono (Hp.le_un _ _)) (hsc8.mono (Hp.le_un _ _)) (hsi8.mono (Hp.le_un _ _)) (hso8.mono (Hp.le_un _ _)) hn hab S25.lend) ?_)
          intro vw26 w26 M23 hle23 S26 hRw26; clear S25
          replace hdcrs := hdcrs.mono (Hp.un_mono hle23 S26.mx)
          replace hsb8 := hsb8.mono hle23
          replace hsc8 := hsc8.mono hle23
          replace hsi8 := hsi8.mono hle23
          replace hso8 := hso8.mono hle23
          replace hr1 := hr1.mono hle23
          replace hd1 := hd1.mono hle23
          replace hr2 := hr2.mono hle23
          replace hd2 := hd2.mono hle23
          obtain ⟨A3, c3, vs3, rfl, hr3, hd3⟩ := hRw26
          have hlencircL := hd3.1
          refine LeftW.grow [] (hle23) S26 ?_; clear S26
          change WA _ _ _ _ _ _ _ _ _ _ _ _ [_]
          refine wa_base ?_
          refine wa_take (i := 6) (d := 34) 5 rfl (by kernel_rfl) (by kernel_rfl) (by kernel_rfl) rfl rfl rfl (fun M24 N20 w27 hle24 S27 => .inl (run_len rfl rfl rfl rfl rfl rfl Try.underlying37)) ?_
          refine wa_takeP (i := 7) (d := 35) 4 rfl (by kernel_rfl) (by kernel_rfl) (by kernel_rfl) rfl rfl rfl (fun w28 => run_sub rfl rfl rfl (by first | omega | (simp only [List.length_set, List.length_append, List.length_replicate, List.length_singleton, List.length_cons, List.length_nil]; omega))) ?_
          refine wa_takeP (i := 14) (d := 42) 3 rfl (by kernel_rfl) (by kernel_rfl) (by kernel_rfl) rfl rfl rfl (fun w29 => run_add rfl rfl rfl (by first | omega | (simp only [List.length_set, List.length_append, List.length_replicate, List.length_singleton, List.length_cons, List.length_nil]; omega))) ?_
          refine wa_takeP (i := 15) (d := 43) 2 rfl (by kernel_rfl) (by kernel_rfl) (by kernel_rfl) rfl rfl rfl (fun w30 => run_tquo rfl rfl rfl (by decide) (tdiv_two _ (by omega))) ?_
          refine wa_takeP (i := 16) (d := 2) 1 rfl (by kernel_rfl) (by kernel_rfl) (by kernel_rfl) rfl rfl rfl (fun w31 => run_assign rfl rfl) ?_
          refine wa_takeP (i := 17) (d := 3) 0 rfl (by kernel_rfl) (by kernel_rfl) (by kernel_rfl) rfl rfl rfl (fun w32 => run_assign rfl rfl) ?_
          refine wa_end (by kernel_rfl) (fun w33 S33 => ?_)
          refine nm_sub [(2, _), (3, _)] ⟨rfl, rfl, trivial⟩ ?_
          refine nm_thn ?_
          refine ws_ret hC [_, _] rfl rfl ⟨rfl, rfl, trivial⟩ ?_
          refine ⟨_, rfl, _, ((hle1.trans hle2).trans hle19).trans hle23, (S33.pick [] [] (by decide) trivial), ?_⟩
          have e1 : errG d = 0 := by unfold errG; rw [if_pos hopn8, if_pos (by unfold oneB; rw [decide_eq_true_iff]; omega)]
          have e2 : genR d = genN d := by unfold genR; rw [if_pos e1]
          rw [e1, e2]
          unfold genN
          rw [← hlenstrandsL, ← hlencircL]
          rfl


theorem errG_one {d : Dg} (h : errO d = 0) : errG d = if oneB d = true then 0 else 6 := by unfold errG; rw [if_pos h]
theorem errG_no {d : Dg} (h : errO d ≠ 0) : errG d = errO d := by unfold errG; rw [if_neg h]
theorem genR_no {d : Dg} (h : errG d ≠ 0) : genR d = 0 := by unfold genR; rw [if_neg h]
theorem genR_ok {d : Dg} (h : errG d = 0) : genR d = genN d := by unfold genR; rw [if_pos h]
theorem errG_cases (d : Dg) : (errO d ≠ 0 ∧ errG d = errO d ∧ genR d = 0) ∨ (errO d = 0 ∧ oneB d = false ∧ errG d = 6 ∧ genR d = 0) ∨ (errO d = 0 ∧ oneB d = true ∧ errG d = 0 ∧ genR d = genN d) := by
  by_cases h : errO d = 0
  · cases h1 : oneB d
    · have e : errG d = 6 := by rw [errG_one h, if_neg (by rw [h1]; exact Bool.false_ne_true)]
      exact .inr (.inl ⟨h, rfl, e, genR_no (by rw [e]; decide)⟩)
    · have e : errG d = 0 := by rw [errG_one h, if_pos h1]
      exact .inr (.inr ⟨h, rfl, e, genR_ok e⟩)
  · exact .inl ⟨h, errG_no h, genR_no (by rw [errG_no h]; exact h)⟩

noncomputable def WindGenus_n0 : Code := Try.f10.body.getD .skip
noncomputable def WindGenus_n1 : Code := cL WindGenus_n0
noncomputable def WindGenus_n2 : Code := cR WindGenus_n0
noncomputable def WindGenus_n3 : Code := cL WindGenus_n2
noncomputable def WindGenus_n4 : Code := cR WindGenus_n2
noncomputable def WindGenus_n5 : Code := cL WindGenus_n4
noncomputable def WindGenus_n6 : Code := cR WindGenus_n4
noncomputable def WindGenus_n7 : Code := cL WindGenus_n6
noncomputable def WindGenus_n8 : Code := cR WindGenus_n6
noncomputable def WindGenus_n9 : Code := cL WindGenus_n7
noncomputable def WindGenus_n10 : Code := cR WindGenus_n7
noncomputable def WindGenus_n11 : Code := cL WindGenus_n10
noncomputable def WindGenus_n12 : Code := cR WindGenus_n10
noncomputable def WindGenus_n13 : Code := cL WindGenus_n8
noncomputable def WindGenus_n14 : Code := cR WindGenus_n8
noncomputable def WindGenus_n15 : Code := cL WindGenus_n13
noncomputable def WindGenus_n16 : Code := cR WindGenus_n13
noncomputable def WindGenus_n17 : Code := cL WindGenus_n16
noncomputable def WindGenus_n18 : Code := cR WindGenus_n16
noncomputable def WindGenus_n19 : Code := cL WindGenus_n17
noncomputable def WindGenus_n20 : Code := cR WindGenus_n17
noncomputable def WindGenus_n21 : Code := cL WindGenus_n14
noncomputable def WindGenus_n22 : Code := cR WindGenus_n14
set_option maxRecDepth 10000 in
theorem WindGenus_t {w : World} {M : Hp} {X : Fr} (d : Dg) {dcrsA : Option Addr} {dcrsc : Nat} (hdcrs : RdA cdCr M dcrsA dcrsc d.crs) (S : SH w M X []) : Ct Try.prog 10 [.agg [.slice dcrsA d.crs.length dcrsc, .int .i64 d.loops].toArray] w M X (fun u _ => u = .bool true) := by
  unfold Ct
  have rmhdcrs : d.crs.length * 40 ≤ 140737488355328 := hdcrs.room
  have hcs := errG_cases d
  refine calls_in (b := WindGenus_n0) Try.func10 rfl Try.ntmps10 rfl (fun C hC => ?_)
  refine ws_sub [(0, _)] ⟨rfl, trivial⟩ ?_
  refine ws_seqN WindGenus_n1 WindGenus_n2 rfl rfl rfl ?_
  refine ws_region rfl ?_
  refine wl_op (k := 0) (k' := 1) rfl rfl rfl (wo_box (l := [_, _]) rfl rfl rfl rfl rfl S ?_)
  intro gb1 w1 S1; clear S
  refine wl_op (k := 1) (k' := 2) rfl rfl rfl (wo_run rfl rfl (run_assign rfl rfl) ?_)
  refine wl_end rfl ?_
  refine nm_sub [(1, _)] ⟨rfl, trivial⟩ ?_
  refine nm_thn ?_
  refine ws_seqN WindGenus_n3 WindGenus_n4 rfl rfl rfl ?_
  refine ws_region rfl ?_
  refine wl_op (k := 0) (k' := 1) rfl rfl rfl (wo_run rfl rfl (run_loadN (us := [_, _]) rfl rfl Try.underlying27 rfl sz27 (S1.boxcs (i := 0) rfl ⟨rfl, rfl, trivial⟩)) ?_)
  refine wl_op (k := 1) (k' := 2) rfl rfl rfl (wo_ct rfl rfl rfl rfl rfl rfl rfl cf16 S1 (DiagramOf_t d (hdcrs.mono (Hp.le_un _ _)) S1.lend) ?_)
  intro vw2 w2 M1 hle1 S2 hRw2; clear S1
  replace hdcrs := hdcrs.mono hle1
  obtain ⟨A1, c1, rfl, hr1⟩ := hRw2
  refine wl_op (k := 2) (k' := 3) rfl rfl rfl (wo_ct rfl rfl rfl rfl rfl rfl rfl cf41 S2 (Genus_t d (hr1.mono (Hp.le_un _ _)) S2.lend) ?_)
  intro vw3 w3 M2 hle2 S3 hRw3; clear S2
  replace hdcrs := hdcrs.mono hle2
  replace hr1 := hr1.mono hle2
  obtain rfl := hRw3
  refine wl_op (k := 3) (k' := 4) rfl rfl rfl (wo_run rfl rfl (run_move rfl rfl) ?_)
  refine wl_op (k := 4) (k' := 5) rfl rfl rfl (wo_run rfl rfl (run_extract rfl rfl rfl) ?_)
  refine wl_op (k := 5) (k' := 6) rfl rfl rfl (wo_run rfl rfl (run_extract rfl rfl rfl) ?_)
  refine wl_op (k := 6) (k' := 7) rfl rfl rfl (wo_run rfl rfl (run_assign rfl rfl) ?_)
  refine wl_op (k := 7) (k' := 8) rfl rfl rfl (wo_run rfl rfl (run_assign rfl rfl) ?_)
  refine wl_end rfl ?_
  refine nm_sub [(1, _), (3, _), (4, _)] ⟨rfl, rfl, rfl, trivial⟩ ?_
  refine nm_thn ?_
  refine ws_seqN WindGenus_n5 WindGenus_n6 rfl rfl rfl ?_
  refine ws_region rfl ?_
  refine wl_op (k := 0) (k' := 1) rfl rfl rfl (wo_run rfl rfl (run_loadN (us := [_, _]) rfl rfl Try.underlying27 rfl sz27 (S3.boxcs (i := 0) rfl ⟨rfl, rfl, trivial⟩)) ?_)
  refine wl_op (k := 1) (k' := 2) rfl rfl rfl (wo_ct rfl rfl rfl rfl rfl rfl rfl cf39 S3 (PlanarMay_t d (hdcrs.mono (Hp.le_un _ _)) S3.lend) ?_)
  intro vw4 w4 M3 hle3 S4 hRw4; clear S3
  replace hdcrs := hdcrs.mono hle3
  replace hr1 := hr1.mono hle3
  obtain rfl := hRw4
  refine wl_op (k := 2) (k' := 3) rfl rfl rfl (wo_run rfl rfl (run_assign rfl rfl) ?_)
  refine wl_end rfl ?_
  refine nm_sub [(1, _), (3, _), (4, _), (5, _)] ⟨rfl, rfl, rfl, rfl, trivial⟩ ?_
  refine nm_thn ?_
  refine ws_seqN WindGenus_n7 WindGenus_n8 rfl rfl rfl ?_
  refine ws_seqN WindGenus_n9 WindGenus_n10 rfl rfl rfl ?_
  refine ws_region rfl ?_
  refine wl_op (k := 0) (k' := 1) rfl rfl rfl (wo_run rfl rfl (run_move rfl rfl) ?_)
  refine wl_op (k := 1) (k' := 2) rfl rfl rfl (wo_run rfl rfl (run_eql rfl rfl rfl) ?_)
  refine wl_op (k := 2) (k' := 3) rfl rfl rfl (wo_run rfl rfl (run_move rfl rfl) ?_)
  refine wl_split (t := 16) rfl (fun hg16 => ?_) (fun hg16 => ?_)
  · have hg16 := of_decide_eq_true hg16
    refine wl_opG (k := 3) (k' := 4) rfl rfl ⟨_, _, _, rfl, rfl, rfl, rfl⟩ rfl (wo_run rfl rfl (run_loadN (us := [_, _]) rfl rfl Try.underlying27 rfl sz27 (S4.boxcs (i := 0) rfl ⟨rfl, rfl, trivial⟩)) ?_)
    refine wl_opG (k := 4) (k' := 5) rfl rfl ⟨_, _, _, rfl, rfl, rfl, rfl⟩ rfl (wo_ct rfl rfl rfl rfl rfl rfl rfl cf42 S4 (OnePiece_t d (hdcrs.mono (Hp.le_un _ _)) ((mayO (errO_ok (by omega)).1).1) ((mayO (errO_ok (by omega)).1).2.1) S4.lend) ?_)
    intro vw5 w5 M4 hle4 S5 hRw5; clear S4
    replace hdcrs := hdcrs.mono hle4
    replace hr1 := hr1.mono hle4
    obtain rfl := hRw5
    refine wl_opG (k := 5) (k' := 6) rfl rfl ⟨_, _, _, rfl, rfl, rfl, rfl⟩ rfl (wo_run rfl rfl (run_not rfl rfl) ?_)
    refine wl_op (k := 6) (k' := 7) rfl rfl rfl (wo_run rfl rfl (run_pickT rfl rfl rfl) ?_)
    refine wl_end rfl ?_
    refine nm_sub [(1, _), (3, _), (4, _), (5, _), (20, _)] ⟨rfl, rfl, rfl, rfl, rfl, trivial⟩ ?_
    refine nm_thn ?_
    refine ws_condN WindGenus_n11 WindGenus_n12 rfl rfl rfl rfl (fun hb20 => ?_) (fun hb20 => ?_)
    · simp only [Bool.and_eq_true, Bool.or_eq_true, Bool.and_eq_false_iff, Bool.or_eq_false_iff, decide_eq_true_eq, decide_eq_false_iff_not, Bool.not_eq_true', Bool.not_eq_false'] at hb20
      refine ws_region rfl ?_
      refine wl_op (k := 0) (k' := 1) rfl rfl rfl (wo_run rfl rfl (run_assign rfl rfl) ?_)
      refine wl_end rfl ?_
      refine nm_sub [(1, _), (3, _), (4, _), (5, _)] ⟨rfl, rfl, rfl, rfl, trivial⟩ ?_
      refine nm_thn ?_
      refine ws_seqN WindGenus_n13 WindGenus_n14 rfl rfl rfl ?_
      refine ws_seqN WindGenus_n15 WindGenus_n16 rfl rfl rfl ?_
      refine ws_region rfl ?_
      refine wl_op (k := 0) (k' := 1) rfl rfl rfl (wo_run rfl rfl (run_move rfl rfl) ?_)
      refine wl_op (k := 1) (k' := 2) rfl rfl rfl (wo_run rfl rfl (run_neq rfl rfl rfl) ?_)
      refine wl_end rfl ?_
      refine nm_sub [(1, _), (3, _), (4, _), (5, _), (22, _)] ⟨rfl, rfl, rfl, rfl, rfl, trivial⟩ ?_
      refine nm_thn ?_
      refine ws_condN WindGenus_n17 WindGenus_n18 rfl rfl rfl rfl (fun hb22 => ?_) (fun hb22 => ?_)
      · have hb22 := of_decide_eq_true hb22
        refine ws_seqN WindGenus_n19 WindGenus_n20 rfl rfl rfl ?_
        refine ws_region rfl ?_
        refine wl_op (k := 0) (k' := 1) rfl rfl rfl (wo_run rfl rfl (run_move rfl rfl) ?_)
        refine wl_op (k := 1) (k' := 2) rfl rfl rfl (wo_run rfl rfl (run_move rfl rfl) ?_)
        refine wl_op (k := 2) (k' := 3) rfl rfl rfl (wo_run rfl rfl (run_eql rfl rfl rfl) ?_)
        refine wl_op (k := 3) (k' := 4) rfl rfl rfl (wo_run rfl rfl (run_move rfl rfl) ?_)
        refine wl_split (t := 26) rfl (fun hg26 => ?_) (fun hg26 => ?_)
        · have hg26 := of_decide_eq_true hg26
          refine wl_opG (k := 4) (k' := 5) rfl rfl ⟨_, _, _, rfl, rfl, rfl, rfl⟩ rfl (wo_run rfl rfl (run_move rfl rfl) ?_)
          refine wl_opG (k := 5) (k' := 6) rfl rfl ⟨_, _, _, rfl, rfl, rfl, rfl⟩ rfl (wo_run rfl rfl (run_eql rfl rfl rfl) ?_)
          refine wl_op (k := 6) (k' := 7) rfl rfl rfl (wo_run rfl rfl (run_pickT rfl rfl rfl) ?_)
          refine wl_op (k := 7) (k' := 8) rfl rfl rfl (wo_run rfl rfl (run_assign rfl rfl) ?_)
          refine wl_end rfl ?_
          refine nm_sub [(2, _)] ⟨rfl, trivial⟩ ?_
          refine nm_thn ?_
          refine ws_ret hC [_] rfl rfl ⟨rfl, trivial⟩ ?_
          refine ⟨_, rfl, _, ((hle1.trans hle2).trans hle3).trans hle4, (S5.pick [] [] (by decide) trivial), ?_⟩
          show Value.bool _ = _
          refine congrArg Value.bool ?_
          first | rfl | (rw [decide_eq_true_iff]; omega) | (simp_all; done) | (rcases hcs with hc | hc | hc <;> simp_all)
        · have hg26 := of_decide_eq_false hg26
          exfalso; first | omega | (simp_all; done) | contradiction
      · have hb22 := of_decide_eq_false hb22
        refine ws_skip rfl ?_
        refine nm_sub [(1, _), (3, _), (4, _)] ⟨rfl, rfl, rfl, trivial⟩ ?_
        refine nm_thn ?_
        refine ws_seqN WindGenus_n21 WindGenus_n22 rfl rfl rfl ?_
        refine ws_region rfl ?_
        refine wl_op (k := 0) (k' := 1) rfl rfl rfl (wo_run rfl rfl (run_move rfl rfl) ?_)
        refine wl_op (k := 1) (k' := 2) rfl rfl rfl (wo_run rfl rfl (run_eql rfl rfl rfl) ?_)
        refine wl_op (k := 2) (k' := 3) rfl rfl rfl (wo_run rfl rfl (run_move rfl rfl) ?_)
        refine wl_split (t := 32) rfl (fun hg32 => ?_) (fun hg32 => ?_)
        · have hg32 := of_decide_eq_true hg32
          refine wl_opG (k := 3) (k' := 4) rfl rfl ⟨_, _, _, rfl, rfl, rfl, rfl⟩ rfl (wo_run rfl rfl (run_move rfl rfl) ?_)
          refine wl_opG (k := 4) (k' := 5) rfl rfl ⟨_, _, _, rfl, rfl, rfl, rfl⟩ rfl (wo_run rfl rfl (run_loadN (us := [_, _]) rfl rfl Try.underlying27 rfl sz27 (S5.boxcs (i := 0) rfl ⟨rfl, rfl, trivial⟩)) ?_)
          refine wl_opG (k := 5) (k' := 6) rfl rfl ⟨_, _, _, rfl, rfl, rfl, rfl⟩ rfl (wo_ct rfl rfl rfl rfl rfl rfl rfl cf43 S5 (GenusOf_t d (hdcrs.mono (Hp.le_un _ _)) ((mayO (errO_ok (by omega)).1).1) ((mayO (errO_ok (by omega)).1).2.1) S5.lend) ?_)
          intro vw6 w6 M5 hle5 S6 hRw6; clear S5
          replace hdcrs := hdcrs.mono hle5
          replace hr1 := hr1.mono hle5
          obtain rfl := hRw6
          refine wl_opG (k := 6) (k' := 7) rfl rfl ⟨_, _, _, rfl, rfl, rfl, rfl⟩ rfl (wo_run rfl rfl (run_eql rfl rfl rfl) ?_)
          refine wl_op (k := 7) (k' := 8) rfl rfl rfl (wo_run rfl rfl (run_pickT rfl rfl rfl) ?_)
          refine wl_op (k := 8) (k' := 9) rfl rfl rfl (wo_run rfl rfl (run_assign rfl rfl) ?_)
          refine wl_end rfl ?_
          refine nm_sub [(2, _)] ⟨rfl, trivial⟩ ?_
          refine nm_thn ?_
          refine ws_ret hC [_] rfl rfl ⟨rfl, trivial⟩ ?_
          refine ⟨_, rfl, _, (((hle1.trans hle2).trans hle3).trans hle4).trans hle5, (S6.pick [] [] (by decide) trivial), ?_⟩
          show Value.bool _ = _
          refine congrArg Value.bool ?_
          first | rfl | (rw [decide_eq_true_iff]; omega) | (simp_all; done) | (rcases hcs with hc | hc | hc <;> simp_all)
        · have hg32 := of_decide_eq_false hg32
          exfalso; first | omega | (simp_all; done) | contradiction
    · simp only [Bool.and_eq_true, Bool.or_eq_true, Bool.and_eq_false_iff, Bool.or_eq_false_iff, decide_eq_true_eq, decide_eq_false_iff_not, Bool.not_eq_true', Bool.not_eq_false'] at hb20
      refine ws_skip rfl ?_
      refine nm_sub [(1, _), (3, _), (4, _), (5, _)] ⟨rfl, rfl, rfl, rfl, trivial⟩ ?_
      refine nm_thn ?_
      refine ws_seqN WindGenus_n13 WindGenus_n14 rfl rfl rfl ?_
      refine ws_seqN WindGenus_n15 WindGenus_n16 rfl rfl rfl ?_
      refine ws_region rfl ?_
      refine wl_op (k := 0) (k' := 1) rfl rfl rfl (wo_run rfl rfl (run_move rfl rfl) ?_)
      refine wl_op (k := 1) (k' := 2) rfl rfl rfl (wo_run rfl rfl (run_neq rfl rfl rfl) ?_)
      refine wl_end rfl ?_
      refine nm_sub [(1, _), (3, _), (4, _), (5, _), (22, _)] ⟨rfl, rfl, rfl, rfl, rfl, trivial⟩ ?_
      refine nm_thn ?_
      refine ws_condN WindGenus_n17 WindGenus_n18 rfl rfl rfl rfl (fun hb22 => ?_) (fun hb22 => ?_)
      · have hb22 := of_decide_eq_true hb22
        refine ws_seqN WindGenus_n19 WindGenus_n20 rfl rfl rfl ?_
        refine ws_region rfl ?_
        refine wl_op (k := 0) (k' := 1) rfl rfl rfl (wo_run rfl rfl (run_move rfl rfl) ?_)
        refine wl_op (k := 1) (k' := 2) rfl rfl rfl (wo_run rfl rfl (run_move rfl rfl) ?_)
        refine wl_op (k := 2) (k' := 3) rfl rfl rfl (wo_run rfl rfl (run_eql rfl rfl rfl) ?_)
        refine wl_op (k := 3) (k' := 4) rfl rfl rfl (wo_run rfl rfl (run_move rfl rfl) ?_)
        refine wl_split (t := 26) rfl (fun hg26 => ?_) (fun hg26 => ?_)
        · have hg26 := of_decide_eq_true hg26
          refine wl_opG (k := 4) (k' := 5) rfl rfl ⟨_, _, _, rfl, rfl, rfl, rfl⟩ rfl (wo_run rfl rfl (run_move rfl rfl) ?_)
          refine wl_opG (k := 5) (k' := 6) rfl rfl ⟨_, _, _, rfl, rfl, rfl, rfl⟩ rfl (wo_run rfl rfl (run_eql rfl rfl rfl) ?_)
          refine wl_op (k := 6) (k' := 7) rfl rfl rfl (wo_run rfl rfl (run_pickT rfl rfl rfl) ?_)
          refine wl_op (k := 7) (k' := 8) rfl rfl rfl (wo_run rfl rfl (run_assign rfl rfl) ?_)
          refine wl_end rfl ?_
          refine nm_sub [(2, _)] ⟨rfl, trivial⟩ ?_
          refine nm_thn ?_
          refine ws_ret hC [_] rfl rfl ⟨rfl, trivial⟩ ?_
          refine ⟨_, rfl, _, ((hle1.trans hle2).trans hle3).trans hle4, (S5.pick [] [] (by decide) trivial), ?_⟩
          show Value.bool _ = _
          refine congrArg Value.bool ?_
          first | rfl | (rw [decide_eq_true_iff]; omega) | (simp_all; done) | (rcases hcs with hc | hc | hc <;> simp_all)
        · have hg26 := of_decide_eq_false hg26
          exfalso; first | omega | (simp_all; done) | contradiction
      · have hb22 := of_decide_eq_false hb22
        refine ws_skip rfl ?_
        refine nm_sub [(1, _), (3, _), (4, _)] ⟨rfl, rfl, rfl, trivial⟩ ?_
        refine nm_thn ?_
        refine ws_seqN WindGenus_n21 WindGenus_n22 rfl rfl rfl ?_
        refine ws_region rfl ?_
        refine wl_op (k := 0) (k' := 1) rfl rfl rfl (wo_run rfl rfl (run_move rfl rfl) ?_)
        refine wl_op (k := 1) (k' := 2) rfl rfl rfl (wo_run rfl rfl (run_eql rfl rfl rfl) ?_)
        refine wl_op (k := 2) (k' := 3) rfl rfl rfl (wo_run rfl rfl (run_move rfl rfl) ?_)
        refine wl_split (t := 32) rfl (fun hg32 => ?_) (fun hg32 => ?_)
        · have hg32 := of_decide_eq_true hg32
          refine wl_opG (k := 3) (k' := 4) rfl rfl ⟨_, _, _, rfl, rfl, rfl, rfl⟩ rfl (wo_run rfl rfl (run_move rfl rfl) ?_)
          refine wl_opG (k := 4) (k' := 5) rfl rfl ⟨_, _, _, rfl, rfl, rfl, rfl⟩ rfl (wo_run rfl rfl (run_loadN (us := [_, _]) rfl rfl Try.underlying27 rfl sz27 (S5.boxcs (i := 0) rfl ⟨rfl, rfl, trivial⟩)) ?_)
          refine wl_opG (k := 5) (k' := 6) rfl rfl ⟨_, _, _, rfl, rfl, rfl, rfl⟩ rfl (wo_ct rfl rfl rfl rfl rfl rfl rfl cf43 S5 (GenusOf_t d (hdcrs.mono (Hp.le_un _ _)) ((mayO (errO_ok (by omega)).1).1) ((mayO (errO_ok (by omega)).1).2.1) S5.lend) ?_)
          intro vw7 w7 M6 hle6 S7 hRw7; clear S5
          replace hdcrs := hdcrs.mono hle6
          replace hr1 := hr1.mono hle6
          obtain rfl := hRw7
          refine wl_opG (k := 6) (k' := 7) rfl rfl ⟨_, _, _, rfl, rfl, rfl, rfl⟩ rfl (wo_run rfl rfl (run_eql rfl rfl rfl) ?_)
          refine wl_op (k := 7) (k' := 8) rfl rfl rfl (wo_run rfl rfl (run_pickT rfl rfl rfl) ?_)
          refine wl_op (k := 8) (k' := 9) rfl rfl rfl (wo_run rfl rfl (run_assign rfl rfl) ?_)
          refine wl_end rfl ?_
          refine nm_sub [(2, _)] ⟨rfl, trivial⟩ ?_
          refine nm_thn ?_
          refine ws_ret hC [_] rfl rfl ⟨rfl, trivial⟩ ?_
          refine ⟨_, rfl, _, (((hle1.trans hle2).trans hle3).trans hle4).trans hle6, (S7.pick [] [] (by decide) trivial), ?_⟩
          show Value.bool _ = _
          refine congrArg Value.bool ?_
          first | rfl | (rw [decide_eq_true_iff]; omega) | (simp_all; done) | (rcases hcs with hc | hc | hc <;> simp_all)
        · have hg32 := of_decide_eq_false hg32
          exfalso; first | omega | (simp_all; done) | contradiction
  · have hg16 := of_decide_eq_false hg16
    refine wl_no (k := 3) (k' := 4) (d := 17) rfl rfl ⟨_, _, _, rfl, rfl, rfl, rfl⟩ rfl rfl ?_
    refine wl_no (k := 4) (k' := 5) (d := 18) rfl rfl ⟨_, _, _, rfl, rfl, rfl, rfl⟩ rfl rfl ?_
    refine wl_no (k := 5) (k' := 6) (d := 19) rfl rfl ⟨_, _, _, rfl, rfl, rfl, rfl⟩ rfl rfl ?_
    refine wl_op (k := 6) (k' := 7) rfl rfl rfl (wo_run rfl rfl (run_pickF rfl rfl rfl) ?_)
    refine wl_end rfl ?_
    refine nm_sub [(1, _), (3, _), (4, _), (5, _), (20, _)] ⟨rfl, rfl, rfl, rfl, rfl, trivial⟩ ?_
    refine nm_thn ?_
    refine ws_condFN WindGenus_n12 rfl rfl rfl ?_
    refine ws_skip rfl ?_
    refine nm_sub [(1, _), (3, _), (4, _), (5, _)] ⟨rfl, rfl, rfl, rfl, trivial⟩ ?_
    refine nm_thn ?_
    refine ws_seqN WindGenus_n13 WindGenus_n14 rfl rfl rfl ?_
    refine ws_seqN WindGenus_n15 WindGenus_n16 rfl rfl rfl ?_
    refine ws_region rfl ?_
    refine wl_op (k := 0) (k' := 1) rfl rfl rfl (wo_run rfl rfl (run_move rfl rfl) ?_)
    refine wl_op (k := 1) (k' := 2) rfl rfl rfl (wo_run rfl rfl (run_neq rfl rfl rfl) ?_)
    refine wl_end rfl ?_
    refine nm_sub [(1, _), (3, _), (4, _), (5, _), (22, _)] ⟨rfl, rfl, rfl, rfl, rfl, trivial⟩ ?_
    refine nm_thn ?_
    refine ws_condN WindGenus_n17 WindGenus_n18 rfl rfl rfl rfl (fun hb22 => ?_) (fun hb22 => ?_)
    · have hb22 := of_decide_eq_true hb22
      refine ws_seqN WindGenus_n19 WindGenus_n20 rfl rfl rfl ?_
      refine ws_region rfl ?_
      refine wl_op (k := 0) (k' := 1) rfl rfl rfl (wo_run rfl rfl (run_move rfl rfl) ?_)
      refine wl_op (k := 1) (k' := 2) rfl rfl rfl (wo_run rfl rfl (run_move rfl rfl) ?_)
      refine wl_op (k := 2) (k' := 3) rfl rfl rfl (wo_run rfl rfl (run_eql rfl rfl rfl) ?_)
      refine wl_op (k := 3) (k' := 4) rfl rfl rfl (wo_run rfl rfl (run_move rfl rfl) ?_)
      refine wl_split (t := 26) rfl (fun hg26 => ?_) (fun hg26 => ?_)
      · have hg26 := of_decide_eq_true hg26
        refine wl_opG (k := 4) (k' := 5) rfl rfl ⟨_, _, _, rfl, rfl, rfl, rfl⟩ rfl (wo_run rfl rfl (run_move rfl rfl) ?_)
        refine wl_opG (k := 5) (k' := 6) rfl rfl ⟨_, _, _, rfl, rfl, rfl, rfl⟩ rfl (wo_run rfl rfl (run_eql rfl rfl rfl) ?_)
        refine wl_op (k := 6) (k' := 7) rfl rfl rfl (wo_run rfl rfl (run_pickT rfl rfl rfl) ?_)
        refine wl_op (k := 7) (k' := 8) rfl rfl rfl (wo_run rfl rfl (run_assign rfl rfl) ?_)
        refine wl_end rfl ?_
        refine nm_sub [(2, _)] ⟨rfl, trivial⟩ ?_
        refine nm_thn ?_
        refine ws_ret hC [_] rfl rfl ⟨rfl, trivial⟩ ?_
        refine ⟨_, rfl, _, (hle1.trans hle2).trans hle3, (S4.pick [] [] (by decide) trivial), ?_⟩
        show Value.bool _ = _
        refine congrArg Value.bool ?_
        first | rfl | (rw [decide_eq_true_iff]; omega) | (simp_all; done) | (rcases hcs with hc | hc | hc <;> simp_all)
      · have hg26 := of_decide_eq_false hg26
        exfalso; first | omega | (simp_all; done) | contradiction
    · have hb22 := of_decide_eq_false hb22
      refine ws_skip rfl ?_
      refine nm_sub [(1, _), (3, _), (4, _)] ⟨rfl, rfl, rfl, trivial⟩ ?_
      refine nm_thn ?_
      refine ws_seqN WindGenus_n21 WindGenus_n22 rfl rfl rfl ?_
      refine ws_region rfl ?_
      refine wl_op (k := 0) (k' := 1) rfl rfl rfl (wo_run rfl rfl (run_move rfl rfl) ?_)
      refine wl_op (k := 1) (k' := 2) rfl rfl rfl (wo_run rfl rfl (run_eql rfl rfl rfl) ?_)
      refine wl_op (k := 2) (k' := 3) rfl rfl rfl (wo_run rfl rfl (run_move rfl rfl) ?_)
      refine wl_split (t := 32) rfl (fun hg32 => ?_) (fun hg32 => ?_)
      · have hg32 := of_decide_eq_true hg32
        refine wl_opG (k := 3) (k' := 4) rfl rfl ⟨_, _, _, rfl, rfl, rfl, rfl⟩ rfl (wo_run rfl rfl (run_move rfl rfl) ?_)
        refine wl_opG (k := 4) (k' := 5) rfl rfl ⟨_, _, _, rfl, rfl, rfl, rfl⟩ rfl (wo_run rfl rfl (run_loadN (us := [_, _]) rfl rfl Try.underlying27 rfl sz27 (S4.boxcs (i := 0) rfl ⟨rfl, rfl, trivial⟩)) ?_)
        refine wl_opG (k := 5) (k' := 6) rfl rfl ⟨_, _, _, rfl, rfl, rfl, rfl⟩ rfl (wo_ct rfl rfl rfl rfl rfl rfl rfl cf43 S4 (GenusOf_t d (hdcrs.mono (Hp.le_un _ _)) ((mayO (errO_ok (by omega)).1).1) ((mayO (errO_ok (by omega)).1).2.1) S4.lend) ?_)
        intro vw8 w8 M7 hle7 S8 hRw8; clear S4
        replace hdcrs := hdcrs.mono hle7
        replace hr1 := hr1.mono hle7
        obtain rfl := hRw8
        refine wl_opG (k := 6) (k' := 7) rfl rfl ⟨_, _, _, rfl, rfl, rfl, rfl⟩ rfl (wo_run rfl rfl (run_eql rfl rfl rfl) ?_)
        refine wl_op (k := 7) (k' := 8) rfl rfl rfl (wo_run rfl rfl (run_pickT rfl rfl rfl) ?_)
        refine wl_op (k := 8) (k' := 9) rfl rfl rfl (wo_run rfl rfl (run_assign rfl rfl) ?_)
        refine wl_end rfl ?_
        refine nm_sub [(2, _)] ⟨rfl, trivial⟩ ?_
        refine nm_thn ?_
        refine ws_ret hC [_] rfl rfl ⟨rfl, trivial⟩ ?_
        refine ⟨_, rfl, _, ((hle1.trans hle2).trans hle3).trans hle7, (S8.pick [] [] (by decide) trivial), ?_⟩
        show Value.bool _ = _
        refine congrArg Value.bool ?_
        first | rfl | (rw [decide_eq_true_iff]; omega) | (simp_all; done) | (rcases hcs with hc | hc | hc <;> simp_all)
      · have hg32 := of_decide_eq_false hg32
        exfalso; first | omega | (simp_all; done) | contradiction


end Go.Proofs.Ytlbpgnimpcflaaa
