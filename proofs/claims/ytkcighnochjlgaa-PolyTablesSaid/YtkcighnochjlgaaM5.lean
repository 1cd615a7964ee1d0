/- Walks printed by eng.py. -/
import Derived.Test.YtkcighnochjlgaaM4
set_option linter.unusedSimpArgs false
set_option linter.unusedVariables false
namespace Go.Proofs.Ytkcighnochjlgaa
open Go.ChangeShapes Go.WideShapes Go.ChangeAt Go.RowKit
/-- A list and an error: nothing is handed out, or a polynomial in form. -/
def PTE (ok : Bool) (B : Nat) (p : Pol) (u : Value) (N : Hp) : Prop := (ok = false ∧ u = .tuple [.slice none 0 0, .int .i64 1].toArray) ∨ (ok = true ∧ ∃ A c l, u = .tuple [.slice A l.length c, .int .i64 0].toArray ∧ RdA cdTm N A c l ∧ Can l ∧ Bd l B ∧ mk (pr l) = p)
def atR (a : List Tm) (t : Int) : Int × Int := if mayT a = true then (if t = 1 ∨ t = -1 then (atN a t a.length, 0) else (0, 3)) else (0, 1)
def atX (a : List Tm) (t : Int) (i : Nat) : Prop := Int.tmod (ga a i).e 2 ≠ 0 ∧ t = -1
instance (a : List Tm) (t : Int) (i : Nat) : Decidable (atX a t i) := by unfold atX; infer_instance
theorem atN_pos {a : List Tm} {t : Int} {i : Nat} (h : atX a t i) : atN a t (i + 1) = wr (atN a t i - (ga a i).c) := by rw [atN]; exact if_pos h
theorem atN_neg {a : List Tm} {t : Int} {i : Nat} (h : ¬ atX a t i) : atN a t (i + 1) = wr (atN a t i + (ga a i).c) := by rw [atN]; exact if_neg h

noncomputable def AtOf_n0 : Code := Try.f25.body.getD .skip
noncomputable def AtOf_n1 : Code := cL AtOf_n0
noncomputable def AtOf_n2 : Code := cR AtOf_n0
noncomputable def AtOf_n3 : Code := cL AtOf_n2
noncomputable def AtOf_n4 : Code := cR AtOf_n2
noncomputable def AtOf_n5 : Code := cL AtOf_n4
noncomputable def AtOf_n6 : Code := cR AtOf_n4
noncomputable def AtOf_n7 : Code := cL AtOf_n5
noncomputable def AtOf_n8 : Code := cR AtOf_n5
noncomputable def AtOf_n9 : Code := cL AtOf_n8
noncomputable def AtOf_n10 : Code := cL AtOf_n9
noncomputable def AtOf_n11 : Code := cL AtOf_n10
noncomputable def AtOf_n12 : Code := cR AtOf_n10
noncomputable def AtOf_n13 : Code := cL AtOf_n11
noncomputable def AtOf_n14 : Code := cR AtOf_n11
noncomputable def AtOf_n15 : Code := cL AtOf_n14
noncomputable def AtOf_n16 : Code := cR AtOf_n14
noncomputable def AtOf_n17 : Code := cL AtOf_n12
noncomputable def AtOf_n18 : Code := cR AtOf_n12
noncomputable def AtOf_n19 : Code := cL AtOf_n17
noncomputable def AtOf_n20 : Code := cL AtOf_n19
noncomputable def AtOf_n21 : Code := cR AtOf_n19
noncomputable def AtOf_n22 : Code := cL AtOf_n21
noncomputable def AtOf_n23 : Code := cR AtOf_n21
noncomputable def AtOf_n24 : Code := cL AtOf_n23
noncomputable def AtOf_n25 : Code := cR AtOf_n23
noncomputable def AtOf_n26 : Code := cL AtOf_n6
noncomputable def AtOf_n27 : Code := cR AtOf_n6
set_option maxRecDepth 10000 in
theorem AtOf_q {w : World} {M : Hp} {X : Fr} (a : List Tm) {aA : Option Addr} {ac : Nat} (t : Int) (ha : RdA cdTm (M.un X.h) aA ac a) (S : SH w M X []) : Cq Try.prog 25 [.slice aA a.length ac, .int .i64 t] w M X (fun u => u = .int .i64 (atN a t a.length)) := by
  unfold Cq
  have rmha : a.length * 16 ≤ 140737488355328 := ha.room
  refine calls_in (b := AtOf_n0) Try.func25 rfl Try.ntmps25 rfl (fun C hC => ?_)
  refine ws_sub [(0, _), (1, _)] ⟨rfl, rfl, trivial⟩ ?_
  refine ws_seqN AtOf_n1 AtOf_n2 rfl rfl rfl ?_
  refine ws_region rfl ?_
  refine wl_op (k := 0) (k' := 1) rfl rfl rfl (wo_run rfl rfl (run_assign rfl rfl) ?_)
  refine wl_end rfl ?_
  refine nm_sub [(0, _), (1, _)] ⟨rfl, rfl, trivial⟩ ?_
  refine nm_thn ?_
  refine ws_seqN AtOf_n3 AtOf_n4 rfl rfl rfl ?_
  refine ws_region rfl ?_
  refine wl_op (k := 0) (k' := 1) rfl rfl rfl (wo_run rfl rfl (run_assign rfl rfl) ?_)
  refine wl_end rfl ?_
  refine nm_thn ?_
  refine ws_seqN AtOf_n5 AtOf_n6 rfl rfl rfl ?_
  refine ws_seqN AtOf_n7 AtOf_n8 rfl rfl rfl ?_
  refine ws_region rfl ?_
  refine wl_op (k := 0) (k' := 1) rfl rfl rfl (wo_run rfl rfl (run_assign rfl rfl) ?_)
  refine wl_end rfl ?_
  refine nm_thn ?_
  refine ws_blockN AtOf_n9 0 rfl rfl rfl ?_
  refine ws_loopE (fun mx_ ax_ wx_ => ∃ (i : Nat), mx_ = a.length - i ∧ Env 41 [(0, .slice aA a.length ac), (1, .int .i64 t), (5, .int .i64 (atN a t i)), (6, .int .i64 (i : Int))] ax_ ∧ SH wx_ M X [] ∧ i ≤ a.length) rfl ?_ ?_
  · intro ax_ hax_
    refine ⟨_, ⟨0, rfl, hax_.sub ⟨rfl, rfl, rfl, rfl, trivial⟩, S.pick [] [] (by decide) trivial, ?hq1f0⟩⟩
    case hq1f0 => omega
  · rintro m1 a1 w1 ⟨i, rfl, he1, S1, hi⟩
    clear S
    refine ws_in he1 (c := AtOf_n10) rfl ?_
    clear he1 a1
    refine ws_seqN AtOf_n11 AtOf_n12 rfl rfl rfl ?_
    refine ws_seqN AtOf_n13 AtOf_n14 rfl rfl rfl ?_
    refine ws_region rfl ?_
    refine wl_op (k := 0) (k' := 1) rfl rfl rfl (wo_run rfl rfl (run_move rfl rfl) ?_)
    refine wl_op (k := 1) (k' := 2) rfl rfl rfl (wo_run rfl rfl (run_move rfl rfl) ?_)
    refine wl_op (k := 2) (k' := 3) rfl rfl rfl (wo_run rfl rfl (run_len rfl rfl rfl rfl rfl rfl Try.underlying22) ?_)
    refine wl_op (k := 3) (k' := 4) rfl rfl rfl (wo_run rfl rfl (run_lss rfl rfl rfl) ?_)
    refine wl_end rfl ?_
    refine nm_sub [(0, _), (1, _), (5, _), (6, _), (11, _)] ⟨rfl, rfl, rfl, rfl, rfl, trivial⟩ ?_
    refine nm_thn ?_
    refine ws_condN AtOf_n15 AtOf_n16 rfl rfl rfl rfl (fun hb11 => ?_) (fun hb11 => ?_)
    · have hb11 := of_decide_eq_true hb11
      refine ws_skip rfl ?_
      refine nm_sub [(0, _), (1, _), (5, _), (6, _)] ⟨rfl, rfl, rfl, rfl, trivial⟩ ?_
      refine nm_thn ?_
      refine ws_seqN AtOf_n17 AtOf_n18 rfl rfl rfl ?_
      refine ws_blockN AtOf_n19 1 rfl rfl rfl ?_
      refine ws_seqN AtOf_n20 AtOf_n21 rfl rfl rfl ?_
      refine ws_region rfl ?_
      refine wl_op (k := 0) (k' := 1) rfl rfl rfl (wo_run rfl rfl (run_move rfl rfl) ?_)
      refine wl_op (k := 1) (k' := 2) rfl rfl rfl (wo_run rfl rfl (run_move rfl rfl) ?_)
      refine wl_op (k := 2) (k' := 3) rfl rfl rfl (wo_run rfl rfl (run_indexM (C := cdTm) i rfl rfl rfl sl22 (by first | rfl | omega) ha (by first | omega | (simp only [List.length_set, List.length_append, List.length_replicate, List.length_singleton, List.length_cons, List.length_nil]; omega))) ?_)
      refine wl_op (k := 3) (k' := 4) rfl rfl rfl (wo_run rfl rfl (run_fieldAddr rfl rfl Try.underlying89 rfl (ce3) (nf3)) ?_)
      refine wl_op (k := 4) (k' := 5) rfl rfl rfl (wo_run rfl rfl (run_load1 rfl rfl Try.underlying3 rfl (ha.cell S1.um (i := i) (by first | omega | (simp only [List.length_set, List.length_append, List.length_replicate, List.length_singleton, List.length_cons, List.length_nil]; omega)) 0 rfl rfl)) ?_)
      refine wl_op (k := 5) (k' := 6) rfl rfl rfl (wo_run rfl rfl (run_trem rfl rfl rfl (by decide)) ?_)
      refine wl_op (k := 6) (k' := 7) rfl rfl rfl (wo_run rfl rfl (run_neq rfl rfl rfl) ?_)
      refine wl_op (k := 7) (k' := 8) rfl rfl rfl (wo_run rfl rfl (run_assign rfl rfl) ?_)
      refine wl_end rfl ?_
      refine nm_sub [(0, _), (1, _), (5, _), (6, _), (7, _)] ⟨rfl, rfl, rfl, rfl, rfl, trivial⟩ ?_
      refine nm_thn ?_
      refine ws_seqN AtOf_n22 AtOf_n23 rfl rfl rfl ?_
      refine ws_region rfl ?_
      refine wl_op (k := 0) (k' := 1) rfl rfl rfl (wo_run rfl rfl (run_move rfl rfl) ?_)
      refine wl_op (k := 1) (k' := 2) rfl rfl rfl (wo_run rfl rfl (run_move rfl rfl) ?_)
      refine wl_split (t := 22) rfl (fun hg22 => ?_) (fun hg22 => ?_)
      · have hg22 := of_decide_eq_true hg22
        refine wl_opG (k := 2) (k' := 3) rfl rfl ⟨_, _, _, rfl, rfl, rfl, rfl⟩ rfl (wo_run rfl rfl (run_move rfl rfl) ?_)
        refine wl_opG (k := 3) (k' := 4) rfl rfl ⟨_, _, _, rfl, rfl, rfl, rfl⟩ rfl (wo_run rfl rfl (run_eql rfl rfl rfl) ?_)
        refine wl_op (k := 4) (k' := 5) rfl rfl rfl (wo_run rfl rfl (run_pickT rfl rfl rfl) ?_)
        refine wl_end rfl ?_
        refine nm_sub [(0, _), (1, _), (5, _), (6, _), (25, _)] ⟨rfl, rfl, rfl, rfl, rfl, trivial⟩ ?_
        refine nm_thn ?_
        refine ws_condN AtOf_n24 AtOf_n25 rfl rfl rfl rfl (fun hb25 => ?_) (fun hb25 => ?_)
        · have hb25 := of_decide_eq_true hb25
          refine ws_region rfl ?_
          refine wl_op (k := 0) (k' := 1) rfl rfl rfl (wo_run rfl rfl (run_move rfl rfl) ?_)
          refine wl_op (k := 1) (k' := 2) rfl rfl rfl (wo_run rfl rfl (run_move rfl rfl) ?_)
          refine wl_op (k := 2) (k' := 3) rfl rfl rfl (wo_run rfl rfl (run_move rfl rfl) ?_)
          refine wl_op (k := 3) (k' := 4) rfl rfl rfl (wo_run rfl rfl (run_indexM (C := cdTm) i rfl rfl rfl sl22 (by first | rfl | omega) ha (by first | omega | (simp only [List.length_set, List.length_append, List.length_replicate, List.length_singleton, List.length_cons, List.length_nil]; omega))) ?_)
          refine wl_op (k := 4) (k' := 5) rfl rfl rfl (wo_run rfl rfl (run_fieldAddr rfl rfl Try.underlying89 rfl (ce3) (nf3)) ?_)
          refine wl_op (k := 5) (k' := 6) rfl rfl rfl (wo_run rfl rfl (run_load1 rfl rfl Try.underlying3 rfl (ha.cell S1.um (i := i) (by first | omega | (simp only [List.length_set, List.length_append, List.length_replicate, List.length_singleton, List.length_cons, List.length_nil]; omega)) 1 rfl rfl)) ?_)
          refine wl_op (k := 6) (k' := 7) rfl rfl rfl (wo_run rfl rfl (run_subW rfl rfl rfl) ?_)
          refine wl_op (k := 7) (k' := 8) rfl rfl rfl (wo_run rfl rfl (run_assign rfl rfl) ?_)
          refine wl_end rfl ?_
          refine nm_blk ?_
          refine nm_sub [(0, _), (1, _), (5, _), (6, _)] ⟨rfl, rfl, rfl, rfl, trivial⟩ ?_
          refine nm_thn ?_
          refine ws_eq 5 (.int .i64 (atN a t (i + 1))) rfl (int_eq (by exact (atN_pos (by unfold atX; first | omega | (simp_all; done))).symm)) ?_
          refine ws_region rfl ?_
          refine wl_op (k := 0) (k' := 1) rfl rfl rfl (wo_run rfl rfl (run_move rfl rfl) ?_)
          refine wl_op (k := 1) (k' := 2) rfl rfl rfl (wo_run rfl rfl (run_add rfl rfl rfl (by first | omega | (simp only [List.length_set, List.length_append, List.length_replicate, List.length_singleton, List.length_cons, List.length_nil]; omega))) ?_)
          refine wl_op (k := 2) (k' := 3) rfl rfl rfl (wo_run rfl rfl (run_assign rfl rfl) ?_)
          refine wl_end rfl ?_
          refine nm_lp ?_
          intro ax_ hax_
          refine ⟨_, ?hq2m, ⟨i + 1, rfl, hax_.sub ⟨rfl, rfl, rfl, rfl, trivial⟩, S1.pick [] [] (by decide) trivial, ?hq2f0⟩⟩
          case hq2f0 => omega
          case hq2m => omega
        · have hb25 := of_decide_eq_false hb25
          refine ws_region rfl ?_
          refine wl_op (k := 0) (k' := 1) rfl rfl rfl (wo_run rfl rfl (run_move rfl rfl) ?_)
          refine wl_op (k := 1) (k' := 2) rfl rfl rfl (wo_run rfl rfl (run_move rfl rfl) ?_)
          refine wl_op (k := 2) (k' := 3) rfl rfl rfl (wo_run rfl rfl (run_move rfl rfl) ?_)
          refine wl_op (k := 3) (k' := 4) rfl rfl rfl (wo_run rfl rfl (run_indexM (C := cdTm) i rfl rfl rfl sl22 (by first | rfl | omega) ha (by first | omega | (simp only [List.length_set, List.length_append, List.length_replicate, List.length_singleton, List.length_cons, List.length_nil]; omega))) ?_)
          refine wl_op (k := 4) (k' := 5) rfl rfl rfl (wo_run rfl rfl (run_fieldAddr rfl rfl Try.underlying89 rfl (ce3) (nf3)) ?_)
          refine wl_op (k := 5) (k' := 6) rfl rfl rfl (wo_run rfl rfl (run_load1 rfl rfl Try.underlying3 rfl (ha.cell S1.um (i := i) (by first | omega | (simp only [List.length_set, List.length_append, List.length_replicate, List.length_singleton, List.length_cons, List.length_nil]; omega)) 1 rfl rfl)) ?_)
          refine wl_op (k := 6) (k' := 7) rfl rfl rfl (wo_run rfl rfl (run_addW rfl rfl rfl) ?_)
          refine wl_op (k := 7) (k' := 8) rfl rfl rfl (wo_run rfl rfl (run_assign rfl rfl) ?_)
          refine wl_end rfl ?_
          refine nm_blk ?_
          refine nm_sub [(0, _), (1, _), (5, _), (6, _)] ⟨rfl, rfl, rfl, rfl, trivial⟩ ?_
          refine nm_thn ?_
          refine ws_eq 5 (.int .i64 (atN a t (i + 1))) rfl (int_eq (by exact (atN_neg (by unfold atX; first | omega | (simp_all; done))).symm)) ?_
          refine ws_region rfl ?_
          refine wl_op (k := 0) (k' := 1) rfl rfl rfl (wo_run rfl rfl (run_move rfl rfl) ?_)
          refine wl_op (k := 1) (k' := 2) rfl rfl rfl (wo_run rfl rfl (run_add rfl rfl rfl (by first | omega | (simp only [List.length_set, List.length_append, List.length_replicate, List.length_singleton, List.length_cons, List.length_nil]; omega))) ?_)
          refine wl_op (k := 2) (k' := 3) rfl rfl rfl (wo_run rfl rfl (run_assign rfl rfl) ?_)
          refine wl_end rfl ?_
          refine nm_lp ?_
          intro ax_ hax_
          refine ⟨_, ?hq3m, ⟨i + 1, rfl, hax_.sub ⟨rfl, rfl, rfl, rfl, trivial⟩, S1.pick [] [] (by decide) trivial, ?hq3f0⟩⟩
          case hq3f0 => omega
          case hq3m => omega
      · have hg22 := of_decide_eq_false hg22
        refine wl_no (k := 2) (k' := 3) (d := 23) rfl rfl ⟨_, _, _, rfl, rfl, rfl, rfl⟩ rfl rfl ?_
        refine wl_no (k := 3) (k' := 4) (d := 24) rfl rfl ⟨_, _, _, rfl, rfl, rfl, rfl⟩ rfl rfl ?_
        refine wl_op (k := 4) (k' := 5) rfl rfl rfl (wo_run rfl rfl (run_pickF rfl rfl rfl) ?_)
        refine wl_end rfl ?_
        refine nm_sub [(0, _), (1, _), (5, _), (6, _), (25, _)] ⟨rfl, rfl, rfl, rfl, rfl, trivial⟩ ?_
        refine nm_thn ?_
        refine ws_condFN AtOf_n25 rfl rfl rfl ?_
        refine ws_region rfl ?_
        refine wl_op (k := 0) (k' := 1) rfl rfl rfl (wo_run rfl rfl (run_move rfl rfl) ?_)
        refine wl_op (k := 1) (k' := 2) rfl rfl rfl (wo_run rfl rfl (run_move rfl rfl) ?_)
        refine wl_op (k := 2) (k' := 3) rfl rfl rfl (wo_run rfl rfl (run_move rfl rfl) ?_)
        refine wl_op (k := 3) (k' := 4) rfl rfl rfl (wo_run rfl rfl (run_indexM (C := cdTm) i rfl rfl rfl sl22 (by first | rfl | omega) ha (by first | omega | (simp only [List.length_set, List.length_append, List.length_replicate, List.length_singleton, List.length_cons, List.length_nil]; omega))) ?_)
        refine wl_op (k := 4) (k' := 5) rfl rfl rfl (wo_run rfl rfl (run_fieldAddr rfl rfl Try.underlying89 rfl (ce3) (nf3)) ?_)
        refine wl_op (k := 5) (k' := 6) rfl rfl rfl (wo_run rfl rfl (run_load1 rfl rfl Try.underlying3 rfl (ha.cell S1.um (i := i) (by first | omega | (simp only [List.length_set, List.length_append, List.length_replicate, List.length_singleton, List.length_cons, List.length_nil]; omega)) 1 rfl rfl)) ?_)
        refine wl_op (k := 6) (k' := 7) rfl rfl rfl (wo_run rfl rfl (run_addW rfl rfl rfl) ?_)
        refine wl_op (k := 7) (k' := 8) rfl rfl rfl (wo_run rfl rfl (run_assign rfl rfl) ?_)
        refine wl_end rfl ?_
        refine nm_blk ?_
        refine nm_sub [(0, _), (1, _), (5, _), (6, _)] ⟨rfl, rfl, rfl, rfl, trivial⟩ ?_
        refine nm_thn ?_
        refine ws_eq 5 (.int .i64 (atN a t (i + 1))) rfl (int_eq (by exact (atN_neg (by unfold atX; first | omega | (simp_all; done))).symm)) ?_
        refine ws_region rfl ?_
        refine wl_op (k := 0) (k' := 1) rfl rfl rfl (wo_run rfl rfl (run_move rfl rfl) ?_)
        refine wl_op (k := 1) (k' := 2) rfl rfl rfl (wo_run rfl rfl (run_add rfl rfl rfl (by first | omega | (simp only [List.length_set, List.length_append, List.length_replicate, List.length_singleton, List.length_cons, List.length_nil]; omega))) ?_)
        refine wl_op (k := 2) (k' := 3) rfl rfl rfl (wo_run rfl rfl (run_assign rfl rfl) ?_)
        refine wl_end rfl ?_
        refine nm_lp ?_
        intro ax_ hax_
        refine ⟨_, ?hq4m, ⟨i + 1, rfl, hax_.sub ⟨rfl, rfl, rfl, rfl, trivial⟩, S1.pick [] [] (by decide) trivial, ?hq4f0⟩⟩
        case hq4f0 => omega
        case hq4m => omega
    · have hb11 := of_decide_eq_false hb11
      refine ws_exit rfl rfl ?_
      refine nm_sub [(5, _)] ⟨rfl, trivial⟩ ?_
      refine nm_thn ?_
      refine ws_seqN AtOf_n26 AtOf_n27 rfl rfl rfl ?_
      obtain rfl : i = a.length := by omega
      refine ws_region rfl ?_
      refine wl_op (k := 0) (k' := 1) rfl rfl rfl (wo_run rfl rfl (run_move rfl rfl) ?_)
      refine wl_op (k := 1) (k' := 2) rfl rfl rfl (wo_run rfl rfl (run_assign rfl rfl) ?_)
      refine wl_end rfl ?_
      refine nm_sub [(4, _)] ⟨rfl, trivial⟩ ?_
      refine nm_thn ?_
      refine ws_ret hC [_] rfl rfl ⟨rfl, trivial⟩ ?_
      exact ⟨_, rfl, (S1.pick [] [] (by decide) trivial), rfl⟩

noncomputable def At_n0 : Code := Try.f22.body.getD .skip
noncomputable def At_n1 : Code := cL At_n0
noncomputable def At_n2 : Code := cR At_n0
noncomputable def At_n3 : Code := cL At_n2
noncomputable def At_n4 : Code := cR At_n2
noncomputable def At_n5 : Code := cL At_n3
noncomputable def At_n6 : Code := cR At_n3
noncomputable def At_n7 : Code := cL At_n6
noncomputable def At_n8 : Code := cR At_n6
noncomputable def At_n9 : Code := cL At_n7
noncomputable def At_n10 : Code := cR At_n7
noncomputable def At_n11 : Code := cL At_n4
noncomputable def At_n12 : Code := cR At_n4
noncomputable def At_n13 : Code := cL At_n11
noncomputable def At_n14 : Code := cR At_n11
noncomputable def At_n15 : Code := cL At_n14
noncomputable def At_n16 : Code := cR At_n14
noncomputable def At_n17 : Code := cL At_n15
noncomputable def At_n18 : Code := cR At_n15
noncomputable def At_n19 : Code := cL At_n12
noncomputable def At_n20 : Code := cR At_n12
noncomputable def At_n21 : Code := cL At_n20
noncomputable def At_n22 : Code := cR At_n20
noncomputable def At_n23 : Code := cL At_n21
noncomputable def At_n24 : Code := cR At_n21
noncomputable def At_n25 : Code := cL At_n24
noncomputable def At_n26 : Code := cL At_n25
noncomputable def At_n27 : Code := cL At_n26
noncomputable def At_n28 : Code := cR At_n26
noncomputable def At_n29 : Code := cL At_n28
noncomputable def At_n30 : Code := cR At_n28
noncomputable def At_n31 : Code := cL At_n29
noncomputable def At_n32 : Code := cR At_n29
noncomputable def At_n33 : Code := cL At_n30
noncomputable def At_n34 : Code := cR At_n30
noncomputable def At_n35 : Code := cL At_n33
noncomputable def At_n36 : Code := cL At_n35
noncomputable def At_n37 : Code := cR At_n35
noncomputable def At_n38 : Code := cL At_n37
noncomputable def At_n39 : Code := cR At_n37
noncomputable def At_n40 : Code := cL At_n39
noncomputable def At_n41 : Code := cR At_n39
noncomputable def At_n42 : Code := cL At_n22
noncomputable def At_n43 : Code := cR At_n22
set_option maxHeartbeats 1000000 in
set_option maxRecDepth 10000 in
theorem At_q {w : World} {M : Hp} {X : Fr} (a : List Tm) {aA : Option Addr} {ac : Nat} (t : Int) (ha : RdA cdTm (M.un X.h) aA ac a) (S : SH w M X []) : Cq Try.prog 22 [.slice aA a.length ac, .int .i64 t] w M X (fun u => u = .tuple [.int .i64 (atR a t).1, .int .i64 (atR a t).2].toArray) := by
  unfold Cq
  have rmha : a.length * 16 ≤ 140737488355328 := ha.room
  refine calls_in (b := At_n0) Try.func22 rfl Try.ntmps22 rfl (fun C hC => ?_)
  refine ws_sub [(0, _), (1, _)] ⟨rfl, rfl, trivial⟩ ?_
  refine ws_seqN At_n1 At_n2 rfl rfl rfl ?_
  refine ws_region rfl ?_
  refine wl_op (k := 0) (k' := 1) rfl rfl rfl (wo_run rfl rfl (run_assign rfl rfl) ?_)
  refine wl_op (k := 1) (k' := 2) rfl rfl rfl (wo_run rfl rfl (run_assign rfl rfl) ?_)
  refine wl_end rfl ?_
  refine nm_sub [(0, _), (1, _)] ⟨rfl, rfl, trivial⟩ ?_
  refine nm_thn ?_
  refine ws_seqN At_n3 At_n4 rfl rfl rfl ?_
  refine ws_seqN At_n5 At_n6 rfl rfl rfl ?_
  refine ws_region rfl ?_
  refine wl_op (k := 0) (k' := 1) rfl rfl rfl (wo_run rfl rfl (run_move rfl rfl) ?_)
  refine wl_op (k := 1) (k' := 2) rfl rfl rfl (wo_cq rfl rfl rfl rfl rfl rfl rfl cf63 S (May_q a (ha.mono S.un_XH) S.lend) ?_)
  rintro _ w1 S1 rfl; clear S
  refine wl_op (k := 2) (k' := 3) rfl rfl rfl (wo_run rfl rfl (run_not rfl rfl) ?_)
  refine wl_end rfl ?_
  refine nm_sub [(0, _), (1, _), (11, _)] ⟨rfl, rfl, rfl, trivial⟩ ?_
  refine nm_thn ?_
  refine ws_condN At_n7 At_n8 rfl rfl rfl rfl (fun hb11 => ?_) (fun hb11 => ?_)
  · simp only [Bool.and_eq_true, Bool.or_eq_true, Bool.and_eq_false_iff, Bool.or_eq_false_iff, decide_eq_true_eq, decide_eq_false_iff_not, Bool.not_eq_true', Bool.not_eq_false'] at hb11
    refine ws_seqN At_n9 At_n10 rfl rfl rfl ?_
    refine ws_region rfl ?_
    refine wl_op (k := 0) (k' := 1) rfl rfl rfl (wo_run rfl rfl (run_assign rfl rfl) ?_)
    refine wl_op (k := 1) (k' := 2) rfl rfl rfl (wo_run rfl rfl (run_assign rfl rfl) ?_)
    refine wl_end rfl ?_
    refine nm_sub [(4, _), (5, _)] ⟨rfl, rfl, trivial⟩ ?_
    refine nm_thn ?_
    refine ws_ret hC [_, _] rfl rfl ⟨rfl, rfl, trivial⟩ ?_
    exact ⟨_, rfl, (S1.pick [] [] (by decide) trivial), (by unfold atR; rw [if_neg (by simp_all)]; rfl)⟩
  · simp only [Bool.and_eq_true, Bool.or_eq_true, Bool.and_eq_false_iff, Bool.or_eq_false_iff, decide_eq_true_eq, decide_eq_false_iff_not, Bool.not_eq_true', Bool.not_eq_false'] at hb11
    refine ws_skip rfl ?_
    refine nm_sub [(0, _), (1, _)] ⟨rfl, rfl, trivial⟩ ?_
    refine nm_thn ?_
    refine ws_seqN At_n11 At_n12 rfl rfl rfl ?_
    refine ws_seqN At_n13 At_n14 rfl rfl rfl ?_
    refine ws_region rfl ?_
    refine wl_op (k := 0) (k' := 1) rfl rfl rfl (wo_run rfl rfl (run_move rfl rfl) ?_)
    refine wl_op (k := 1) (k' := 2) rfl rfl rfl (wo_run rfl rfl (run_neq rfl rfl rfl) ?_)
    refine wl_op (k := 2) (k' := 3) rfl rfl rfl (wo_run rfl rfl (run_move rfl rfl) ?_)
    refine wl_split (t := 14) rfl (fun hg14 => ?_) (fun hg14 => ?_)
    · have hg14 := of_decide_eq_true hg14
      refine wl_opG (k := 3) (k' := 4) rfl rfl ⟨_, _, _, rfl, rfl, rfl, rfl⟩ rfl (wo_run rfl rfl (run_move rfl rfl) ?_)
      refine wl_opG (k := 4) (k' := 5) rfl rfl ⟨_, _, _, rfl, rfl, rfl, rfl⟩ rfl (wo_run rfl rfl (run_neq rfl rfl rfl) ?_)
      refine wl_op (k := 5) (k' := 6) rfl rfl rfl (wo_run rfl rfl (run_pickT rfl rfl rfl) ?_)
      refine wl_end rfl ?_
      refine nm_sub [(0, _), (1, _), (17, _)] ⟨rfl, rfl, rfl, trivial⟩ ?_
      refine nm_thn ?_
      refine ws_condN At_n15 At_n16 rfl rfl rfl rfl (fun hb17 => ?_) (fun hb17 => ?_)
      · have hb17 := of_decide_eq_true hb17
        refine ws_seqN At_n17 At_n18 rfl rfl rfl ?_
        refine ws_region rfl ?_
        refine wl_op (k := 0) (k' := 1) rfl rfl rfl (wo_run rfl rfl (run_assign rfl rfl) ?_)
        refine wl_op (k := 1) (k' := 2) rfl rfl rfl (wo_run rfl rfl (run_assign rfl rfl) ?_)
        refine wl_end rfl ?_
        refine nm_sub [(4, _), (5, _)] ⟨rfl, rfl, trivial⟩ ?_
        refine nm_thn ?_
        refine ws_ret hC [_, _] rfl rfl ⟨rfl, rfl, trivial⟩ ?_
        exact ⟨_, rfl, (S1.pick [] [] (by decide) trivial), (by unfold atR; rw [if_pos (by simp_all), if_neg (by omega)]; rfl)⟩
      · have hb17 := of_decide_eq_false hb17
        refine ws_skip rfl ?_
        refine nm_sub [(0, _), (1, _)] ⟨rfl, rfl, trivial⟩ ?_
        refine nm_thn ?_
        refine ws_seqN At_n19 At_n20 rfl rfl rfl ?_
        refine ws_region rfl ?_
        refine wl_op (k := 0) (k' := 1) rfl rfl rfl (wo_run rfl rfl (run_assign rfl rfl) ?_)
        refine wl_end rfl ?_
        refine nm_thn ?_
        refine ws_seqN At_n21 At_n22 rfl rfl rfl ?_
        refine ws_seqN At_n23 At_n24 rfl rfl rfl ?_
        refine ws_region rfl ?_
        refine wl_op (k := 0) (k' := 1) rfl rfl rfl (wo_run rfl rfl (run_move rfl rfl) ?_)
        refine wl_op (k := 1) (k' := 2) rfl rfl rfl (wo_run rfl rfl (run_len rfl rfl rfl rfl rfl rfl Try.underlying22) ?_)
        refine wl_op (k := 2) (k' := 3) rfl rfl rfl (wo_run rfl rfl (run_move rfl rfl) ?_)
        refine wl_end rfl ?_
        refine nm_sub [(1, _), (6, _), (18, _), (19, _), (20, _)] ⟨rfl, rfl, rfl, rfl, rfl, trivial⟩ ?_
        refine nm_thn ?_
        refine ws_blockN At_n25 0 rfl rfl rfl ?_
        refine ws_loopE (fun mx_ ax_ wx_ => ∃ (i : Nat), mx_ = a.length - i ∧ Env 42 [(1, .int .i64 t), (6, .int .i64 (atN a t i)), (18, .slice aA a.length ac), (19, .int .i64 (a.length : Int)), (20, .int .i64 (i : Int))] ax_ ∧ SH wx_ M X [] ∧ i ≤ a.length) rfl ?_ ?_
        · intro ax_ hax_
          refine ⟨_, ⟨0, rfl, hax_.sub ⟨rfl, rfl, rfl, rfl, rfl, trivial⟩, S1.pick [] [] (by decide) trivial, ?hq1f0⟩⟩
          case hq1f0 => omega
        · rintro m1 a1 w2 ⟨i, rfl, he1, S2, hi⟩
          clear S1
          refine ws_in he1 (c := At_n26) rfl ?_
          clear he1 a1
          refine ws_seqN At_n27 At_n28 rfl rfl rfl ?_
          refine ws_region rfl ?_
          refine wl_op (k := 0) (k' := 1) rfl rfl rfl (wo_run rfl rfl (run_lss rfl rfl rfl) ?_)
          refine wl_end rfl ?_
          refine nm_thn ?_
          refine ws_seqN At_n29 At_n30 rfl rfl rfl ?_
          refine ws_condN At_n31 At_n32 rfl rfl rfl rfl (fun hb21 => ?_) (fun hb21 => ?_)
          · have hb21 := of_decide_eq_true hb21
            refine ws_skip rfl ?_
            refine nm_sub [(1, _), (6, _), (18, _), (19, _), (20, _)] ⟨rfl, rfl, rfl, rfl, rfl, trivial⟩ ?_
            refine nm_thn ?_
            refine ws_seqN At_n33 At_n34 rfl rfl rfl ?_
            refine ws_blockN At_n35 1 rfl rfl rfl ?_
            refine ws_seqN At_n36 At_n37 rfl rfl rfl ?_
            refine ws_region rfl ?_
            refine wl_op (k := 0) (k' := 1) rfl rfl rfl (wo_run rfl rfl (run_indexM (C := cdTm) i rfl rfl rfl sl22 (by first | rfl | omega) ha (by first | omega | (simp only [List.length_set, List.length_append, List.length_replicate, List.length_singleton, List.length_cons, List.length_nil]; omega))) ?_)
            refine wl_op (k := 1) (k' := 2) rfl rfl rfl (wo_run rfl rfl (run_loadN (us := [_, _]) rfl rfl Try.underlying89 rfl sz89 (ha.cellsAt S2.um (e := i) (by first | omega | (simp only [List.length_set, List.length_append, List.length_replicate, List.length_singleton, List.length_cons, List.length_nil]; omega)) (j := 0) ⟨rfl, rfl, trivial⟩)) ?_)
            refine wl_op (k := 2) (k' := 3) rfl rfl rfl (wo_alloc (l := [_, _]) rfl rfl rfl zr89 rfl S2 ?_)
            intro gb1 w3 S3; clear S2
            refine wl_op (k := 3) (k' := 4) rfl rfl rfl (wo_storeB (i := 0) (us := [_, _]) (l' := [_, _]) (H' := [_]) rfl rfl S3 rfl rfl rfl rfl sz89 rfl rfl rfl rfl ?_)
            intro w4 S4; clear S3
            refine wl_end rfl ?_
            refine nm_sub [(1, _), (6, _), (18, _), (19, _), (20, _), (8, _)] ⟨rfl, rfl, rfl, rfl, rfl, rfl, trivial⟩ ?_
            refine nm_thn ?_
            refine ws_seqN At_n38 At_n39 rfl rfl rfl ?_
            refine ws_region rfl ?_
            refine wl_op (k := 0) (k' := 1) rfl rfl rfl (wo_run rfl rfl (run_move rfl rfl) ?_)
            refine wl_op (k := 1) (k' := 2) rfl rfl rfl (wo_run rfl rfl (run_lss rfl rfl rfl) ?_)
            refine wl_op (k := 2) (k' := 3) rfl rfl rfl (wo_run rfl rfl (run_move rfl rfl) ?_)
            refine wl_split (t := 26) rfl (fun hg26 => ?_) (fun hg26 => ?_)
            · have hg26 := of_decide_eq_true hg26
              refine wl_opG (k := 3) (k' := 4) rfl rfl ⟨_, _, _, rfl, rfl, rfl, rfl⟩ rfl (wo_run rfl rfl (run_fieldAddr rfl rfl Try.underlying89 rfl (ce3) (nf3)) ?_)
              refine wl_opG (k := 4) (k' := 5) rfl rfl ⟨_, _, _, rfl, rfl, rfl, rfl⟩ rfl (wo_run rfl rfl (run_load1 rfl rfl Try.underlying3 rfl (S4.boxc (i := 0) rfl rfl)) ?_)
              refine wl_opG (k := 5) (k' := 6) rfl rfl ⟨_, _, _, rfl, rfl, rfl, rfl⟩ rfl (wo_run rfl rfl (run_trem rfl rfl rfl (by decide)) ?_)
              refine wl_opG (k := 6) (k' := 7) rfl rfl ⟨_, _, _, rfl, rfl, rfl, rfl⟩ rfl (wo_run rfl rfl (run_neq rfl rfl rfl) ?_)
              refine wl_op (k := 7) (k' := 8) rfl rfl rfl (wo_run rfl rfl (run_pickT rfl rfl rfl) ?_)
              refine wl_end rfl ?_
              refine nm_sub [(1, _), (6, _), (18, _), (19, _), (20, _), (8, _), (31, _)] ⟨rfl, rfl, rfl, rfl, rfl, rfl, rfl, trivial⟩ ?_
              refine nm_thn ?_
              refine ws_condN At_n40 At_n41 rfl rfl rfl rfl (fun hb31 => ?_) (fun hb31 => ?_)
              · have hb31 := of_decide_eq_true hb31
                refine ws_region rfl ?_
                refine wl_op (k := 0) (k' := 1) rfl rfl rfl (wo_run rfl rfl (run_move rfl rfl) ?_)
                refine wl_op (k := 1) (k' := 2) rfl rfl rfl (wo_run rfl rfl (run_fieldAddr rfl rfl Try.underlying89 rfl (ce3) (nf3)) ?_)
                refine wl_op (k := 2) (k' := 3) rfl rfl rfl (wo_run rfl rfl (run_load1 rfl rfl Try.underlying3 rfl (S4.boxc (i := 0) rfl rfl)) ?_)
                refine wl_op (k := 3) (k' := 4) rfl rfl rfl (wo_run rfl rfl (run_subW rfl rfl rfl) ?_)
                refine wl_op (k := 4) (k' := 5) rfl rfl rfl (wo_run rfl rfl (run_assign rfl rfl) ?_)
                refine wl_end rfl ?_
                refine nm_blk ?_
                refine nm_sub [(1, _), (6, _), (18, _), (19, _), (20, _)] ⟨rfl, rfl, rfl, rfl, rfl, trivial⟩ ?_
                refine nm_thn ?_
                refine ws_eq 6 (.int .i64 (atN a t (i + 1))) rfl (int_eq (by exact (atN_pos (by unfold atX; first | omega | (simp_all; done))).symm)) ?_
                refine ws_region rfl ?_
                refine wl_op (k := 0) (k' := 1) rfl rfl rfl (wo_run rfl rfl (run_add rfl rfl rfl (by first | omega | (simp only [List.length_set, List.length_append, List.length_replicate, List.length_singleton, List.length_cons, List.length_nil]; omega))) ?_)
                refine wl_op (k := 1) (k' := 2) rfl rfl rfl (wo_run rfl rfl (run_move rfl rfl) ?_)
                refine wl_end rfl ?_
                refine nm_lp ?_
                intro ax_ hax_
                refine ⟨_, ?hq2m, ⟨i + 1, rfl, hax_.sub ⟨rfl, rfl, rfl, rfl, rfl, trivial⟩, S4.pick [] [] (by decide) trivial, ?hq2f0⟩⟩
                case hq2f0 => omega
                case hq2m => omega
              · have hb31 := of_decide_eq_false hb31
                refine ws_region rfl ?_
                refine wl_op (k := 0) (k' := 1) rfl rfl rfl (wo_run rfl rfl (run_move rfl rfl) ?_)
                refine wl_op (k := 1) (k' := 2) rfl rfl rfl (wo_run rfl rfl (run_fieldAddr rfl rfl Try.underlying89 rfl (ce3) (nf3)) ?_)
                refine wl_op (k := 2) (k' := 3) rfl rfl rfl (wo_run rfl rfl (run_load1 rfl rfl Try.underlying3 rfl (S4.boxc (i := 0) rfl rfl)) ?_)
                refine wl_op (k := 3) (k' := 4) rfl rfl rfl (wo_run rfl rfl (run_addW rfl rfl rfl) ?_)
                refine wl_op (k := 4) (k' := 5) rfl rfl rfl (wo_run rfl rfl (run_assign rfl rfl) ?_)
                refine wl_end rfl ?_
                refine nm_blk ?_
                refine nm_sub [(1, _), (6, _), (18, _), (19, _), (20, _)] ⟨rfl, rfl, rfl, rfl, rfl, trivial⟩ ?_
                refine nm_thn ?_
                refine ws_eq 6 (.int .i64 (atN a t (i + 1))) rfl (int_eq (by exact (atN_neg (by unfold atX; first | omega | (simp_all; done))).symm)) ?_
                refine ws_region rfl ?_
                refine wl_op (k := 0) (k' := 1) rfl rfl rfl (wo_run rfl rfl (run_add rfl rfl rfl (by first | omega | (simp only [List.length_set, List.length_append, List.length_replicate, List.length_singleton, List.length_cons, List.length_nil]; omega))) ?_)
                refine wl_op (k := 1) (k' := 2) rfl rfl rfl (wo_run rfl rfl (run_move rfl rfl) ?_)
                refine wl_end rfl ?_
                refine nm_lp ?_
                intro ax_ hax_
                refine ⟨_, ?hq3m, ⟨i + 1, rfl, hax_.sub ⟨rfl, rfl, rfl, rfl, rfl, trivial⟩, S4.pick [] [] (by decide) trivial, ?hq3f0⟩⟩
                case hq3f0 => omega
                case hq3m => omega
            · have hg26 := of_decide_eq_false hg26
              refine wl_no (k := 3) (k' := 4) (d := 27) rfl rfl ⟨_, _, _, rfl, rfl, rfl, rfl⟩ rfl rfl ?_
              refine wl_no (k := 4) (k' := 5) (d := 28) rfl rfl ⟨_, _, _, rfl, rfl, rfl, rfl⟩ rfl rfl ?_
              refine wl_no (k := 5) (k' := 6) (d := 29) rfl rfl ⟨_, _, _, rfl, rfl, rfl, rfl⟩ rfl rfl ?_
              refine wl_no (k := 6) (k' := 7) (d := 30) rfl rfl ⟨_, _, _, rfl, rfl, rfl, rfl⟩ rfl rfl ?_
              refine wl_op (k := 7) (k' := 8) rfl rfl rfl (wo_run rfl rfl (run_pickF rfl rfl rfl) ?_)
              refine wl_end rfl ?_
              refine nm_sub [(1, _), (6, _), (18, _), (19, _), (20, _), (8, _), (31, _)] ⟨rfl, rfl, rfl, rfl, rfl, rfl, rfl, trivial⟩ ?_
              refine nm_thn ?_
              refine ws_condFN At_n41 rfl rfl rfl ?_
              refine ws_region rfl ?_
              refine wl_op (k := 0) (k' := 1) rfl rfl rfl (wo_run rfl rfl (run_move rfl rfl) ?_)
              refine wl_op (k := 1) (k' := 2) rfl rfl rfl (wo_run rfl rfl (run_fieldAddr rfl rfl Try.underlying89 rfl (ce3) (nf3)) ?_)
              refine wl_op (k := 2) (k' := 3) rfl rfl rfl (wo_run rfl rfl (run_load1 rfl rfl Try.underlying3 rfl (S4.boxc (i := 0) rfl rfl)) ?_)
              refine wl_op (k := 3) (k' := 4) rfl rfl rfl (wo_run rfl rfl (run_addW rfl rfl rfl) ?_)
              refine wl_op (k := 4) (k' := 5) rfl rfl rfl (wo_run rfl rfl (run_assign rfl rfl) ?_)
              refine wl_end rfl ?_
              refine nm_blk ?_
              refine nm_sub [(1, _), (6, _), (18, _), (19, _), (20, _)] ⟨rfl, rfl, rfl, rfl, rfl, trivial⟩ ?_
              refine nm_thn ?_
              refine ws_eq 6 (.int .i64 (atN a t (i + 1))) rfl (int_eq (by exact (atN_neg (by unfold atX; first | omega | (simp_all; done))).symm)) ?_
              refine ws_region rfl ?_
              refine wl_op (k := 0) (k' := 1) rfl rfl rfl (wo_run rfl rfl (run_add rfl rfl rfl (by first | omega | (simp only [List.length_set, List.length_append, List.length_replicate, List.length_singleton, List.length_cons, List.length_nil]; omega))) ?_)
              refine wl_op (k := 1) (k' := 2) rfl rfl rfl (wo_run rfl rfl (run_move rfl rfl) ?_)
              refine wl_end rfl ?_
              refine nm_lp ?_
              intro ax_ hax_
              refine ⟨_, ?hq4m, ⟨i + 1, rfl, hax_.sub ⟨rfl, rfl, rfl, rfl, rfl, trivial⟩, S4.pick [] [] (by decide) trivial, ?hq4f0⟩⟩
              case hq4f0 => omega
              case hq4m => omega
          · have hb21 := of_decide_eq_false hb21
            refine ws_exit rfl rfl ?_
            refine nm_sub [(6, _)] ⟨rfl, trivial⟩ ?_
            refine nm_thn ?_
            refine ws_seqN At_n42 At_n43 rfl rfl rfl ?_
            obtain rfl : i = a.length := by omega
            refine ws_region rfl ?_
            refine wl_op (k := 0) (k' := 1) rfl rfl rfl (wo_run rfl rfl (run_move rfl rfl) ?_)
            refine wl_op (k := 1) (k' := 2) rfl rfl rfl (wo_run rfl rfl (run_assign rfl rfl) ?_)
            refine wl_op (k := 2) (k' := 3) rfl rfl rfl (wo_run rfl rfl (run_assign rfl rfl) ?_)
            refine wl_end rfl ?_
            refine nm_sub [(4, _), (5, _)] ⟨rfl, rfl, trivial⟩ ?_
            refine nm_thn ?_
            refine ws_ret hC [_, _] rfl rfl ⟨rfl, rfl, trivial⟩ ?_
            exact ⟨_, rfl, (S2.pick [] [] (by decide) trivial), (by unfold atR; rw [if_pos (by simp_all), if_pos (by omega)]; rfl)⟩
    · have hg14 := of_decide_eq_false hg14
      refine wl_no (k := 3) (k' := 4) (d := 15) rfl rfl ⟨_, _, _, rfl, rfl, rfl, rfl⟩ rfl rfl ?_
      refine wl_no (k := 4) (k' := 5) (d := 16) rfl rfl ⟨_, _, _, rfl, rfl, rfl, rfl⟩ rfl rfl ?_
      refine wl_op (k := 5) (k' := 6) rfl rfl rfl (wo_run rfl rfl (run_pickF rfl rfl rfl) ?_)
      refine wl_end rfl ?_
      refine nm_sub [(0, _), (1, _), (17, _)] ⟨rfl, rfl, rfl, trivial⟩ ?_
      refine nm_thn ?_
      refine ws_condFN At_n16 rfl rfl rfl ?_
      refine ws_skip rfl ?_
      refine nm_sub [(0, _), (1, _)] ⟨rfl, rfl, trivial⟩ ?_
      refine nm_thn ?_
      refine ws_seqN At_n19 At_n20 rfl rfl rfl ?_
      refine ws_region rfl ?_
      refine wl_op (k := 0) (k' := 1) rfl rfl rfl (wo_run rfl rfl (run_assign rfl rfl) ?_)
      refine wl_end rfl ?_
      refine nm_thn ?_
      refine ws_seqN At_n21 At_n22 rfl rfl rfl ?_
      refine ws_seqN At_n23 At_n24 rfl rfl rfl ?_
      refine ws_region rfl ?_
      refine wl_op (k := 0) (k' := 1) rfl rfl rfl (wo_run rfl rfl (run_move rfl rfl) ?_)
      refine wl_op (k := 1) (k' := 2) rfl rfl rfl (wo_run rfl rfl (run_len rfl rfl rfl rfl rfl rfl Try.underlying22) ?_)
      refine wl_op (k := 2) (k' := 3) rfl rfl rfl (wo_run rfl rfl (run_move rfl rfl) ?_)
      refine wl_end rfl ?_
      refine nm_sub [(1, _), (6, _), (18, _), (19, _), (20, _)] ⟨rfl, rfl, rfl, rfl, rfl, trivial⟩ ?_
      refine nm_thn ?_
      refine ws_blockN At_n25 0 rfl rfl rfl ?_
      refine ws_loopE (fun mx_ ax_ wx_ => ∃ (i : Nat), mx_ = a.length - i ∧ Env 42 [(1, .int .i64 t), (6, .int .i64 (atN a t i)), (18, .slice aA a.length ac), (19, .int .i64 (a.length : Int)), (20, .int .i64 (i : Int))] ax_ ∧ SH wx_ M X [] ∧ i ≤ a.length) rfl ?_ ?_
      · intro ax_ hax_
        refine ⟨_, ⟨0, rfl, hax_.sub ⟨rfl, rfl, rfl, rfl, rfl, trivial⟩, S1.pick [] [] (by decide) trivial, ?hq5f0⟩⟩
        case hq5f0 => omega
      · rintro m2 a2 w5 ⟨i, rfl, he2, S5, hi⟩
        clear S1
        refine ws_in he2 (c := At_n26) rfl ?_
        clear he2 a2
        refine ws_seqN At_n27 At_n28 rfl rfl rfl ?_
        refine ws_region rfl ?_
        refine wl_op (k := 0) (k' := 1) rfl rfl rfl (wo_run rfl rfl (run_lss rfl rfl rfl) ?_)
        refine wl_end rfl ?_
        refine nm_thn ?_
        refine ws_seqN At_n29 At_n30 rfl rfl rfl ?_
        refine ws_condN At_n31 At_n32 rfl rfl rfl rfl (fun hb21 => ?_) (fun hb21 => ?_)
        · have hb21 := of_decide_eq_true hb21
          refine ws_skip rfl ?_
          refine nm_sub [(1, _), (6, _), (18, _), (19, _), (20, _)] ⟨rfl, rfl, rfl, rfl, rfl, trivial⟩ ?_
          refine nm_thn ?_
          refine ws_seqN At_n33 At_n34 rfl rfl rfl ?_
          refine ws_blockN At_n35 1 rfl rfl rfl ?_
          refine ws_seqN At_n36 At_n37 rfl rfl rfl ?_
          refine ws_region rfl ?_
          refine wl_op (k := 0) (k' := 1) rfl rfl rfl (wo_run rfl rfl (run_indexM (C := cdTm) i rfl rfl rfl sl22 (by first | rfl | omega) ha (by first | omega | (simp only [List.length_set, List.length_append, List.length_replicate, List.length_singleton, List.length_cons, List.length_nil]; omega))) ?_)
          refine wl_op (k := 1) (k' := 2) rfl rfl rfl (wo_run rfl rfl (run_loadN (us := [_, _]) rfl rfl Try.underlying89 rfl sz89 (ha.cellsAt S5.um (e := i) (by first | omega | (simp only [List.length_set, List.length_append, List.length_replicate, List.length_singleton, List.length_cons, List.length_nil]; omega)) (j := 0) ⟨rfl, rfl, trivial⟩)) ?_)
          refine wl_op (k := 2) (k' := 3) rfl rfl rfl (wo_alloc (l := [_, _]) rfl rfl rfl zr89 rfl S5 ?_)
          intro gb2 w6 S6; clear S5
          refine wl_op (k := 3) (k' := 4) rfl rfl rfl (wo_storeB (i := 0) (us := [_, _]) (l' := [_, _]) (H' := [_]) rfl rfl S6 rfl rfl rfl rfl sz89 rfl rfl rfl rfl ?_)
          intro w7 S7; clear S6
          refine wl_end rfl ?_
          refine nm_sub [(1, _), (6, _), (18, _), (19, _), (20, _), (8, _)] ⟨rfl, rfl, rfl, rfl, rfl, rfl, trivial⟩ ?_
          refine nm_thn ?_
          refine ws_seqN At_n38 At_n39 rfl rfl rfl ?_
          refine ws_region rfl ?_
          refine wl_op (k := 0) (k' := 1) rfl rfl rfl (wo_run rfl rfl (run_move rfl rfl) ?_)
          refine wl_op (k := 1) (k' := 2) rfl rfl rfl (wo_run rfl rfl (run_lss rfl rfl rfl) ?_)
          refine wl_op (k := 2) (k' := 3) rfl rfl rfl (wo_run rfl rfl (run_move rfl rfl) ?_)
          refine wl_split (t := 26) rfl (fun hg26 => ?_) (fun hg26 => ?_)
          · have hg26 := of_decide_eq_true hg26
            refine wl_opG (k := 3) (k' := 4) rfl rfl ⟨_, _, _, rfl, rfl, rfl, rfl⟩ rfl (wo_run rfl rfl (run_fieldAddr rfl rfl Try.underlying89 rfl (ce3) (nf3)) ?_)
            refine wl_opG (k := 4) (k' := 5) rfl rfl ⟨_, _, _, rfl, rfl, rfl, rfl⟩ rfl (wo_run rfl rfl (run_load1 rfl rfl Try.underlying3 rfl (S7.boxc (i := 0) rfl rfl)) ?_)
            refine wl_opG (k := 5) (k' := 6) rfl rfl ⟨_, _, _, rfl, rfl, rfl, rfl⟩ rfl (wo_run rfl rfl (run_trem rfl rfl rfl (by decide)) ?_)
            refine wl_opG (k := 6) (k' := 7) rfl rfl ⟨_, _, _, rfl, rfl, rfl, rfl⟩ rfl (wo_run rfl rfl (run_neq rfl rfl rfl) ?_)
            refine wl_op (k := 7) (k' := 8) rfl rfl rfl (wo_run rfl rfl (run_pickT rfl rfl rfl) ?_)
            refine wl_end rfl ?_
            refine nm_sub [(1, _), (6, _), (18, _), (19, _), (20, _), (8, _), (31, _)] ⟨rfl, rfl, rfl, rfl, rfl, rfl, rfl, trivial⟩ ?_
            refine nm_thn ?_
            refine ws_condN At_n40 At_n41 rfl rfl rfl rfl (fun hb31 => ?_) (fun hb31 => ?_)
            · have hb31 := of_decide_eq_true hb31
              refine ws_region rfl ?_
              refine wl_op (k := 0) (k' := 1) rfl rfl rfl (wo_run rfl rfl (run_move rfl rfl) ?_)
              refine wl_op (k := 1) (k' := 2) rfl rfl rfl (wo_run rfl rfl (run_fieldAddr rfl rfl Try.underlying89 rfl (ce3) (nf3)) ?_)
              refine wl_op (k := 2) (k' := 3) rfl rfl rfl (wo_run rfl rfl (run_load1 rfl rfl Try.underlying3 rfl (S7.boxc (i := 0) rfl rfl)) ?_)
              refine wl_op (k := 3) (k' := 4) rfl rfl rfl (wo_run rfl rfl (run_subW rfl rfl rfl) ?_)
              refine wl_op (k := 4) (k' := 5) rfl rfl rfl (wo_run rfl rfl (run_assign rfl rfl) ?_)
              refine wl_end rfl ?_
              refine nm_blk ?_
              refine nm_sub [(1, _), (6, _), (18, _), (19, _), (20, _)] ⟨rfl, rfl, rfl, rfl, rfl, trivial⟩ ?_
              refine nm_thn ?_
              refine ws_eq 6 (.int .i64 (atN a t (i + 1))) rfl (int_eq (by exact (atN_pos (by unfold atX; first | omega | (simp_all; done))).symm)) ?_
              refine ws_region rfl ?_
              refine wl_op (k := 0) (k' := 1) rfl rfl rfl (wo_run rfl rfl (run_add rfl rfl rfl (by first | omega | (simp only [List.length_set, List.length_append, List.length_replicate, List.length_singleton, List.length_cons, List.length_nil]; omega))) ?_)
              refine wl_op (k := 1) (k' := 2) rfl rfl rfl (wo_run rfl rfl (run_move rfl rfl) ?_)
              refine wl_end rfl ?_
              refine nm_lp ?_
              intro ax_ hax_
              refine ⟨_, ?hq6m, ⟨i + 1, rfl, hax_.sub ⟨rfl, rfl, rfl, rfl, rfl, trivial⟩, S7.pick [] [] (by decide) trivial, ?hq6f0⟩⟩
              case hq6f0 => omega
              case hq6m => omega
            · have hb31 := of_decide_eq_false hb31
              refine ws_region rfl ?_
              refine wl_op (k := 0) (k' := 1) rfl rfl rfl (wo_run rfl rfl (run_move rfl rfl) ?_)
              refine wl_op (k := 1) (k' := 2) rfl rfl rfl (wo_run rfl rfl (run_fieldAddr rfl rfl Try.underlying89 rfl (ce3) (nf3)) ?_)
              refine wl_op (k := 2) (k' := 3) rfl rfl rfl (wo_run rfl rfl (run_load1 rfl rfl Try.underlying3 rfl (S7.boxc (i := 0) rfl rfl)) ?_)
              refine wl_op (k := 3) (k' := 4) rfl rfl rfl (wo_run rfl rfl (run_addW rfl rfl rfl) ?_)
              refine wl_op (k := 4) (k' := 5) rfl rfl rfl (wo_run rfl rfl (run_assign rfl rfl) ?_)
              refine wl_end rfl ?_
              refine nm_blk ?_
              refine nm_sub [(1, _), (6, _), (18, _), (19, _), (20, _)] ⟨rfl, rfl, rfl, rfl, rfl, trivial⟩ ?_
              refine nm_thn ?_
              refine ws_eq 6 (.int .i64 (atN a t (i + 1))) rfl (int_eq (by exact (atN_neg (by unfold atX; first | omega | (simp_all; done))).symm)) ?_
              refine ws_region rfl ?_
              refine wl_op (k := 0) (k' := 1) rfl rfl rfl (wo_run rfl rfl (run_add rfl rfl rfl (by first | omega | (simp only [List.length_set, List.length_append, List.length_replicate, List.length_singleton, List.length_cons, List.length_nil]; omega))) ?_)
              refine wl_op (k := 1) (k' := 2) rfl rfl rfl (wo_run rfl rfl (run_move rfl rfl) ?_)
              refine wl_end rfl ?_
              refine nm_lp ?_
              intro ax_ hax_
              refine ⟨_, ?hq7m, ⟨i + 1, rfl, hax_.sub ⟨rfl, rfl, rfl, rfl, rfl, trivial⟩, S7.pick [] [] (by decide) trivial, ?hq7f0⟩⟩
              case hq7f0 => omega
              case hq7m => omega
          · have hg26 := of_decide_eq_false hg26
            refine wl_no (k := 3) (k' := 4) (d := 27) rfl rfl ⟨_, _, _, rfl, rfl, rfl, rfl⟩ rfl rfl ?_
            refine wl_no (k := 4) (k' := 5) (d := 28) rfl rfl ⟨_, _, _, rfl, rfl, rfl, rfl⟩ rfl rfl ?_
            refine wl_no (k := 5) (k' := 6) (d := 29) rfl rfl ⟨_, _, _, rfl, rfl, rfl, rfl⟩ rfl rfl ?_
            refine wl_no (k := 6) (k' := 7) (d := 30) rfl rfl ⟨_, _, _, rfl, rfl, rfl, rfl⟩ rfl rfl ?_
            refine wl_op (k := 7) (k' := 8) rfl rfl rfl (wo_run rfl rfl (run_pickF rfl rfl rfl) ?_)
            refine wl_end rfl ?_
            refine nm_sub [(1, _), (6, _), (18, _), (19, _), (20, _), (8, _), (31, _)] ⟨rfl, rfl, rfl, rfl, rfl, rfl, rfl, trivial⟩ ?_
            refine nm_thn ?_
            refine ws_condFN At_n41 rfl rfl rfl ?_
            refine ws_region rfl ?_
            refine wl_op (k := 0) (k' := 1) rfl rfl rfl (wo_run rfl rfl (run_move rfl rfl) ?_)
            refine wl_op (k := 1) (k' := 2) rfl rfl rfl (wo_run rfl rfl (run_fieldAddr rfl rfl Try.underlying89 rfl (ce3) (nf3)) ?_)
            refine wl_op (k := 2) (k' := 3) rfl rfl rfl (wo_run rfl rfl (run_load1 rfl rfl Try.underlying3 rfl (S7.boxc (i := 0) rfl rfl)) ?_)
            refine wl_op (k := 3) (k' := 4) rfl rfl rfl (wo_run rfl rfl (run_addW rfl rfl rfl) ?_)
            refine wl_op (k := 4) (k' := 5) rfl rfl rfl (wo_run rfl rfl (run_assign rfl rfl) ?_)
            refine wl_end rfl ?_
            refine nm_blk ?_
            refine nm_sub [(1, _), (6, _), (18, _), (19, _), (20, _)] ⟨rfl, rfl, rfl, rfl, rfl, trivial⟩ ?_
            refine nm_thn ?_
            refine ws_eq 6 (.int .i64 (atN a t (i + 1))) rfl (int_eq (by exact (atN_neg (by unfold atX; first | omega | (simp_all; done))).symm)) ?_
            refine ws_region rfl ?_
            refine wl_op (k := 0) (k' := 1) rfl rfl rfl (wo_run rfl rfl (run_add rfl rfl rfl (by first | omega | (simp only [List.length_set, List.length_append, List.length_replicate, List.length_singleton, List.length_cons, List.length_nil]; omega))) ?_)
            refine wl_op (k := 1) (k' := 2) rfl rfl rfl (wo_run rfl rfl (run_move rfl rfl) ?_)
            refine wl_end rfl ?_
            refine nm_lp ?_
            intro ax_ hax_
            refine ⟨_, ?hq8m, ⟨i + 1, rfl, hax_.sub ⟨rfl, rfl, rfl, rfl, rfl, trivial⟩, S7.pick [] [] (by decide) trivial, ?hq8f0⟩⟩
            case hq8f0 => omega
            case hq8m => omega
        · have hb21 := of_decide_eq_false hb21
          refine ws_exit rfl rfl ?_
          refine nm_sub [(6, _)] ⟨rfl, trivial⟩ ?_
          refine nm_thn ?_
          refine ws_seqN At_n42 At_n43 rfl rfl rfl ?_
          obtain rfl : i = a.length := by omega
          refine ws_region rfl ?_
          refine wl_op (k := 0) (k' := 1) rfl rfl rfl (wo_run rfl rfl (run_move rfl rfl) ?_)
          refine wl_op (k := 1) (k' := 2) rfl rfl rfl (wo_run rfl rfl (run_assign rfl rfl) ?_)
          refine wl_op (k := 2) (k' := 3) rfl rfl rfl (wo_run rfl rfl (run_assign rfl rfl) ?_)
          refine wl_end rfl ?_
          refine nm_sub [(4, _), (5, _)] ⟨rfl, rfl, trivial⟩ ?_
          refine nm_thn ?_
          refine ws_ret hC [_, _] rfl rfl ⟨rfl, rfl, trivial⟩ ?_
          exact ⟨_, rfl, (S5.pick [] [] (by decide) trivial), (by unfold atR; rw [if_pos (by simp_all), if_pos (by omega)]; rfl)⟩

noncomputable def Normal_n0 : Code := Try.f64.body.getD .skip
noncomputable def Normal_n1 : Code := cL Normal_n0
noncomputable def Normal_n2 : Code := cR Normal_n0
noncomputable def Normal_n3 : Code := cL Normal_n2
noncomputable def Normal_n4 : Code := cR Normal_n2
noncomputable def Normal_n5 : Code := cL Normal_n3
noncomputable def Normal_n6 : Code := cR Normal_n3
noncomputable def Normal_n7 : Code := cL Normal_n6
noncomputable def Normal_n8 : Code := cR Normal_n6
noncomputable def Normal_n9 : Code := cL Normal_n7
noncomputable def Normal_n10 : Code := cR Normal_n7
noncomputable def Normal_n11 : Code := cL Normal_n4
noncomputable def Normal_n12 : Code := cR Normal_n4
noncomputable def Normal_n13 : Code := cL Normal_n12
noncomputable def Normal_n14 : Code := cR Normal_n12
noncomputable def Normal_n15 : Code := cL Normal_n13
noncomputable def Normal_n16 : Code := cR Normal_n13
noncomputable def Normal_n17 : Code := cL Normal_n16
noncomputable def Normal_n18 : Code := cR Normal_n16
noncomputable def Normal_n19 : Code := cL Normal_n14
noncomputable def Normal_n20 : Code := cR Normal_n14
set_option maxRecDepth 10000 in
theorem Normal_t {w : World} {M : Hp} {X : Fr} (a : List Tm) {aA : Option Addr} {ac : Nat} (ha : RdA cdTm M aA ac a) (B : Nat) (hca : Can a) (hba : Bd a B) (hB : B + B ≤ 1099511627776) (S : SH w M X []) : Ct Try.prog 64 [.slice aA a.length ac] w M X (PT (B + B) (unitP a)) := by
  unfold Ct
  have rmha : a.length * 16 ≤ 140737488355328 := ha.room
  refine calls_in (b := Normal_n0) Try.func64 rfl Try.ntmps64 rfl (fun C hC => ?_)
  refine ws_sub [(0, _)] ⟨rfl, trivial⟩ ?_
  refine ws_seqN Normal_n1 Normal_n2 rfl rfl rfl ?_
  refine ws_region rfl ?_
  refine wl_op (k := 0) (k' := 1) rfl rfl rfl (wo_run rfl rfl (run_assign rfl rfl) ?_)
  refine wl_end rfl ?_
  refine nm_sub [(0, _)] ⟨rfl, trivial⟩ ?_
  refine nm_thn ?_
  refine ws_seqN Normal_n3 Normal_n4 rfl rfl rfl ?_
  refine ws_seqN Normal_n5 Normal_n6 rfl rfl rfl ?_
  refine ws_region rfl ?_
  refine wl_op (k := 0) (k' := 1) rfl rfl rfl (wo_run rfl rfl (run_move rfl rfl) ?_)
  refine wl_op (k := 1) (k' := 2) rfl rfl rfl (wo_run rfl rfl (run_len rfl rfl rfl rfl rfl rfl Try.underlying22) ?_)
  refine wl_op (k := 2) (k' := 3) rfl rfl rfl (wo_run rfl rfl (run_eql rfl rfl rfl) ?_)
  refine wl_end rfl ?_
  refine nm_sub [(0, _), (6, _)] ⟨rfl, rfl, trivial⟩ ?_
  refine nm_thn ?_
  refine ws_condN Normal_n7 Normal_n8 rfl rfl rfl rfl (fun hb6 => ?_) (fun hb6 => ?_)
  · have hb6 := of_decide_eq_true hb6
    refine ws_seqN Normal_n9 Normal_n10 rfl rfl rfl ?_
    refine ws_region rfl ?_
    refine wl_op (k := 0) (k' := 1) rfl rfl rfl (wo_run rfl rfl (run_assign rfl rfl) ?_)
    refine wl_end rfl ?_
    refine nm_sub [(2, _)] ⟨rfl, trivial⟩ ?_
    refine nm_thn ?_
    refine ws_ret hC [_] rfl rfl ⟨rfl, trivial⟩ ?_
    refine ⟨_, rfl, _, Hp.le_refl _, (S.pick [] [] (by decide) trivial), ?_⟩
    obtain rfl : a = [] := List.eq_nil_of_length_eq_zero (by omega)
    exact ⟨none, 0, [], rfl, RdA.nil_, Can.nil_, fun t ht => by simp at ht, (Pol.zero_mul _).symm⟩
  · have hb6 := of_decide_eq_false hb6
    refine ws_skip rfl ?_
    refine nm_sub [(0, _)] ⟨rfl, trivial⟩ ?_
    refine nm_thn ?_
    refine ws_seqN Normal_n11 Normal_n12 rfl rfl rfl ?_
    refine ws_region rfl ?_
    refine wl_op (k := 0) (k' := 1) rfl rfl rfl (wo_run rfl rfl (run_assign rfl rfl) ?_)
    refine wl_end rfl ?_
    refine nm_thn ?_
    refine ws_seqN Normal_n13 Normal_n14 rfl rfl rfl ?_
    refine ws_seqN Normal_n15 Normal_n16 rfl rfl rfl ?_
    refine ws_region rfl ?_
    refine wl_op (k := 0) (k' := 1) rfl rfl rfl (wo_run rfl rfl (run_move rfl rfl) ?_)
    refine wl_op (k := 1) (k' := 2) rfl rfl rfl (wo_run rfl rfl (run_indexM (C := cdTm) 0 rfl rfl rfl sl22 (by first | rfl | omega) ha (by first | omega | (simp only [List.length_set, List.length_append, List.length_replicate, List.length_singleton, List.length_cons, List.length_nil]; omega))) ?_)
    refine wl_op (k := 2) (k' := 3) rfl rfl rfl (wo_run rfl rfl (run_fieldAddr rfl rfl Try.underlying89 rfl (ce3) (nf3)) ?_)
    refine wl_op (k := 3) (k' := 4) rfl rfl rfl (wo_run rfl rfl (run_load1 rfl rfl Try.underlying3 rfl (ha.cell S.m (i := 0) (by first | omega | (simp only [List.length_set, List.length_append, List.length_replicate, List.length_singleton, List.length_cons, List.length_nil]; omega)) 1 rfl rfl)) ?_)
    refine wl_op (k := 4) (k' := 5) rfl rfl rfl (wo_run rfl rfl (run_lss rfl rfl rfl) ?_)
    refine wl_end rfl ?_
    refine nm_sub [(0, _), (3, _), (11, _)] ⟨rfl, rfl, rfl, trivial⟩ ?_
    refine nm_thn ?_
    refine ws_condN Normal_n17 Normal_n18 rfl rfl rfl rfl (fun hb11 => ?_) (fun hb11 => ?_)
    · have hb11 := of_decide_eq_true hb11
      refine ws_region rfl ?_
      refine wl_op (k := 0) (k' := 1) rfl rfl rfl (wo_run rfl rfl (run_assign rfl rfl) ?_)
      refine wl_end rfl ?_
      refine nm_sub [(0, _), (3, _)] ⟨rfl, rfl, trivial⟩ ?_
      refine nm_thn ?_
      refine ws_seqN Normal_n19 Normal_n20 rfl rfl rfl ?_
      refine ws_draw rfl (by kernel_rfl) S 11 rfl ?_
      clear S
      refine wa_takeP (i := 0) (d := 12) 10 rfl (by kernel_rfl) (by kernel_rfl) (by kernel_rfl) rfl rfl rfl (fun w1 => run_move rfl rfl) ?_
      refine wa_takeP (i := 2) (d := 14) 9 rfl (by kernel_rfl) (by kernel_rfl) (by kernel_rfl) rfl rfl rfl (fun w3 => run_move rfl rfl) ?_
      refine wa_take (i := 3) (d := 15) 8 rfl (by kernel_rfl) (by kernel_rfl) (by kernel_rfl) rfl rfl rfl (fun M5 N5 w5 hle5 S5 => .inl (run_indexM (C := cdTm) 0 rfl rfl rfl sl22 (by first | rfl | omega) (ha.mono hle5) (by first | omega | (simp only [List.length_set, List.length_append, List.length_replicate, List.length_singleton, List.length_cons, List.length_nil]; omega)))) ?_
      refine wa_takeP (i := 4) (d := 16) 7 rfl (by kernel_rfl) (by kernel_rfl) (by kernel_rfl) rfl rfl rfl (fun w7 => run_fieldAddr rfl rfl Try.underlying89 rfl (ce3) (nf3)) ?_
      refine wa_take (i := 5) (d := 17) 6 rfl (by kernel_rfl) (by kernel_rfl) (by kernel_rfl) rfl rfl rfl (fun M9 N9 w9 hle9 S9 => .inl (run_load1 rfl rfl Try.underlying3 rfl ((ha.mono hle9).cell S9.m (i := 0) (by first | omega | (simp only [List.length_set, List.length_append, List.length_replicate, List.length_singleton, List.length_cons, List.length_nil]; omega)) 0 rfl rfl))) ?_
      refine wa_takeP (i := 6) (d := 18) 5 rfl (by kernel_rfl) (by kernel_rfl) (by kernel_rfl) rfl rfl rfl (fun w11 => run_neg rfl rfl (by have h9 := bd_at hba (i := 0) (by omega); omega)) ?_
      refine wa_takeP (i := 7) (d := 19) 4 rfl (by kernel_rfl) (by kernel_rfl) (by kernel_rfl) rfl rfl rfl (fun w13 => run_move rfl rfl) ?_
      refine wa_only (i := 1) 3 rfl (by kernel_rfl) rfl rfl (fun w15 S15 => ?_)
      refine (wo_ct rfl rfl rfl rfl rfl rfl rfl cf75 S15 (Of_t a (ha.mono (Hp.le_un _ _)) B hba S15.lend) ?_)
      intro vw16 w16 M15 hle15 S16 hRw16; clear S15
      replace ha := ha.mono hle15
      obtain ⟨gw1, rfl, hw1⟩ := hRw16
      refine LeftW.grow [] (hle15) S16 ?_; clear S16
      change WA _ _ _ _ _ _ _ _ _ _ _ _ []
      refine wa_base ?_
      refine wa_only (i := 8) 2 rfl (by kernel_rfl) rfl rfl (fun w18 S18 => ?_)
      refine (wo_ct rfl rfl rfl rfl rfl rfl rfl cf104 S18 (ShiftW_t hw1 (-((ga a 0).e)) (-1) B (by first | omega | (have h9 := bd_at hba (i := 0) (by omega); omega)) (by first | omega | (have h9 := bd_at hba (i := 0) (by omega); omega)) S18.lend) ?_)
      intro vw19 w19 M17 hle17 S19 hRw19; clear S18
      replace ha := ha.mono hle17
      replace hw1 := hw1.mono hle17
      obtain ⟨gw2, rfl, hw2⟩ := hRw19
      refine LeftW.grow [] (hle17) S19 ?_; clear S19
      change WA _ _ _ _ _ _ _ _ _ _ _ _ []
      refine wa_base ?_
      refine wa_only (i := 9) 1 rfl (by kernel_rfl) rfl rfl (fun w21 S21 => ?_)
      refine (wo_ct rfl rfl rfl rfl rfl rfl rfl cf65 S21 (FormW_t hw2 (by first | omega | (have h9 := bd_at hba (i := 0) (by omega); omega)) S21.lend) ?_)
      intro vw22 w22 M19 hle19 S22 hRw22; clear S21
      replace ha := ha.mono hle19
      replace hw1 := hw1.mono hle19
      replace hw2 := hw2.mono hle19
      obtain ⟨A1, c1, l1, rfl, hr1, hcan1, hbd1, hmk1⟩ := hRw22
      refine LeftW.grow [] (hle19) S22 ?_; clear S22
      change WA _ _ _ _ _ _ _ _ _ _ _ _ []
      refine wa_base ?_
      refine wa_takeP (i := 10) (d := 2) 0 rfl (by kernel_rfl) (by kernel_rfl) (by kernel_rfl) rfl rfl rfl (fun w23 => run_assign rfl rfl) ?_
      refine wa_end (by kernel_rfl) (fun w24 S24 => ?_)
      refine nm_sub [(2, _)] ⟨rfl, trivial⟩ ?_
      refine nm_thn ?_
      refine ws_ret hC [_] rfl rfl ⟨rfl, trivial⟩ ?_
      refine ⟨_, rfl, _, (hle15.trans hle17).trans hle19, (S24.pick [] [] (by decide) trivial), ?_⟩
      refine ⟨_, _, _, rfl, hr1, hcan1, hbd1, ?_⟩
      rw [hmk1]
      unfold unitP
      first | rw [if_pos (show (ga a 0).c < 0 by assumption)] | rw [if_neg (show ¬ (ga a 0).c < 0 by assumption)]
    · have hb11 := of_decide_eq_false hb11
      refine ws_skip rfl ?_
      refine nm_sub [(0, _), (3, _)] ⟨rfl, rfl, trivial⟩ ?_
      refine nm_thn ?_
      refine ws_seqN Normal_n19 Normal_n20 rfl rfl rfl ?_
      refine ws_draw rfl (by kernel_rfl) S 11 rfl ?_
      clear S
      refine wa_takeP (i := 0) (d := 12) 10 rfl (by kernel_rfl) (by kernel_rfl) (by kernel_rfl) rfl rfl rfl (fun w25 => run_move rfl rfl) ?_
      refine wa_takeP (i := 2) (d := 14) 9 rfl (by kernel_rfl) (by kernel_rfl) (by kernel_rfl) rfl rfl rfl (fun w27 => run_move rfl rfl) ?_
      refine wa_take (i := 3) (d := 15) 8 rfl (by kernel_rfl) (by kernel_rfl) (by kernel_rfl) rfl rfl rfl (fun M25 N22 w29 hle25 S29 => .inl (run_indexM (C := cdTm) 0 rfl rfl rfl sl22 (by first | rfl | omega) (ha.mono hle25) (by first | omega | (simp only [List.length_set, List.length_append, List.length_replicate, List.length_singleton, List.length_cons, List.length_nil]; omega)))) ?_
      refine wa_takeP (i := 4) (d := 16) 7 rfl (by kernel_rfl) (by kernel_rfl) (by kernel_rfl) rfl rfl rfl (fun w31 => run_fieldAddr rfl rfl Try.underlying89 rfl (ce3) (nf3)) ?_
      refine wa_take (i := 5) (d := 17) 6 rfl (by kernel_rfl) (by kernel_rfl) (by kernel_rfl) rfl rfl rfl (fun M29 N26 w33 hle29 S33 => .inl (run_load1 rfl rfl Try.underlying3 rfl ((ha.mono hle29).cell S33.m (i := 0) (by first | omega | (simp only [List.length_set, List.length_append, List.length_replicate, List.length_singleton, List.length_cons, List.length_nil]; omega)) 0 rfl rfl))) ?_
      refine wa_takeP (i := 6) (d := 18) 5 rfl (by kernel_rfl) (by kernel_rfl) (by kernel_rfl) rfl rfl rfl (fun w35 => run_neg rfl rfl (by have h9 := bd_at hba (i := 0) (by omega); omega)) ?_
      refine wa_takeP (i := 7) (d := 19) 4 rfl (by kernel_rfl) (by kernel_rfl) (by kernel_rfl) rfl rfl rfl (fun w37 => run_move rfl rfl) ?_
      refine wa_only (i := 1) 3 rfl (by kernel_rfl) rfl rfl (fun w39 S39 => ?_)
      refine (wo_ct rfl rfl rfl rfl rfl rfl rfl cf75 S39 (Of_t a (ha.mono (Hp.le_un _ _)) B hba S39.lend) ?_)
      intro vw40 w40 M35 hle35 S40 hRw40; clear S39
      replace ha := ha.mono hle35
      obtain ⟨gw3, rfl, hw3⟩ := hRw40
      refine LeftW.grow [] (hle35) S40 ?_; clear S40
      change WA _ _ _ _ _ _ _ _ _ _ _ _ []
      refine wa_base ?_
      refine wa_only (i := 8) 2 rfl (by kernel_rfl) rfl rfl (fun w42 S42 => ?_)
      refine (wo_ct rfl rfl rfl rfl rfl rfl rfl cf104 S42 (ShiftW_t hw3 (-((ga a 0).e)) 1 B (by first | omega | (have h9 := bd_at hba (i := 0) (by omega); omega)) (by first | omega | (have h9 := bd_at hba (i := 0) (by omega); omega)) S42.lend) ?_)
      intro vw43 w43 M37 hle37 S43 hRw43; clear S42
      replace ha := ha.mono hle37
      replace hw3 := hw3.mono hle37
      obtain ⟨gw4, rfl, hw4⟩ := hRw43
      refine LeftW.grow [] (hle37) S43 ?_; clear S43
      change WA _ _ _ _ _ _ _ _ _ _ _ _ []
      refine wa_base ?_
      refine wa_only (i := 9) 1 rfl (by kernel_rfl) rfl rfl (fun w45 S45 => ?_)
      refine (wo_ct rfl rfl rfl rfl rfl rfl rfl cf65 S45 (FormW_t hw4 (by first | omega | (have h9 := bd_at hba (i := 0) (by omega); omega)) S45.lend) ?_)
      intro vw46 w46 M39 hle39 S46 hRw46; clear S45
      replace ha := ha.mono hle39
      replace hw3 := hw3.mono hle39
      replace hw4 := hw4.mono hle39
      obtain ⟨A2, c2, l2, rfl, hr2, hcan2, hbd2, hmk2⟩ := hRw46
      refine LeftW.grow [] (hle39) S46 ?_; clear S46
      change WA _ _ _ _ _ _ _ _ _ _ _ _ []
      refine wa_base ?_
      refine wa_takeP (i := 10) (d := 2) 0 rfl (by kernel_rfl) (by kernel_rfl) (by kernel_rfl) rfl rfl rfl (fun w47 => run_assign rfl rfl) ?_
      refine wa_end (by kernel_rfl) (fun w48 S48 => ?_)
      refine nm_sub [(2, _)] ⟨rfl, trivial⟩ ?_
      refine nm_thn ?_
      refine ws_ret hC [_] rfl rfl ⟨rfl, trivial⟩ ?_
      refine ⟨_, rfl, _, (hle35.trans hle37).trans hle39, (S48.pick [] [] (by decide) trivial), ?_⟩
      refine ⟨_, _, _, rfl, hr2, hcan2, hbd2, ?_⟩
      rw [hmk2]
      unfold unitP
      first | rw [if_pos (show (ga a 0).c < 0 by assumption)] | rw [if_neg (show ¬ (ga a 0).c < 0 by assumption)]

noncomputable def Unit_n0 : Code := Try.f20.body.getD .skip
noncomputable def Unit_n1 : Code := cL Unit_n0
noncomputable def Unit_n2 : Code := cR Unit_n0
noncomputable def Unit_n3 : Code := cL Unit_n2
noncomputable def Unit_n4 : Code := cR Unit_n2
noncomputable def Unit_n5 : Code := cL Unit_n3
noncomputable def Unit_n6 : Code := cR Unit_n3
noncomputable def Unit_n7 : Code := cL Unit_n6
noncomputable def Unit_n8 : Code := cR Unit_n6
noncomputable def Unit_n9 : Code := cL Unit_n7
noncomputable def Unit_n10 : Code := cR Unit_n7
noncomputable def Unit_n11 : Code := cL Unit_n4
noncomputable def Unit_n12 : Code := cR Unit_n4
set_option maxRecDepth 10000 in
theorem Unit_t {w : World} {M : Hp} {X : Fr} (a : List Tm) {aA : Option Addr} {ac : Nat} (ha : RdA cdTm M aA ac a) (S : SH w M X []) : Ct Try.prog 20 [.slice aA a.length ac] w M X (PTE (mayT a) (1000 + 1000) (unitP a)) := by
  unfold Ct
  have rmha : a.length * 16 ≤ 140737488355328 := ha.room
  refine calls_in (b := Unit_n0) Try.func20 rfl Try.ntmps20 rfl (fun C hC => ?_)
  refine ws_sub [(0, _)] ⟨rfl, trivial⟩ ?_
  refine ws_seqN Unit_n1 Unit_n2 rfl rfl rfl ?_
  refine ws_region rfl ?_
  refine wl_op (k := 0) (k' := 1) rfl rfl rfl (wo_run rfl rfl (run_assign rfl rfl) ?_)
  refine wl_op (k := 1) (k' := 2) rfl rfl rfl (wo_run rfl rfl (run_assign rfl rfl) ?_)
  refine wl_end rfl ?_
  refine nm_sub [(0, _)] ⟨rfl, trivial⟩ ?_
  refine nm_thn ?_
  refine ws_seqN Unit_n3 Unit_n4 rfl rfl rfl ?_
  refine ws_seqN Unit_n5 Unit_n6 rfl rfl rfl ?_
  refine ws_region rfl ?_
  refine wl_op (k := 0) (k' := 1) rfl rfl rfl (wo_run rfl rfl (run_move rfl rfl) ?_)
  refine wl_op (k := 1) (k' := 2) rfl rfl rfl (wo_cq rfl rfl rfl rfl rfl rfl rfl cf63 S (May_q a (ha.mono (Hp.le_un _ _)) S.lend) ?_)
  rintro _ w1 S1 rfl; clear S
  refine wl_op (k := 2) (k' := 3) rfl rfl rfl (wo_run rfl rfl (run_not rfl rfl) ?_)
  refine wl_end rfl ?_
  refine nm_sub [(0, _), (6, _)] ⟨rfl, rfl, trivial⟩ ?_
  refine nm_thn ?_
  refine ws_condN Unit_n7 Unit_n8 rfl rfl rfl rfl (fun hb6 => ?_) (fun hb6 => ?_)
  · simp only [Bool.and_eq_true, Bool.or_eq_true, Bool.and_eq_false_iff, Bool.or_eq_false_iff, decide_eq_true_eq, decide_eq_false_iff_not, Bool.not_eq_true', Bool.not_eq_false'] at hb6
    refine ws_seqN Unit_n9 Unit_n10 rfl rfl rfl ?_
    refine ws_region rfl ?_
    refine wl_op (k := 0) (k' := 1) rfl rfl rfl (wo_run rfl rfl (run_assign rfl rfl) ?_)
    refine wl_op (k := 1) (k' := 2) rfl rfl rfl (wo_run rfl rfl (run_assign rfl rfl) ?_)
    refine wl_end rfl ?_
    refine nm_sub [(2, _), (3, _)] ⟨rfl, rfl, trivial⟩ ?_
    refine nm_thn ?_
    refine ws_ret hC [_, _] rfl rfl ⟨rfl, rfl, trivial⟩ ?_
    refine ⟨_, rfl, _, Hp.le_refl _, (S1.pick [] [] (by decide) trivial), ?_⟩
    exact .inl ⟨by simp_all, rfl⟩
  · simp only [Bool.and_eq_true, Bool.or_eq_true, Bool.and_eq_false_iff, Bool.or_eq_false_iff, decide_eq_true_eq, decide_eq_false_iff_not, Bool.not_eq_true', Bool.not_eq_false'] at hb6
    refine ws_skip rfl ?_
    refine nm_sub [(0, _)] ⟨rfl, trivial⟩ ?_
    refine nm_thn ?_
    refine ws_seqN Unit_n11 Unit_n12 rfl rfl rfl ?_
    refine ws_region rfl ?_
    refine wl_op (k := 0) (k' := 1) rfl rfl rfl (wo_run rfl rfl (run_move rfl rfl) ?_)
    refine wl_op (k := 1) (k' := 2) rfl rfl rfl (wo_ct rfl rfl rfl rfl rfl rfl rfl cf64 S1 (Normal_t a ha (1000) ((may_can (by simpa using hb6)).1) ((may_can (by simpa using hb6)).2) ((by omega)) S1.lend) ?_)
    intro vw2 w2 M1 hle1 S2 hRw2; clear S1
    replace ha := ha.mono hle1
    obtain ⟨A1, c1, l1, rfl, hr1, hcan1, hbd1, hmk1⟩ := hRw2
    refine wl_op (k := 2) (k' := 3) rfl rfl rfl (wo_run rfl rfl (run_assign rfl rfl) ?_)
    refine wl_op (k := 3) (k' := 4) rfl rfl rfl (wo_run rfl rfl (run_assign rfl rfl) ?_)
    refine wl_end rfl ?_
    refine nm_sub [(2, _), (3, _)] ⟨rfl, rfl, trivial⟩ ?_
    refine nm_thn ?_
    refine ws_ret hC [_, _] rfl rfl ⟨rfl, rfl, trivial⟩ ?_
    refine ⟨_, rfl, _, hle1, (S2.pick [] [] (by decide) trivial), ?_⟩
    exact .inr ⟨by simp_all, _, _, _, rfl, hr1, hcan1, hbd1, by exact hmk1⟩

theorem flip_step {es : List (Int × Int)} {a : List Tm} {i : Nat} (hca : Can a) (hi : i < a.length) (h : mk es = mk (pr ((a.take i).map flT))) (hk : es.map Prod.fst = (a.take i).map fun t => -t.e) :
    mk (mp (-(ga a i).e) (ga a i).c es) = mk (pr ((a.take (i + 1)).map flT)) ∧ (mp (-(ga a i).e) (ga a i).c es).map Prod.fst = (a.take (i + 1)).map fun t => -t.e := by
  have hn : -(ga a i).e ∉ es.map Prod.fst := by
    rw [hk]
    intro hm
    obtain ⟨t, ht, e1⟩ := List.mem_map.1 hm
    have h1 := hca.1
    rw [← List.take_append_drop i a, List.pairwise_append] at h1
    have h2 := h1.2.2 t ht (ga a i) (by rw [List.drop_eq_getElem_cons hi, ga_eq hi]; exact List.mem_cons_self)
    omega
  constructor
  · rw [mk_mp, mg_none hn, h, Int.sub_zero, take_ga a i hi, List.map_append, pr_append, mk_append]
    refine congrArg _ ?_
    show _ = mono (-(ga a i).e) (ga a i).c + Pol.o
    rw [Pol.add_zero]
  · rw [mp_keys, if_neg hn, hk, take_ga a i hi, List.map_append]; rfl

noncomputable def Flip_n0 : Code := Try.f21.body.getD .skip
noncomputable def Flip_n1 : Code := cL Flip_n0
noncomputable def Flip_n2 : Code := cR Flip_n0
noncomputable def Flip_n3 : Code := cL Flip_n2
noncomputable def Flip_n4 : Code := cR Flip_n2
noncomputable def Flip_n5 : Code := cL Flip_n3
noncomputable def Flip_n6 : Code := cR Flip_n3
noncomputable def Flip_n7 : Code := cL Flip_n6
noncomputable def Flip_n8 : Code := cR Flip_n6
noncomputable def Flip_n9 : Code := cL Flip_n7
noncomputable def Flip_n10 : Code := cR Flip_n7
noncomputable def Flip_n11 : Code := cL Flip_n4
noncomputable def Flip_n12 : Code := cR Flip_n4
noncomputable def Flip_n13 : Code := cL Flip_n12
noncomputable def Flip_n14 : Code := cR Flip_n12
noncomputable def Flip_n15 : Code := cL Flip_n13
noncomputable def Flip_n16 : Code := cR Flip_n13
noncomputable def Flip_n17 : Code := cL Flip_n16
noncomputable def Flip_n18 : Code := cL Flip_n17
noncomputable def Flip_n19 : Code := cL Flip_n18
noncomputable def Flip_n20 : Code := cR Flip_n18
noncomputable def Flip_n21 : Code := cL Flip_n20
noncomputable def Flip_n22 : Code := cR Flip_n20
noncomputable def Flip_n23 : Code := cL Flip_n21
noncomputable def Flip_n24 : Code := cR Flip_n21
noncomputable def Flip_n25 : Code := cL Flip_n22
noncomputable def Flip_n26 : Code := cR Flip_n22
noncomputable def Flip_n27 : Code := cL Flip_n25
noncomputable def Flip_n28 : Code := cL Flip_n27
noncomputable def Flip_n29 : Code := cR Flip_n27
noncomputable def Flip_n30 : Code := cL Flip_n14
noncomputable def Flip_n31 : Code := cR Flip_n14
set_option maxRecDepth 10000 in
theorem Flip_t {w : World} {M : Hp} {X : Fr} (a : List Tm) {aA : Option Addr} {ac : Nat} (ha : RdA cdTm M aA ac a) (S : SH w M X []) : Ct Try.prog 21 [.slice aA a.length ac] w M X (PTE (mayT a) 1000 (mk (pr (a.map flT)))) := by
  unfold Ct
  have rmha : a.length * 16 ≤ 140737488355328 := ha.room
  refine calls_in (b := Flip_n0) Try.func21 rfl Try.ntmps21 rfl (fun C hC => ?_)
  refine ws_sub [(0, _)] ⟨rfl, trivial⟩ ?_
  refine ws_seqN Flip_n1 Flip_n2 rfl rfl rfl ?_
  refine ws_region rfl ?_
  refine wl_op (k := 0) (k' := 1) rfl rfl rfl (wo_run rfl rfl (run_assign rfl rfl) ?_)
  refine wl_op (k := 1) (k' := 2) rfl rfl rfl (wo_run rfl rfl (run_assign rfl rfl) ?_)
  refine wl_end rfl ?_
  refine nm_sub [(0, _)] ⟨rfl, trivial⟩ ?_
  refine nm_thn ?_
  refine ws_seqN Flip_n3 Flip_n4 rfl rfl rfl ?_
  refine ws_seqN Flip_n5 Flip_n6 rfl rfl rfl ?_
  refine ws_region rfl ?_
  refine wl_op (k := 0) (k' := 1) rfl rfl rfl (wo_run rfl rfl (run_move rfl rfl) ?_)
  refine wl_op (k := 1) (k' := 2) rfl rfl rfl (wo_cq rfl rfl rfl rfl rfl rfl rfl cf63 S (May_q a (ha.mono (Hp.le_un _ _)) S.lend) ?_)
  rintro _ w1 S1 rfl; clear S
  refine wl_op (k := 2) (k' := 3) rfl rfl rfl (wo_run rfl rfl (run_not rfl rfl) ?_)
  refine wl_end rfl ?_
  refine nm_sub [(0, _), (9, _)] ⟨rfl, rfl, trivial⟩ ?_
  refine nm_thn ?_
  refine ws_condN Flip_n7 Flip_n8 rfl rfl rfl rfl (fun hb9 => ?_) (fun hb9 => ?_)
  · simp only [Bool.and_eq_true, Bool.or_eq_true, Bool.and_eq_false_iff, Bool.or_eq_false_iff, decide_eq_true_eq, decide_eq_false_iff_not, Bool.not_eq_true', Bool.not_eq_false'] at hb9
    refine ws_seqN Flip_n9 Flip_n10 rfl rfl rfl ?_
    refine ws_region rfl ?_
    refine wl_op (k := 0) (k' := 1) rfl rfl rfl (wo_run rfl rfl (run_assign rfl rfl) ?_)
    refine wl_op (k := 1) (k' := 2) rfl rfl rfl (wo_run rfl rfl (run_assign rfl rfl) ?_)
    refine wl_end rfl ?_
    refine nm_sub [(2, _), (3, _)] ⟨rfl, rfl, trivial⟩ ?_
    refine nm_thn ?_
    refine ws_ret hC [_, _] rfl rfl ⟨rfl, rfl, trivial⟩ ?_
    refine ⟨_, rfl, _, Hp.le_refl _, (S1.pick [] [] (by decide) trivial), ?_⟩
    exact .inl ⟨by simp_all, rfl⟩
  · simp only [Bool.and_eq_true, Bool.or_eq_true, Bool.and_eq_false_iff, Bool.or_eq_false_iff, decide_eq_true_eq, decide_eq_false_iff_not, Bool.not_eq_true', Bool.not_eq_false'] at hb9
    refine ws_skip rfl ?_
    refine nm_sub [(0, _)] ⟨rfl, trivial⟩ ?_
    refine nm_thn ?_
    refine ws_seqN Flip_n11 Flip_n12 rfl rfl rfl ?_
    have hma : mayT a = true := by simpa using hb9
    obtain ⟨hca, hba⟩ := may_can hma
    refine ws_region rfl ?_
    refine wl_op (k := 0) (k' := 1) rfl rfl rfl (wo_makeMap Int Int (Value.int .i64) (Value.int .i64) rfl rfl rfl S1 ?_)
    intro gm1 w2 S2; clear S1
    refine wl_op (k := 1) (k' := 2) rfl rfl rfl (wo_run rfl rfl (run_assign rfl rfl) ?_)
    refine wl_end rfl ?_
    refine nm_sub [(0, _), (4, _)] ⟨rfl, rfl, trivial⟩ ?_
    refine nm_thn ?_
    refine ws_seqN Flip_n13 Flip_n14 rfl rfl rfl ?_
    refine ws_seqN Flip_n15 Flip_n16 rfl rfl rfl ?_
    refine ws_region rfl ?_
    refine wl_op (k := 0) (k' := 1) rfl rfl rfl (wo_run rfl rfl (run_move rfl rfl) ?_)
    refine wl_op (k := 1) (k' := 2) rfl rfl rfl (wo_run rfl rfl (run_len rfl rfl rfl rfl rfl rfl Try.underlying22) ?_)
    refine wl_op (k := 2) (k' := 3) rfl rfl rfl (wo_run rfl rfl (run_move rfl rfl) ?_)
    refine wl_end rfl ?_
    refine nm_sub [(4, _), (11, _), (12, _), (13, _)] ⟨rfl, rfl, rfl, rfl, trivial⟩ ?_
    refine nm_thn ?_
    refine ws_blockN Flip_n17 0 rfl rfl rfl ?_
    refine ws_loopE (fun mx_ ax_ wx_ => ∃ (i : Nat) (es : List (Int × Int)), mx_ = a.length - i ∧ Env 26 [(4, .map (some gm1)), (11, .slice aA a.length ac), (12, .int .i64 (a.length : Int)), (13, .int .i64 (i : Int))] ax_ ∧ SH wx_ M X [Rs.mp (Value.int .i64) (Value.int .i64) gm1 es] ∧ i ≤ a.length ∧ Ents es 1000 ∧ mk es = mk (pr ((a.take i).map flT)) ∧ es.map Prod.fst = (a.take i).map fun t => -t.e) rfl ?_ ?_
    · intro ax_ hax_
      refine ⟨_, ⟨0, [], rfl, hax_.sub ⟨rfl, rfl, rfl, rfl, trivial⟩, S2.pick [0] [_] (by decide) ⟨rfl, trivial⟩, ?hq1f0, ?hq1f1, ?hq1f2, ?hq1f3⟩⟩
      case hq1f0 => omega
      case hq1f1 => exact Ents.nil_ _
      case hq1f2 => rfl
      case hq1f3 => rfl
    · rintro m2 a1 w3 ⟨i, es, rfl, he1, S3, hi, hes, hmk, hky⟩
      clear S2
      refine ws_in he1 (c := Flip_n18) rfl ?_
      clear he1 a1
      refine ws_seqN Flip_n19 Flip_n20 rfl rfl rfl ?_
      refine ws_region rfl ?_
      refine wl_op (k := 0) (k' := 1) rfl rfl rfl (wo_run rfl rfl (run_lss rfl rfl rfl) ?_)
      refine wl_end rfl ?_
      refine nm_thn ?_
      refine ws_seqN Flip_n21 Flip_n22 rfl rfl rfl ?_
      refine ws_condN Flip_n23 Flip_n24 rfl rfl rfl rfl (fun hb14 => ?_) (fun hb14 => ?_)
      · have hb14 := of_decide_eq_true hb14
        refine ws_skip rfl ?_
        refine nm_sub [(4, _), (11, _), (12, _), (13, _)] ⟨rfl, rfl, rfl, rfl, trivial⟩ ?_
        refine nm_thn ?_
        refine ws_seqN Flip_n25 Flip_n26 rfl rfl rfl ?_
        refine ws_blockN Flip_n27 1 rfl rfl rfl ?_
        refine ws_seqN Flip_n28 Flip_n29 rfl rfl rfl ?_
        refine ws_region rfl ?_
        refine wl_op (k := 0) (k' := 1) rfl rfl rfl (wo_run rfl rfl (run_indexM (C := cdTm) i rfl rfl rfl sl22 (by first | rfl | omega) ha (by first | omega | (simp only [List.length_set, List.length_append, List.length_replicate, List.length_singleton, List.length_cons, List.length_nil]; omega))) ?_)
        refine wl_op (k := 1) (k' := 2) rfl rfl rfl (wo_run rfl rfl (run_loadN (us := [_, _]) rfl rfl Try.underlying89 rfl sz89 (ha.cellsAt S3.m (e := i) (by first | omega | (simp only [List.length_set, List.length_append, List.length_replicate, List.length_singleton, List.length_cons, List.length_nil]; omega)) (j := 0) ⟨rfl, rfl, trivial⟩)) ?_)
        refine wl_op (k := 2) (k' := 3) rfl rfl rfl (wo_alloc (l := [_, _]) rfl rfl rfl zr89 rfl S3 ?_)
        intro gb1 w4 S4; clear S3
        refine wl_op (k := 3) (k' := 4) rfl rfl rfl (wo_storeB (i := 0) (us := [_, _]) (l' := [_, _]) (H' := [_, _]) rfl rfl S4 rfl rfl rfl rfl sz89 rfl rfl rfl rfl ?_)
        intro w5 S5; clear S4
        refine wl_end rfl ?_
        refine nm_sub [(4, _), (11, _), (12, _), (13, _), (6, _)] ⟨rfl, rfl, rfl, rfl, rfl, trivial⟩ ?_
        refine nm_thn ?_
        refine ws_region rfl ?_
        refine wl_op (k := 0) (k' := 1) rfl rfl rfl (wo_run rfl rfl (run_move rfl rfl) ?_)
        refine wl_op (k := 1) (k' := 2) rfl rfl rfl (wo_run rfl rfl (run_fieldAddr rfl rfl Try.underlying89 rfl (ce3) (nf3)) ?_)
        refine wl_op (k := 2) (k' := 3) rfl rfl rfl (wo_run rfl rfl (run_load1 rfl rfl Try.underlying3 rfl (S5.boxc (i := 0) rfl rfl)) ?_)
        refine wl_op (k := 3) (k' := 4) rfl rfl rfl (wo_run rfl rfl (run_neg rfl rfl (by have h9 := bd_at hba (i := i) (by omega); omega)) ?_)
        refine wl_op (k := 4) (k' := 5) rfl rfl rfl (wo_run rfl rfl (run_fieldAddr rfl rfl Try.underlying89 rfl (ce3) (nf3)) ?_)
        refine wl_op (k := 5) (k' := 6) rfl rfl rfl (wo_run rfl rfl (run_load1 rfl rfl Try.underlying3 rfl (S5.boxc (i := 0) rfl rfl)) ?_)
        refine wl_op (k := 6) (k' := 7) rfl rfl rfl (wo_mapUpdate (kc := Value.int .i64) (vc := Value.int .i64) (es := es) (k := (-((ga a i).e))) (e := ((ga a i).c)) (i := 1) (H' := [_, _]) (.inl rfl) rfl S5 rfl rfl rfl rfl Try.underlying87 mk3 rfl ?_)
        intro w6 S6; clear S5
        refine wl_end rfl ?_
        refine nm_blk ?_
        refine nm_sub [(4, _), (11, _), (12, _), (13, _)] ⟨rfl, rfl, rfl, rfl, trivial⟩ ?_
        refine nm_thn ?_
        refine ws_region rfl ?_
        refine wl_op (k := 0) (k' := 1) rfl rfl rfl (wo_run rfl rfl (run_add rfl rfl rfl (by first | omega | (simp only [List.length_set, List.length_append, List.length_replicate, List.length_singleton, List.length_cons, List.length_nil]; omega))) ?_)
        refine wl_op (k := 1) (k' := 2) rfl rfl rfl (wo_run rfl rfl (run_move rfl rfl) ?_)
        refine wl_end rfl ?_
        refine nm_lp ?_
        intro ax_ hax_
        refine ⟨_, ?hq2m, ⟨i + 1, _, rfl, hax_.sub ⟨rfl, rfl, rfl, rfl, trivial⟩, S6.pick [1] [_] (by decide) ⟨rfl, trivial⟩, ?hq2f0, ?hq2f1, ?hq2f2, ?hq2f3⟩⟩
        case hq2f0 => omega
        case hq2f1 => exact mp_ents hes (by have h9 := bd_at hba (i := i) (by omega); omega) ((hca.2 _ (ga_mem (by omega))).2.1)
        case hq2f2 => exact (flip_step hca (by omega) hmk hky).1
        case hq2f3 => exact (flip_step hca (by omega) hmk hky).2
        case hq2m => omega
      · have hb14 := of_decide_eq_false hb14
        refine ws_exit rfl rfl ?_
        refine nm_sub [(4, _)] ⟨rfl, trivial⟩ ?_
        refine nm_thn ?_
        refine ws_seqN Flip_n30 Flip_n31 rfl rfl rfl ?_
        obtain rfl : i = a.length := by omega
        rw [List.take_length] at hmk
        refine ws_region rfl ?_
        refine wl_op (k := 0) (k' := 1) rfl rfl rfl (wo_run rfl rfl (run_move rfl rfl) ?_)
        obtain ⟨M1, hle2, S7, hm1⟩ := S3.pubmap (i := 0) (H' := [_]) rfl rfl; clear S3
        replace ha := ha.mono hle2
        have hw1 : Wk M1 gm1 (1000) (mk es) := ⟨_, hm1, hes, rfl⟩
        refine wl_op (k := 1) (k' := 2) rfl rfl rfl (wo_ct rfl rfl rfl rfl rfl rfl rfl cf65 S7 (FormW_t hw1 (by omega) S7.lend) ?_)
        intro vw7 w7 M2 hle3 S8 hRw7; clear S7
        replace ha := ha.mono hle3
        replace hm1 := hm1.mono hle3
        replace hw1 := hw1.mono hle3
        obtain ⟨A1, c1, l1, rfl, hr1, hcan1, hbd1, hmk1⟩ := hRw7
        refine wl_op (k := 2) (k' := 3) rfl rfl rfl (wo_run rfl rfl (run_assign rfl rfl) ?_)
        refine wl_op (k := 3) (k' := 4) rfl rfl rfl (wo_run rfl rfl (run_assign rfl rfl) ?_)
        refine wl_end rfl ?_
        refine nm_sub [(2, _), (3, _)] ⟨rfl, rfl, trivial⟩ ?_
        refine nm_thn ?_
        refine ws_ret hC [_, _] rfl rfl ⟨rfl, rfl, trivial⟩ ?_
        refine ⟨_, rfl, _, hle2.trans hle3, (S8.pick [] [] (by decide) trivial), ?_⟩
        exact .inr ⟨by simp_all, _, _, _, rfl, hr1, hcan1, hbd1, by rw [hmk1, hmk]⟩

end Go.Proofs.Ytkcighnochjlgaa
