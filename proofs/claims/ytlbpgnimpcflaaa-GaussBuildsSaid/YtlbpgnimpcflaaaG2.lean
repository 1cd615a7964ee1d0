/- Walks printed by eng.py. -/
import Derived.Test.YtlbpgnimpcflaaaG1
set_option linter.unusedSimpArgs false
set_option linter.unusedVariables false
namespace Go.Proofs.Ytlbpgnimpcflaaa
open Go.ChangeShapes Go.WideShapes Go.ChangeAt Go.RowKit
noncomputable def check_n0 : Code := Try.f51.body.getD .skip
noncomputable def check_n1 : Code := cL check_n0
noncomputable def check_n2 : Code := cR check_n0
noncomputable def check_n3 : Code := cL check_n2
noncomputable def check_n4 : Code := cR check_n2
noncomputable def check_n5 : Code := cL check_n3
noncomputable def check_n6 : Code := cR check_n3
noncomputable def check_n7 : Code := cL check_n6
noncomputable def check_n8 : Code := cR check_n6
noncomputable def check_n9 : Code := cL check_n7
noncomputable def check_n10 : Code := cR check_n7
noncomputable def check_n11 : Code := cL check_n4
noncomputable def check_n12 : Code := cR check_n4
noncomputable def check_n13 : Code := cL check_n12
noncomputable def check_n14 : Code := cR check_n12
noncomputable def check_n15 : Code := cL check_n13
noncomputable def check_n16 : Code := cR check_n13
noncomputable def check_n17 : Code := cL check_n16
noncomputable def check_n18 : Code := cL check_n17
noncomputable def check_n19 : Code := cL check_n18
noncomputable def check_n20 : Code := cR check_n18
noncomputable def check_n21 : Code := cL check_n20
noncomputable def check_n22 : Code := cR check_n20
noncomputable def check_n23 : Code := cL check_n21
noncomputable def check_n24 : Code := cR check_n21
noncomputable def check_n25 : Code := cL check_n22
noncomputable def check_n26 : Code := cR check_n22
noncomputable def check_n27 : Code := cL check_n25
noncomputable def check_n28 : Code := cL check_n27
noncomputable def check_n29 : Code := cR check_n27
noncomputable def check_n30 : Code := cL check_n29
noncomputable def check_n31 : Code := cR check_n29
noncomputable def check_n32 : Code := cL check_n31
noncomputable def check_n33 : Code := cR check_n31
noncomputable def check_n34 : Code := cL check_n33
noncomputable def check_n35 : Code := cL check_n34
noncomputable def check_n36 : Code := cL check_n35
noncomputable def check_n37 : Code := cR check_n35
noncomputable def check_n38 : Code := cL check_n37
noncomputable def check_n39 : Code := cR check_n37
noncomputable def check_n40 : Code := cL check_n38
noncomputable def check_n41 : Code := cR check_n38
noncomputable def check_n42 : Code := cL check_n39
noncomputable def check_n43 : Code := cR check_n39
noncomputable def check_n44 : Code := cL check_n42
noncomputable def check_n45 : Code := cL check_n44
noncomputable def check_n46 : Code := cR check_n44
noncomputable def check_n47 : Code := cL check_n46
noncomputable def check_n48 : Code := cR check_n46
noncomputable def check_n49 : Code := cL check_n48
noncomputable def check_n50 : Code := cR check_n48
noncomputable def check_n51 : Code := cL check_n49
noncomputable def check_n52 : Code := cR check_n49
noncomputable def check_n53 : Code := cL check_n14
noncomputable def check_n54 : Code := cR check_n14
noncomputable def check_n55 : Code := cL check_n53
noncomputable def check_n56 : Code := cL check_n55
noncomputable def check_n57 : Code := cR check_n55
noncomputable def check_n58 : Code := cL check_n57
noncomputable def check_n59 : Code := cR check_n57
noncomputable def check_n60 : Code := cL check_n58
noncomputable def check_n61 : Code := cR check_n58
noncomputable def check_n62 : Code := cL check_n59
noncomputable def check_n63 : Code := cR check_n59
noncomputable def check_n64 : Code := cL check_n63
noncomputable def check_n65 : Code := cR check_n63
noncomputable def check_n66 : Code := cL check_n64
noncomputable def check_n67 : Code := cR check_n64
noncomputable def check_n68 : Code := cL check_n54
noncomputable def check_n69 : Code := cR check_n54
set_option maxRecDepth 10000 in
theorem check_q {w : World} {M : Hp} {X : Fr} (l : List (List Vi)) {lA : Option Addr} {lc : Nat} {lv : List SlV} (plus : List Bool) {plusA : Option Addr} {plusc : Nat} (loops : Int) (hl : RdA (cdV 24) (M.un X.h) lA lc lv) (hdl : Rd2 cdVi (M.un X.h) lv l) (hplus : RdA cdBool (M.un X.h) plusA plusc plus) (hlw : -9223372036854775808 ≤ loops ∧ loops ≤ 9223372036854775807) (S : SH w M X []) : Cq Try.prog 51 [.slice lA lv.length lc, .slice plusA plus.length plusc, .int .i64 loops] w M X (fun u => u = .int .i64 (buildE plus.length l loops)) := by
  unfold Cq
  have rmhl : lv.length * 24 ≤ 140737488355328 := hl.room
  have rmhplus : plus.length * 1 ≤ 140737488355328 := hplus.room
  have hlv0 := hdl.1
  refine calls_in (b := check_n0) Try.func51 rfl Try.ntmps51 rfl (fun C hC => ?_)
  refine ws_sub [(0, _), (1, _), (2, _)] ⟨rfl, rfl, rfl, trivial⟩ ?_
  refine ws_seqN check_n1 check_n2 rfl rfl rfl ?_
  refine ws_region rfl ?_
  refine wl_op (k := 0) (k' := 1) rfl rfl rfl (wo_run rfl rfl (run_assign rfl rfl) ?_)
  refine wl_end rfl ?_
  refine nm_sub [(0, _), (1, _), (2, _)] ⟨rfl, rfl, rfl, trivial⟩ ?_
  refine nm_thn ?_
  refine ws_seqN check_n3 check_n4 rfl rfl rfl ?_
  refine ws_seqN check_n5 check_n6 rfl rfl rfl ?_
  refine ws_region rfl ?_
  refine wl_op (k := 0) (k' := 1) rfl rfl rfl (wo_run rfl rfl (run_move rfl rfl) ?_)
  refine wl_op (k := 1) (k' := 2) rfl rfl rfl (wo_run rfl rfl (run_len rfl rfl rfl rfl rfl rfl Try.underlying23) ?_)
  refine wl_op (k := 2) (k' := 3) rfl rfl rfl (wo_run rfl rfl (run_gtr rfl rfl rfl) ?_)
  refine wl_op (k := 3) (k' := 4) rfl rfl rfl (wo_run rfl rfl (run_move rfl rfl) ?_)
  refine wl_split (t := 15) rfl (fun hg15 => ?_) (fun hg15 => ?_)
  · have hg15 := of_decide_eq_true hg15
    refine wl_no (k := 4) (k' := 5) (d := 16) rfl rfl ⟨_, _, _, rfl, rfl, rfl, rfl⟩ rfl rfl ?_
    refine wl_no (k := 5) (k' := 6) (d := 17) rfl rfl ⟨_, _, _, rfl, rfl, rfl, rfl⟩ rfl rfl ?_
    refine wl_op (k := 6) (k' := 7) rfl rfl rfl (wo_run rfl rfl (run_pickT rfl rfl rfl) ?_)
    refine wl_op (k := 7) (k' := 8) rfl rfl rfl (wo_run rfl rfl (run_move rfl rfl) ?_)
    refine wl_no (k := 8) (k' := 9) (d := 20) rfl rfl ⟨_, _, _, rfl, rfl, rfl, rfl⟩ rfl rfl ?_
    refine wl_no (k := 9) (k' := 10) (d := 21) rfl rfl ⟨_, _, _, rfl, rfl, rfl, rfl⟩ rfl rfl ?_
    refine wl_op (k := 10) (k' := 11) rfl rfl rfl (wo_run rfl rfl (run_pickT rfl rfl rfl) ?_)
    refine wl_end rfl ?_
    refine nm_sub [(0, _), (1, _), (2, _), (22, _)] ⟨rfl, rfl, rfl, rfl, trivial⟩ ?_
    refine nm_thn ?_
    refine ws_condTN check_n7 rfl rfl rfl ?_
    refine ws_seqN check_n9 check_n10 rfl rfl rfl ?_
    refine ws_region rfl ?_
    refine wl_op (k := 0) (k' := 1) rfl rfl rfl (wo_run rfl rfl (run_assign rfl rfl) ?_)
    refine wl_end rfl ?_
    refine nm_sub [(6, _)] ⟨rfl, trivial⟩ ?_
    refine nm_thn ?_
    refine ws_ret hC [_] rfl rfl ⟨rfl, trivial⟩ ?_
    exact ⟨_, rfl, (S.pick [] [] (by decide) trivial), (by (have hlv := hdl.1); show Value.int _ _ = _; refine congrArg (Value.int .i64) ?_; unfold buildE; first | rw [if_pos (by omega)] | rw [if_pos (by simp_all; omega)])⟩
  · have hg15 := of_decide_eq_false hg15
    refine wl_opG (k := 4) (k' := 5) rfl rfl ⟨_, _, _, rfl, rfl, rfl, rfl⟩ rfl (wo_run rfl rfl (run_move rfl rfl) ?_)
    refine wl_opG (k := 5) (k' := 6) rfl rfl ⟨_, _, _, rfl, rfl, rfl, rfl⟩ rfl (wo_run rfl rfl (run_lss rfl rfl rfl) ?_)
    refine wl_op (k := 6) (k' := 7) rfl rfl rfl (wo_run rfl rfl (run_pickF rfl rfl rfl) ?_)
    refine wl_op (k := 7) (k' := 8) rfl rfl rfl (wo_run rfl rfl (run_move rfl rfl) ?_)
    refine wl_split (t := 19) rfl (fun hg19 => ?_) (fun hg19 => ?_)
    · have hg19 := of_decide_eq_true hg19
      refine wl_no (k := 8) (k' := 9) (d := 20) rfl rfl ⟨_, _, _, rfl, rfl, rfl, rfl⟩ rfl rfl ?_
      refine wl_no (k := 9) (k' := 10) (d := 21) rfl rfl ⟨_, _, _, rfl, rfl, rfl, rfl⟩ rfl rfl ?_
      refine wl_op (k := 10) (k' := 11) rfl rfl rfl (wo_run rfl rfl (run_pickT rfl rfl rfl) ?_)
      refine wl_end rfl ?_
      refine nm_sub [(0, _), (1, _), (2, _), (22, _)] ⟨rfl, rfl, rfl, rfl, trivial⟩ ?_
      refine nm_thn ?_
      refine ws_condTN check_n7 rfl rfl rfl ?_
      refine ws_seqN check_n9 check_n10 rfl rfl rfl ?_
      refine ws_region rfl ?_
      refine wl_op (k := 0) (k' := 1) rfl rfl rfl (wo_run rfl rfl (run_assign rfl rfl) ?_)
      refine wl_end rfl ?_
      refine nm_sub [(6, _)] ⟨rfl, trivial⟩ ?_
      refine nm_thn ?_
      refine ws_ret hC [_] rfl rfl ⟨rfl, trivial⟩ ?_
      exact ⟨_, rfl, (S.pick [] [] (by decide) trivial), (by (have hlv := hdl.1); show Value.int _ _ = _; refine congrArg (Value.int .i64) ?_; unfold buildE; first | rw [if_pos (by omega)] | rw [if_pos (by simp_all; omega)])⟩
    · have hg19 := of_decide_eq_false hg19
      refine wl_opG (k := 8) (k' := 9) rfl rfl ⟨_, _, _, rfl, rfl, rfl, rfl⟩ rfl (wo_run rfl rfl (run_move rfl rfl) ?_)
      refine wl_opG (k := 9) (k' := 10) rfl rfl ⟨_, _, _, rfl, rfl, rfl, rfl⟩ rfl (wo_run rfl rfl (run_gtr rfl rfl rfl) ?_)
      refine wl_op (k := 10) (k' := 11) rfl rfl rfl (wo_run rfl rfl (run_pickF rfl rfl rfl) ?_)
      refine wl_end rfl ?_
      refine nm_sub [(0, _), (1, _), (2, _), (22, _)] ⟨rfl, rfl, rfl, rfl, trivial⟩ ?_
      refine nm_thn ?_
      refine ws_condN check_n7 check_n8 rfl rfl rfl rfl (fun hb22 => ?_) (fun hb22 => ?_)
      · have hb22 := of_decide_eq_true hb22
        refine ws_seqN check_n9 check_n10 rfl rfl rfl ?_
        refine ws_region rfl ?_
        refine wl_op (k := 0) (k' := 1) rfl rfl rfl (wo_run rfl rfl (run_assign rfl rfl) ?_)
        refine wl_end rfl ?_
        refine nm_sub [(6, _)] ⟨rfl, trivial⟩ ?_
        refine nm_thn ?_
        refine ws_ret hC [_] rfl rfl ⟨rfl, trivial⟩ ?_
        exact ⟨_, rfl, (S.pick [] [] (by decide) trivial), (by (have hlv := hdl.1); show Value.int _ _ = _; refine congrArg (Value.int .i64) ?_; unfold buildE; first | rw [if_pos (by omega)] | rw [if_pos (by simp_all; omega)])⟩
      · have hb22 := of_decide_eq_false hb22
        refine ws_skip rfl ?_
        refine nm_sub [(0, _), (1, _), (2, _)] ⟨rfl, rfl, rfl, trivial⟩ ?_
        refine nm_thn ?_
        refine ws_seqN check_n11 check_n12 rfl rfl rfl ?_
        refine ws_region rfl ?_
        refine wl_op (k := 0) (k' := 1) rfl rfl rfl (wo_run rfl rfl (run_move rfl rfl) ?_)
        refine wl_op (k := 1) (k' := 2) rfl rfl rfl (wo_run rfl rfl (run_len rfl rfl rfl rfl rfl rfl Try.underlying23) ?_)
        refine wl_op (k := 2) (k' := 3) rfl rfl rfl (wo_run rfl rfl (run_move rfl rfl) ?_)
        refine wl_op (k := 3) (k' := 4) rfl rfl rfl (wo_run rfl rfl (run_add rfl rfl rfl (by first | omega | (simp only [List.length_set, List.length_append, List.length_replicate, List.length_singleton, List.length_cons, List.length_nil]; omega))) ?_)
        refine wl_op (k := 4) (k' := 5) rfl rfl rfl (wo_run rfl rfl (run_eql rfl rfl rfl) ?_)
        refine wl_op (k := 5) (k' := 6) rfl rfl rfl (wo_run rfl rfl (run_assign rfl rfl) ?_)
        refine wl_end rfl ?_
        refine nm_sub [(0, _), (1, _), (7, _)] ⟨rfl, rfl, rfl, trivial⟩ ?_
        refine nm_thn ?_
        refine ws_seqN check_n13 check_n14 rfl rfl rfl ?_
        refine ws_seqN check_n15 check_n16 rfl rfl rfl ?_
        refine ws_region rfl ?_
        refine wl_op (k := 0) (k' := 1) rfl rfl rfl (wo_run rfl rfl (run_move rfl rfl) ?_)
        refine wl_op (k := 1) (k' := 2) rfl rfl rfl (wo_run rfl rfl (run_len rfl rfl rfl rfl rfl rfl Try.underlying22) ?_)
        refine wl_op (k := 2) (k' := 3) rfl rfl rfl (wo_run rfl rfl (run_move rfl rfl) ?_)
        refine wl_end rfl ?_
        refine nm_thn ?_
        refine ws_blockN check_n17 0 rfl rfl rfl ?_
        refine ws_loopE (fun mx_ ax_ wx_ => ∃ (i : Nat) (em : Bool), mx_ = lv.length - i ∧ Env 66 [(0, .slice lA lv.length lc), (1, .slice plusA plus.length plusc), (7, .bool em), (28, .slice lA lv.length lc), (29, .int .i64 (lv.length : Int)), (30, .int .i64 (i : Int))] ax_ ∧ SH wx_ M X [] ∧ i ≤ lv.length ∧ okL plus.length l i ∧ em = emT (decide ((plus.length : Int) + loops = 0)) l i) rfl ?_ ?_
        · intro ax_ hax_
          refine ⟨_, ⟨0, _, rfl, hax_.sub ⟨rfl, rfl, rfl, rfl, rfl, rfl, trivial⟩, S.pick [] [] (by decide) trivial, ?hq1f0, ?hq1f1, ?hq1f2⟩⟩
          case hq1f0 => omega
          case hq1f1 => (intro i h; omega)
          case hq1f2 => rfl
        · rintro m1 a1 w1 ⟨i, em, rfl, he1, S1, hi, hok, hem⟩
          clear S
          refine ws_in he1 (c := check_n18) rfl ?_
          clear he1 a1
          refine ws_seqN check_n19 check_n20 rfl rfl rfl ?_
          refine ws_region rfl ?_
          refine wl_op (k := 0) (k' := 1) rfl rfl rfl (wo_run rfl rfl (run_lss rfl rfl rfl) ?_)
          refine wl_end rfl ?_
          refine nm_thn ?_
          refine ws_seqN check_n21 check_n22 rfl rfl rfl ?_
          refine ws_condN check_n23 check_n24 rfl rfl rfl rfl (fun hb31 => ?_) (fun hb31 => ?_)
          · have hb31 := of_decide_eq_true hb31
            refine ws_skip rfl ?_
            refine nm_sub [(0, _), (1, _), (7, _), (28, _), (29, _), (30, _)] ⟨rfl, rfl, rfl, rfl, rfl, rfl, trivial⟩ ?_
            refine nm_thn ?_
            refine ws_seqN check_n25 check_n26 rfl rfl rfl ?_
            refine ws_blockN check_n27 1 rfl rfl rfl ?_
            refine ws_seqN check_n28 check_n29 rfl rfl rfl ?_
            refine ws_region rfl ?_
            refine wl_op (k := 0) (k' := 1) rfl rfl rfl (wo_run rfl rfl (run_indexM (C := (cdV 24)) i rfl rfl rfl sl22 (by first | rfl | omega) hl (by first | omega | (simp only [List.length_set, List.length_append, List.length_replicate, List.length_singleton, List.length_cons, List.length_nil]; omega))) ?_)
            obtain ⟨hn1, hr1⟩ := hdl.2 i (by first | omega | (simp only [List.length_set, List.length_append, List.length_replicate, List.length_singleton, List.length_cons, List.length_nil]; omega))
            have rmhr1 : (ga l i).length * 16 ≤ 140737488355328 := hr1.room
            refine wl_op (k := 1) (k' := 2) rfl rfl rfl (wo_run rfl rfl (run_load1 rfl rfl Try.underlying24 rfl (hl.cell S1.um (i := i) (by first | omega | (simp only [List.length_set, List.length_append, List.length_replicate, List.length_singleton, List.length_cons, List.length_nil]; omega)) 0 rfl (congrArg (fun n => some (Value.slice _ n _)) hn1))) ?_)
            refine wl_op (k := 2) (k' := 3) rfl rfl rfl (wo_run rfl rfl (run_assign rfl rfl) ?_)
            refine wl_end rfl ?_
            refine nm_sub [(0, _), (1, _), (7, _), (28, _), (29, _), (30, _), (9, _)] ⟨rfl, rfl, rfl, rfl, rfl, rfl, rfl, trivial⟩ ?_
            refine nm_thn ?_
            refine ws_seqN check_n30 check_n31 rfl rfl rfl ?_
            refine ws_region rfl ?_
            refine wl_op (k := 0) (k' := 1) rfl rfl rfl (wo_run rfl rfl (run_move rfl rfl) ?_)
            refine wl_op (k := 1) (k' := 2) rfl rfl rfl (wo_run rfl rfl (run_move rfl rfl) ?_)
            refine wl_split (t := 35) rfl (fun hg35 => ?_) (fun hg35 => ?_)
            · refine wl_no (k := 2) (k' := 3) (d := 36) rfl rfl ⟨_, _, _, rfl, rfl, rfl, rfl⟩ rfl rfl ?_
              refine wl_no (k := 3) (k' := 4) (d := 37) rfl rfl ⟨_, _, _, rfl, rfl, rfl, rfl⟩ rfl rfl ?_
              refine wl_no (k := 4) (k' := 5) (d := 38) rfl rfl ⟨_, _, _, rfl, rfl, rfl, rfl⟩ rfl rfl ?_
              refine wl_op (k := 5) (k' := 6) rfl rfl rfl (wo_run rfl rfl (run_pickT rfl rfl rfl) ?_)
              refine wl_op (k := 6) (k' := 7) rfl rfl rfl (wo_run rfl rfl (run_assign rfl rfl) ?_)
              refine wl_end rfl ?_
              refine nm_sub [(0, _), (1, _), (7, _), (28, _), (29, _), (30, _), (9, _)] ⟨rfl, rfl, rfl, rfl, rfl, rfl, rfl, trivial⟩ ?_
              refine nm_thn ?_
              refine ws_seqN check_n32 check_n33 rfl rfl rfl ?_
              refine ws_region rfl ?_
              refine wl_op (k := 0) (k' := 1) rfl rfl rfl (wo_run rfl rfl (run_move rfl rfl) ?_)
              refine wl_op (k := 1) (k' := 2) rfl rfl rfl (wo_run rfl rfl (run_len rfl rfl rfl rfl rfl rfl Try.underlying24) ?_)
              refine wl_op (k := 2) (k' := 3) rfl rfl rfl (wo_run rfl rfl (run_move rfl rfl) ?_)
              refine wl_end rfl ?_
              refine nm_sub [(0, _), (1, _), (7, _), (28, _), (29, _), (30, _), (40, _), (41, _), (42, _)] ⟨rfl, rfl, rfl, rfl, rfl, rfl, rfl, rfl, rfl, trivial⟩ ?_
              refine nm_thn ?_
              refine ws_blockN check_n34 2 rfl rfl rfl ?_
              refine ws_loopE (fun mx_ ax_ wx_ => ∃ (j : Nat), mx_ = (ga l i).length - j ∧ Env 66 [(0, .slice lA lv.length lc), (1, .slice plusA plus.length plusc), (7, .bool true), (28, .slice lA lv.length lc), (29, .int .i64 (lv.length : Int)), (30, .int .i64 (i : Int)), (40, .slice ((ga lv i).A) (ga l i).length ((ga lv i).c)), (41, .int .i64 ((ga l i).length : Int)), (42, .int .i64 (j : Int))] ax_ ∧ SH wx_ M X [] ∧ j ≤ (ga l i).length ∧ okP plus.length (ga l i) j) rfl ?_ ?_
              · intro ax_ hax_
                refine ⟨_, ⟨0, rfl, hax_.sub ⟨rfl, rfl, rfl, rfl, rfl, rfl, rfl, rfl, rfl, trivial⟩, S1.pick [] [] (by decide) trivial, ?hq2f0, ?hq2f1⟩⟩
                case hq2f0 => omega
                case hq2f1 => (intro i h; omega)
              · rintro m2 a2 w2 ⟨j, rfl, he2, S2, hj, hokp⟩
                clear S1
                refine ws_in he2 (c := check_n35) rfl ?_
                clear he2 a2
                refine ws_seqN check_n36 check_n37 rfl rfl rfl ?_
                refine ws_region rfl ?_
                refine wl_op (k := 0) (k' := 1) rfl rfl rfl (wo_run rfl rfl (run_lss rfl rfl rfl) ?_)
                refine wl_end rfl ?_
                refine nm_thn ?_
                refine ws_seqN check_n38 check_n39 rfl rfl rfl ?_
                refine ws_condN check_n40 check_n41 rfl rfl rfl rfl (fun hb43 => ?_) (fun hb43 => ?_)
                · have hb43 := of_decide_eq_true hb43
                  refine ws_skip rfl ?_
                  refine nm_sub [(0, _), (1, _), (7, _), (28, _), (29, _), (30, _), (40, _), (41, _), (42, _)] ⟨rfl, rfl, rfl, rfl, rfl, rfl, rfl, rfl, rfl, trivial⟩ ?_
                  refine nm_thn ?_
                  refine ws_seqN check_n42 check_n43 rfl rfl rfl ?_
                  refine ws_blockN check_n44 3 rfl rfl rfl ?_
                  refine ws_seqN check_n45 check_n46 rfl rfl rfl ?_
                  refine ws_region rfl ?_
                  refine wl_op (k := 0) (k' := 1) rfl rfl rfl (wo_run rfl rfl (run_indexM (C := cdVi) j rfl rfl rfl sl24 (by first | rfl | omega) hr1 (by first | omega | (simp only [List.length_set, List.length_append, List.length_replicate, List.length_singleton, List.length_cons, List.length_nil]; omega))) ?_)
                  refine wl_op (k := 1) (k' := 2) rfl rfl rfl (wo_run rfl rfl (run_loadN (us := [_, _]) rfl rfl Try.underlying70 rfl sz70 (hr1.cellsAt S2.um (e := j) (by first | omega | (simp only [List.length_set, List.length_append, List.length_replicate, List.length_singleton, List.length_cons, List.length_nil]; omega)) (j := 0) ⟨rfl, rfl, trivial⟩)) ?_)
                  refine wl_op (k := 2) (k' := 3) rfl rfl rfl (wo_alloc (l := [_, _]) rfl rfl rfl zr70 rfl S2 ?_)
                  intro gb1 w3 S3; clear S2
                  refine wl_op (k := 3) (k' := 4) rfl rfl rfl (wo_storeB (i := 0) (us := [_, _]) (l' := [_, _]) (H' := [_]) rfl rfl S3 rfl rfl rfl rfl sz70 rfl rfl rfl rfl ?_)
                  intro w4 S4; clear S3
                  refine wl_end rfl ?_
                  refine nm_sub [(0, _), (1, _), (7, _), (28, _), (29, _), (30, _), (40, _), (41, _), (42, _), (11, _)] ⟨rfl, rfl, rfl, rfl, rfl, rfl, rfl, rfl, rfl, rfl, trivial⟩ ?_
                  refine nm_thn ?_
                  refine ws_seqN check_n47 check_n48 rfl rfl rfl ?_
                  refine ws_region rfl ?_
                  refine wl_op (k := 0) (k' := 1) rfl rfl rfl (wo_run rfl rfl (run_fieldAddr rfl rfl Try.underlying70 rfl (ce3) (nf3)) ?_)
                  refine wl_op (k := 1) (k' := 2) rfl rfl rfl (wo_run rfl rfl (run_load1 rfl rfl Try.underlying3 rfl (S4.boxc (i := 0) rfl rfl)) ?_)
                  refine wl_op (k := 2) (k' := 3) rfl rfl rfl (wo_run rfl rfl (run_lss rfl rfl rfl) ?_)
                  refine wl_op (k := 3) (k' := 4) rfl rfl rfl (wo_run rfl rfl (run_move rfl rfl) ?_)
                  refine wl_split (t := 49) rfl (fun hg49 => ?_) (fun hg49 => ?_)
                  · have hg49 := of_decide_eq_true hg49
                    refine wl_no (k := 4) (k' := 5) (d := 50) rfl rfl ⟨_, _, _, rfl, rfl, rfl, rfl⟩ rfl rfl ?_
                    refine wl_no (k := 5) (k' := 6) (d := 51) rfl rfl ⟨_, _, _, rfl, rfl, rfl, rfl⟩ rfl rfl ?_
                    refine wl_no (k := 6) (k' := 7) (d := 52) rfl rfl ⟨_, _, _, rfl, rfl, rfl, rfl⟩ rfl rfl ?_
                    refine wl_no (k := 7) (k' := 8) (d := 53) rfl rfl ⟨_, _, _, rfl, rfl, rfl, rfl⟩ rfl rfl ?_
                    refine wl_no (k := 8) (k' := 9) (d := 54) rfl rfl ⟨_, _, _, rfl, rfl, rfl, rfl⟩ rfl rfl ?_
                    refine wl_op (k := 9) (k' := 10) rfl rfl rfl (wo_run rfl rfl (run_pickT rfl rfl rfl) ?_)
                    refine wl_end rfl ?_
                    refine nm_sub [(0, _), (1, _), (7, _), (28, _), (29, _), (30, _), (40, _), (41, _), (42, _), (55, _)] ⟨rfl, rfl, rfl, rfl, rfl, rfl, rfl, rfl, rfl, rfl, trivial⟩ ?_
                    refine nm_thn ?_
                    refine ws_condTN check_n49 rfl rfl rfl ?_
                    refine ws_seqN check_n51 check_n52 rfl rfl rfl ?_
                    refine ws_region rfl ?_
                    refine wl_op (k := 0) (k' := 1) rfl rfl rfl (wo_run rfl rfl (run_assign rfl rfl) ?_)
                    refine wl_end rfl ?_
                    refine nm_sub [(6, _)] ⟨rfl, trivial⟩ ?_
                    refine nm_thn ?_
                    refine ws_ret hC [_] rfl rfl ⟨rfl, trivial⟩ ?_
                    exact ⟨_, rfl, (S4.pick [] [] (by decide) trivial), (by (have hlv := hdl.1); show Value.int _ _ = _; refine congrArg (Value.int .i64) ?_; unfold buildE; rw [if_neg (by omega)]; rw [if_pos (badL_true (i := i) (j := j) (by omega) (by omega) (by omega))])⟩
                  · have hg49 := of_decide_eq_false hg49
                    refine wl_opG (k := 4) (k' := 5) rfl rfl ⟨_, _, _, rfl, rfl, rfl, rfl⟩ rfl (wo_run rfl rfl (run_fieldAddr rfl rfl Try.underlying70 rfl (ce3) (nf3)) ?_)
                    refine wl_opG (k := 5) (k' := 6) rfl rfl ⟨_, _, _, rfl, rfl, rfl, rfl⟩ rfl (wo_run rfl rfl (run_load1 rfl rfl Try.underlying3 rfl (S4.boxc (i := 0) rfl rfl)) ?_)
                    refine wl_opG (k := 6) (k' := 7) rfl rfl ⟨_, _, _, rfl, rfl, rfl, rfl⟩ rfl (wo_run rfl rfl (run_move rfl rfl) ?_)
                    refine wl_opG (k := 7) (k' := 8) rfl rfl ⟨_, _, _, rfl, rfl, rfl, rfl⟩ rfl (wo_run rfl rfl (run_len rfl rfl rfl rfl rfl rfl Try.underlying23) ?_)
                    refine wl_opG (k := 8) (k' := 9) rfl rfl ⟨_, _, _, rfl, rfl, rfl, rfl⟩ rfl (wo_run rfl rfl (run_geq rfl rfl rfl) ?_)
                    refine wl_op (k := 9) (k' := 10) rfl rfl rfl (wo_run rfl rfl (run_pickF rfl rfl rfl) ?_)
                    refine wl_end rfl ?_
                    refine nm_sub [(0, _), (1, _), (7, _), (28, _), (29, _), (30, _), (40, _), (41, _), (42, _), (55, _)] ⟨rfl, rfl, rfl, rfl, rfl, rfl, rfl, rfl, rfl, rfl, trivial⟩ ?_
                    refine nm_thn ?_
                    refine ws_condN check_n49 check_n50 rfl rfl rfl rfl (fun hb55 => ?_) (fun hb55 => ?_)
                    · have hb55 := of_decide_eq_true hb55
                      refine ws_seqN check_n51 check_n52 rfl rfl rfl ?_
                      refine ws_region rfl ?_
                      refine wl_op (k := 0) (k' := 1) rfl rfl rfl (wo_run rfl rfl (run_assign rfl rfl) ?_)
                      refine wl_end rfl ?_
                      refine nm_sub [(6, _)] ⟨rfl, trivial⟩ ?_
                      refine nm_thn ?_
                      refine ws_ret hC [_] rfl rfl ⟨rfl, trivial⟩ ?_
                      exact ⟨_, rfl, (S4.pick [] [] (by decide) trivial), (by (have hlv := hdl.1); show Value.int _ _ = _; refine congrArg (Value.int .i64) ?_; unfold buildE; rw [if_neg (by omega)]; rw [if_pos (badL_true (i := i) (j := j) (by omega) (by omega) (by omega))])⟩
                    · have hb55 := of_decide_eq_false hb55
                      refine ws_skip rfl ?_
                      refine nm_blk ?_
                      refine nm_sub [(0, _), (1, _), (7, _), (28, _), (29, _), (30, _), (40, _), (41, _), (42, _)] ⟨rfl, rfl, rfl, rfl, rfl, rfl, rfl, rfl, rfl, trivial⟩ ?_
                      refine nm_thn ?_
                      refine ws_region rfl ?_
                      refine wl_op (k := 0) (k' := 1) rfl rfl rfl (wo_run rfl rfl (run_add rfl rfl rfl (by first | omega | (simp only [List.length_set, List.length_append, List.length_replicate, List.length_singleton, List.length_cons, List.length_nil]; omega))) ?_)
                      refine wl_op (k := 1) (k' := 2) rfl rfl rfl (wo_run rfl rfl (run_move rfl rfl) ?_)
                      refine wl_end rfl ?_
                      refine nm_lp ?_
                      intro ax_ hax_
                      refine ⟨_, ?hq3m, ⟨j + 1, rfl, hax_.sub ⟨rfl, rfl, rfl, rfl, rfl, rfl, rfl, rfl, rfl, trivial⟩, S4.pick [] [] (by decide) trivial, ?hq3f0, ?hq3f1⟩⟩
                      case hq3f0 => omega
                      case hq3f1 => (intro q hq; by_cases h : q = j; (subst h; omega); exact hokp q (by omega))
                      case hq3m => omega
                · have hb43 := of_decide_eq_false hb43
                  refine ws_exit rfl rfl ?_
                  refine nm_blk ?_
                  refine nm_sub [(0, _), (1, _), (7, _), (28, _), (29, _), (30, _)] ⟨rfl, rfl, rfl, rfl, rfl, rfl, trivial⟩ ?_
                  refine nm_thn ?_
                  refine ws_region rfl ?_
                  refine wl_op (k := 0) (k' := 1) rfl rfl rfl (wo_run rfl rfl (run_add rfl rfl rfl (by first | omega | (simp only [List.length_set, List.length_append, List.length_replicate, List.length_singleton, List.length_cons, List.length_nil]; omega))) ?_)
                  refine wl_op (k := 1) (k' := 2) rfl rfl rfl (wo_run rfl rfl (run_move rfl rfl) ?_)
                  refine wl_end rfl ?_
                  refine nm_lp ?_
                  intro ax_ hax_
                  refine ⟨_, ?hq4m, ⟨i + 1, _, rfl, hax_.sub ⟨rfl, rfl, rfl, rfl, rfl, rfl, trivial⟩, S2.pick [] [] (by decide) trivial, ?hq4f0, ?hq4f1, ?hq4f2⟩⟩
                  case hq4f0 => omega
                  case hq4f1 => (intro q hq; by_cases h : q = i; (subst h; obtain rfl : j = (ga l q).length := (by omega); exact hokp); exact hok q (by omega))
                  case hq4f2 => (rw [emT_succ, ← hem]; first | (rw [hg35]; done) | (rw [hg35]; rfl))
                  case hq4m => omega
            · refine wl_opG (k := 2) (k' := 3) rfl rfl ⟨_, _, _, rfl, rfl, rfl, rfl⟩ rfl (wo_run rfl rfl (run_move rfl rfl) ?_)
              refine wl_opG (k := 3) (k' := 4) rfl rfl ⟨_, _, _, rfl, rfl, rfl, rfl⟩ rfl (wo_run rfl rfl (run_len rfl rfl rfl rfl rfl rfl Try.underlying24) ?_)
              refine wl_opG (k := 4) (k' := 5) rfl rfl ⟨_, _, _, rfl, rfl, rfl, rfl⟩ rfl (wo_run rfl rfl (run_eql rfl rfl rfl) ?_)
              refine wl_op (k := 5) (k' := 6) rfl rfl rfl (wo_run rfl rfl (run_pickF rfl rfl rfl) ?_)
              refine wl_op (k := 6) (k' := 7) rfl rfl rfl (wo_run rfl rfl (run_assign rfl rfl) ?_)
              refine wl_end rfl ?_
              refine nm_sub [(0, _), (1, _), (7, _), (28, _), (29, _), (30, _), (9, _)] ⟨rfl, rfl, rfl, rfl, rfl, rfl, rfl, trivial⟩ ?_
              refine nm_thn ?_
              refine ws_seqN check_n32 check_n33 rfl rfl rfl ?_
              refine ws_region rfl ?_
              refine wl_op (k := 0) (k' := 1) rfl rfl rfl (wo_run rfl rfl (run_move rfl rfl) ?_)
              refine wl_op (k := 1) (k' := 2) rfl rfl rfl (wo_run rfl rfl (run_len rfl rfl rfl rfl rfl rfl Try.underlying24) ?_)
              refine wl_op (k := 2) (k' := 3) rfl rfl rfl (wo_run rfl rfl (run_move rfl rfl) ?_)
              refine wl_end rfl ?_
              refine nm_sub [(0, _), (1, _), (7, _), (28, _), (29, _), (30, _), (40, _), (41, _), (42, _)] ⟨rfl, rfl, rfl, rfl, rfl, rfl, rfl, rfl, rfl, trivial⟩ ?_
              refine nm_thn ?_
              refine ws_blockN check_n34 2 rfl rfl rfl ?_
              refine ws_loopE (fun mx_ ax_ wx_ => ∃ (j : Nat), mx_ = (ga l i).length - j ∧ Env 66 [(0, .slice lA lv.length lc), (1, .slice plusA plus.length plusc), (7, .bool (decide (((ga l i).length : Int) = 0))), (28, .slice lA lv.length lc), (29, .int .i64 (lv.length : Int)), (30, .int .i64 (i : Int)), (40, .slice ((ga lv i).A) (ga l i).length ((ga lv i).c)), (41, .int .i64 ((ga l i).length : Int)), (42, .int .i64 (j : Int))] ax_ ∧ SH wx_ M X [] ∧ j ≤ (ga l i).length ∧ okP plus.length (ga l i) j) rfl ?_ ?_
              · intro ax_ hax_
                refine ⟨_, ⟨0, rfl, hax_.sub ⟨rfl, rfl, rfl, rfl, rfl, rfl, rfl, rfl, rfl, trivial⟩, S1.pick [] [] (by decide) trivial, ?hq5f0, ?hq5f1⟩⟩
                case hq5f0 => omega
                case hq5f1 => (intro i h; omega)
              · rintro m3 a3 w5 ⟨j, rfl, he3, S5, hj, hokp⟩
                clear S1
                refine ws_in he3 (c := check_n35) rfl ?_
                clear he3 a3
                refine ws_seqN check_n36 check_n37 rfl rfl rfl ?_
                refine ws_region rfl ?_
                refine wl_op (k := 0) (k' := 1) rfl rfl rfl (wo_run rfl rfl (run_lss rfl rfl rfl) ?_)
                refine wl_end rfl ?_
                refine nm_thn ?_
                refine ws_seqN check_n38 check_n39 rfl rfl rfl ?_
                refine ws_condN check_n40 check_n41 rfl rfl rfl rfl (fun hb43 => ?_) (fun hb43 => ?_)
                · have hb43 := of_decide_eq_true hb43
                  refine ws_skip rfl ?_
                  refine nm_sub [(0, _), (1, _), (7, _), (28, _), (29, _), (30, _), (40, _), (41, _), (42, _)] ⟨rfl, rfl, rfl, rfl, rfl, rfl, rfl, rfl, rfl, trivial⟩ ?_
                  refine nm_thn ?_
                  refine ws_seqN check_n42 check_n43 rfl rfl rfl ?_
                  refine ws_blockN check_n44 3 rfl rfl rfl ?_
                  refine ws_seqN check_n45 check_n46 rfl rfl rfl ?_
                  refine ws_region rfl ?_
                  refine wl_op (k := 0) (k' := 1) rfl rfl rfl (wo_run rfl rfl (run_indexM (C := cdVi) j rfl rfl rfl sl24 (by first | rfl | omega) hr1 (by first | omega | (simp only [List.length_set, List.length_append, List.length_replicate, List.length_singleton, List.length_cons, List.length_nil]; omega))) ?_)
                  refine wl_op (k := 1) (k' := 2) rfl rfl rfl (wo_run rfl rfl (run_loadN (us := [_, _]) rfl rfl Try.underlying70 rfl sz70 (hr1.cellsAt S5.um (e := j) (by first | omega | (simp only [List.length_set, List.length_append, List.length_replicate, List.length_singleton, List.length_cons, List.length_nil]; omega)) (j := 0) ⟨rfl, rfl, trivial⟩)) ?_)
                  refine wl_op (k := 2) (k' := 3) rfl rfl rfl (wo_alloc (l := [_, _]) rfl rfl rfl zr70 rfl S5 ?_)
                  intro gb2 w6 S6; clear S5
                  refine wl_op (k := 3) (k' := 4) rfl rfl rfl (wo_storeB (i := 0) (us := [_, _]) (l' := [_, _]) (H' := [_]) rfl rfl S6 rfl rfl rfl rfl sz70 rfl rfl rfl rfl ?_)
                  intro w7 S7; clear S6
                  refine wl_end rfl ?_
                  refine nm_sub [(0, _), (1, _), (7, _), (28, _), (29, _), (30, _), (40, _), (41, _), (42, _), (11, _)] ⟨rfl, rfl, rfl, rfl, rfl, rfl, rfl, rfl, rfl, rfl, trivial⟩ ?_
                  refine nm_thn ?_
                  refine ws_seqN check_n47 check_n48 rfl rfl rfl ?_
                  refine ws_region rfl ?_
                  refine wl_op (k := 0) (k' := 1) rfl rfl rfl (wo_run rfl rfl (run_fieldAddr rfl rfl Try.underlying70 rfl (ce3) (nf3)) ?_)
                  refine wl_op (k := 1) (k' := 2) rfl rfl rfl (wo_run rfl rfl (run_load1 rfl rfl Try.underlying3 rfl (S7.boxc (i := 0) rfl rfl)) ?_)
                  refine wl_op (k := 2) (k' := 3) rfl rfl rfl (wo_run rfl rfl (run_lss rfl rfl rfl) ?_)
                  refine wl_op (k := 3) (k' := 4) rfl rfl rfl (wo_run rfl rfl (run_move rfl rfl) ?_)
                  refine wl_split (t := 49) rfl (fun hg49 => ?_) (fun hg49 => ?_)
                  · have hg49 := of_decide_eq_true hg49
                    refine wl_no (k := 4) (k' := 5) (d := 50) rfl rfl ⟨_, _, _, rfl, rfl, rfl, rfl⟩ rfl rfl ?_
                    refine wl_no (k := 5) (k' := 6) (d := 51) rfl rfl ⟨_, _, _, rfl, rfl, rfl, rfl⟩ rfl rfl ?_
                    refine wl_no (k := 6) (k' := 7) (d := 52) rfl rfl ⟨_, _, _, rfl, rfl, rfl, rfl⟩ rfl rfl ?_
                    refine wl_no (k := 7) (k' := 8) (d := 53) rfl rfl ⟨_, _, _, rfl, rfl, rfl, rfl⟩ rfl rfl ?_
                    refine wl_no (k := 8) (k' := 9) (d := 54) rfl rfl ⟨_, _, _, rfl, rfl, rfl, rfl⟩ rfl rfl ?_
                    refine wl_op (k := 9) (k' := 10) rfl rfl rfl (wo_run rfl rfl (run_pickT rfl rfl rfl) ?_)
                    refine wl_end rfl ?_
                    refine nm_sub [(0, _), (1, _), (7, _), (28, _), (29, _), (30, _), (40, _), (41, _), (42, _), (55, _)] ⟨rfl, rfl, rfl, rfl, rfl, rfl, rfl, rfl, rfl, rfl, trivial⟩ ?_
                    refine nm_thn ?_
                    refine ws_condTN check_n49 rfl rfl rfl ?_
                    refine ws_seqN check_n51 check_n52 rfl rfl rfl ?_
                    refine ws_region rfl ?_
                    refine wl_op (k := 0) (k' := 1) rfl rfl rfl (wo_run rfl rfl (run_assign rfl rfl) ?_)
                    refine wl_end rfl ?_
                    refine nm_sub [(6, _)] ⟨rfl, trivial⟩ ?_
                    refine nm_thn ?_
                    refine ws_ret hC [_] rfl rfl ⟨rfl, trivial⟩ ?_
                    exact ⟨_, rfl, (S7.pick [] [] (by decide) trivial), (by (have hlv := hdl.1); show Value.int _ _ = _; refine congrArg (Value.int .i64) ?_; unfold buildE; rw [if_neg (by omega)]; rw [if_pos (badL_true (i := i) (j := j) (by omega) (by omega) (by omega))])⟩
                  · have hg49 := of_decide_eq_false hg49
                    refine wl_opG (k := 4) (k' := 5) rfl rfl ⟨_, _, _, rfl, rfl, rfl, rfl⟩ rfl (wo_run rfl rfl (run_fieldAddr rfl rfl Try.underlying70 rfl (ce3) (nf3)) ?_)
                    refine wl_opG (k := 5) (k' := 6) rfl rfl ⟨_, _, _, rfl, rfl, rfl, rfl⟩ rfl (wo_run rfl rfl (run_load1 rfl rfl Try.underlying3 rfl (S7.boxc (i := 0) rfl rfl)) ?_)
                    refine wl_opG (k := 6) (k' := 7) rfl rfl ⟨_, _, _, rfl, rfl, rfl, rfl⟩ rfl (wo_run rfl rfl (run_move rfl rfl) ?_)
                    refine wl_opG (k := 7) (k' := 8) rfl rfl ⟨_, _, _, rfl, rfl, rfl, rfl⟩ rfl (wo_run rfl rfl (run_len rfl rfl rfl rfl rfl rfl Try.underlying23) ?_)
                    refine wl_opG (k := 8) (k' := 9) rfl rfl ⟨_, _, _, rfl, rfl, rfl, rfl⟩ rfl (wo_run rfl rfl (run_geq rfl rfl rfl) ?_)
                    refine wl_op (k := 9) (k' := 10) rfl rfl rfl (wo_run rfl rfl (run_pickF rfl rfl rfl) ?_)
                    refine wl_end rfl ?_
                    refine nm_sub [(0, _), (1, _), (7, _), (28, _), (29, _), (30, _), (40, _), (41, _), (42, _), (55, _)] ⟨rfl, rfl, rfl, rfl, rfl, rfl, rfl, rfl, rfl, rfl, trivial⟩ ?_
                    refine nm_thn ?_
                    refine ws_condN check_n49 check_n50 rfl rfl rfl rfl (fun hb55 => ?_) (fun hb55 => ?_)
                    · have hb55 := of_decide_eq_true hb55
                      refine ws_seqN check_n51 check_n52 rfl rfl rfl ?_
                      refine ws_region rfl ?_
                      refine wl_op (k := 0) (k' := 1) rfl rfl rfl (wo_run rfl rfl (run_assign rfl rfl) ?_)
                      refine wl_end rfl ?_
                      refine nm_sub [(6, _)] ⟨rfl, trivial⟩ ?_
                      refine nm_thn ?_
                      refine ws_ret hC [_] rfl rfl ⟨rfl, trivial⟩ ?_
                      exact ⟨_, rfl, (S7.pick [] [] (by decide) trivial), (by (have hlv := hdl.1); show Value.int _ _ = _; refine congrArg (Value.int .i64) ?_; unfold buildE; rw [if_neg (by omega)]; rw [if_pos (badL_true (i := i) (j := j) (by omega) (by omega) (by omega))])⟩
                    · have hb55 := of_decide_eq_false hb55
                      refine ws_skip rfl ?_
                      refine nm_blk ?_
                      refine nm_sub [(0, _), (1, _), (7, _), (28, _), (29, _), (30, _), (40, _), (41, _), (42, _)] ⟨rfl, rfl, rfl, rfl, rfl, rfl, rfl, rfl, rfl, trivial⟩ ?_
                      refine nm_thn ?_
                      refine ws_region rfl ?_
                      refine wl_op (k := 0) (k' := 1) rfl rfl rfl (wo_run rfl rfl (run_add rfl rfl rfl (by first | omega | (simp only [List.length_set, List.length_append, List.length_replicate, List.length_singleton, List.length_cons, List.length_nil]; omega))) ?_)
                      refine wl_op (k := 1) (k' := 2) rfl rfl rfl (wo_run rfl rfl (run_move rfl rfl) ?_)
                      refine wl_end rfl ?_
                      refine nm_lp ?_
                      intro ax_ hax_
                      refine ⟨_, ?hq6m, ⟨j + 1, rfl, hax_.sub ⟨rfl, rfl, rfl, rfl, rfl, rfl, rfl, rfl, rfl, trivial⟩, S7.pick [] [] (by decide) trivial, ?hq6f0, ?hq6f1⟩⟩
                      case hq6f0 => omega
                      case hq6f1 => (intro q hq; by_cases h : q = j; (subst h; omega); exact hokp q (by omega))
                      case hq6m => omega
                · have hb43 := of_decide_eq_false hb43
                  refine ws_exit rfl rfl ?_
                  refine nm_blk ?_
                  refine nm_sub [(0, _), (1, _), (7, _), (28, _), (29, _), (30, _)] ⟨rfl, rfl, rfl, rfl, rfl, rfl, trivial⟩ ?_
                  refine nm_thn ?_
                  refine ws_region rfl ?_
                  refine wl_op (k := 0) (k' := 1) rfl rfl rfl (wo_run rfl rfl (run_add rfl rfl rfl (by first | omega | (simp only [List.length_set, List.length_append, List.length_replicate, List.length_singleton, List.length_cons, List.length_nil]; omega))) ?_)
                  refine wl_op (k := 1) (k' := 2) rfl rfl rfl (wo_run rfl rfl (run_move rfl rfl) ?_)
                  refine wl_end rfl ?_
                  refine nm_lp ?_
                  intro ax_ hax_
                  refine ⟨_, ?hq7m, ⟨i + 1, _, rfl, hax_.sub ⟨rfl, rfl, rfl, rfl, rfl, rfl, trivial⟩, S5.pick [] [] (by decide) trivial, ?hq7f0, ?hq7f1, ?hq7f2⟩⟩
                  case hq7f0 => omega
                  case hq7f1 => (intro q hq; by_cases h : q = i; (subst h; obtain rfl : j = (ga l q).length := (by omega); exact hokp); exact hok q (by omega))
                  case hq7f2 => (rw [emT_succ, ← hem]; first | (rw [hg35]; done) | (rw [hg35]; rfl))
                  case hq7m => omega
          · have hb31 := of_decide_eq_false hb31
            refine ws_exit rfl rfl ?_
            refine nm_sub [(0, _), (1, _), (7, _)] ⟨rfl, rfl, rfl, trivial⟩ ?_
            refine nm_thn ?_
            refine ws_seqN check_n53 check_n54 rfl rfl rfl ?_
            refine ws_blockN check_n55 4 rfl rfl rfl ?_
            refine ws_seqN check_n56 check_n57 rfl rfl rfl ?_
            refine ws_region rfl ?_
            refine wl_op (k := 0) (k' := 1) rfl rfl rfl (wo_run rfl rfl (run_move rfl rfl) ?_)
            refine wl_op (k := 1) (k' := 2) rfl rfl rfl (wo_run rfl rfl (run_move rfl rfl) ?_)
            refine wl_op (k := 2) (k' := 3) rfl rfl rfl (wo_run rfl rfl (run_len rfl rfl rfl rfl rfl rfl Try.underlying23) ?_)
            refine wl_op (k := 3) (k' := 4) rfl rfl rfl (wo_cq rfl rfl rfl rfl rfl rfl rfl cf80 S1 (twice_q l plus.length (hl.mono S1.un_XH) (hdl.mono S1.un_XH) ((by intro i hi; exact hok i (by omega))) ((by omega)) S1.lend) ?_)
            rintro _ w8 S8 rfl; clear S1
            refine wl_op (k := 4) (k' := 5) rfl rfl rfl (wo_run rfl rfl (run_not rfl rfl) ?_)
            refine wl_op (k := 5) (k' := 6) rfl rfl rfl (wo_run rfl rfl (run_assign rfl rfl) ?_)
            refine wl_end rfl ?_
            refine nm_sub [(7, _), (58, _)] ⟨rfl, rfl, trivial⟩ ?_
            refine nm_thn ?_
            refine ws_condN check_n58 check_n59 rfl rfl rfl rfl (fun hb58 => ?_) (fun hb58 => ?_)
            · simp only [Bool.and_eq_true, Bool.or_eq_true, Bool.and_eq_false_iff, Bool.or_eq_false_iff, decide_eq_true_eq, decide_eq_false_iff_not, Bool.not_eq_true', Bool.not_eq_false'] at hb58
              refine ws_seqN check_n60 check_n61 rfl rfl rfl ?_
              refine ws_region rfl ?_
              refine wl_op (k := 0) (k' := 1) rfl rfl rfl (wo_run rfl rfl (run_assign rfl rfl) ?_)
              refine wl_end rfl ?_
              refine nm_sub [(6, _)] ⟨rfl, trivial⟩ ?_
              refine nm_thn ?_
              refine ws_ret hC [_] rfl rfl ⟨rfl, trivial⟩ ?_
              exact ⟨_, rfl, (S8.pick [] [] (by decide) trivial), (by (have hlv := hdl.1); show Value.int _ _ = _; refine congrArg (Value.int .i64) ?_; unfold buildE; rw [if_neg (by omega)]; rw [if_neg (by rw [badL_false (by obtain rfl : i = l.length := (by omega); exact hok)]; exact Bool.false_ne_true)]; rw [if_pos (by simpa using hb58)])⟩
            · simp only [Bool.and_eq_true, Bool.or_eq_true, Bool.and_eq_false_iff, Bool.or_eq_false_iff, decide_eq_true_eq, decide_eq_false_iff_not, Bool.not_eq_true', Bool.not_eq_false'] at hb58
              refine ws_seqN check_n62 check_n63 rfl rfl rfl ?_
              refine ws_region rfl ?_
              refine wl_op (k := 0) (k' := 1) rfl rfl rfl (wo_run rfl rfl (run_move rfl rfl) ?_)
              refine wl_op (k := 1) (k' := 2) rfl rfl rfl (wo_run rfl rfl (run_assign rfl rfl) ?_)
              refine wl_end rfl ?_
              refine nm_sub [(64, _)] ⟨rfl, trivial⟩ ?_
              refine nm_thn ?_
              refine ws_condN check_n64 check_n65 rfl rfl rfl rfl (fun hb64 => ?_) (fun hb64 => ?_)
              · refine ws_seqN check_n66 check_n67 rfl rfl rfl ?_
                refine ws_region rfl ?_
                refine wl_op (k := 0) (k' := 1) rfl rfl rfl (wo_run rfl rfl (run_assign rfl rfl) ?_)
                refine wl_end rfl ?_
                refine nm_sub [(6, _)] ⟨rfl, trivial⟩ ?_
                refine nm_thn ?_
                refine ws_ret hC [_] rfl rfl ⟨rfl, trivial⟩ ?_
                exact ⟨_, rfl, (S8.pick [] [] (by decide) trivial), (by (have hlv := hdl.1); show Value.int _ _ = _; refine congrArg (Value.int .i64) ?_; unfold buildE; rw [if_neg (by omega)]; rw [if_neg (by rw [badL_false (by obtain rfl : i = l.length := (by omega); exact hok)]; exact Bool.false_ne_true)]; rw [if_neg (by simpa using hb58)]; obtain rfl : i = l.length := (by omega); rw [if_pos (by rw [← hem]; exact hb64)])⟩
              · refine ws_skip rfl ?_
                refine nm_blk ?_
                refine nm_sub [] trivial ?_
                refine nm_thn ?_
                refine ws_seqN check_n68 check_n69 rfl rfl rfl ?_
                refine ws_region rfl ?_
                refine wl_op (k := 0) (k' := 1) rfl rfl rfl (wo_run rfl rfl (run_assign rfl rfl) ?_)
                refine wl_end rfl ?_
                refine nm_thn ?_
                refine ws_ret hC [_] rfl rfl ⟨rfl, trivial⟩ ?_
                exact ⟨_, rfl, (S8.pick [] [] (by decide) trivial), (by (have hlv := hdl.1); show Value.int _ _ = _; refine congrArg (Value.int .i64) ?_; unfold buildE; rw [if_neg (by omega)]; rw [if_neg (by rw [badL_false (by obtain rfl : i = l.length := (by omega); exact hok)]; exact Bool.false_ne_true)]; rw [if_neg (by simpa using hb58)]; obtain rfl : i = l.length := (by omega); rw [if_neg (by rw [← hem, hb64]; exact Bool.false_ne_true)])⟩

end Go.Proofs.Ytlbpgnimpcflaaa
