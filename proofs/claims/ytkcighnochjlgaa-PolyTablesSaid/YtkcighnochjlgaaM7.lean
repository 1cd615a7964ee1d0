/- Walks printed by eng.py. -/
import Derived.Test.YtkcighnochjlgaaM6
import Derived.Test.YtkcighnochjlgaaE19
set_option linter.unusedSimpArgs false
set_option linter.unusedVariables false
namespace Go.Proofs.Ytkcighnochjlgaa
open Go.ChangeShapes Go.WideShapes Go.ChangeAt Go.RowKit
theorem sl94 : SlOf Try.prog 94 (cdMap 87) := ⟨.map none, Try.underlying94, by kernel_rfl, rfl, by decide, by decide⟩

noncomputable def OC64_n0 : Code := Try.f147.body.getD .skip
noncomputable def OC64_n1 : Code := cL OC64_n0
noncomputable def OC64_n2 : Code := cR OC64_n0
noncomputable def OC64_n3 : Code := cL OC64_n2
noncomputable def OC64_n4 : Code := cR OC64_n2
noncomputable def OC64_n5 : Code := cL OC64_n4
noncomputable def OC64_n6 : Code := cR OC64_n4
noncomputable def OC64_n7 : Code := cL OC64_n6
noncomputable def OC64_n8 : Code := cR OC64_n6
noncomputable def OC64_n9 : Code := cL OC64_n8
noncomputable def OC64_n10 : Code := cR OC64_n8
noncomputable def OC64_n11 : Code := cL OC64_n10
noncomputable def OC64_n12 : Code := cR OC64_n10
noncomputable def OC64_n13 : Code := cL OC64_n12
noncomputable def OC64_n14 : Code := cR OC64_n12
noncomputable def OC64_n15 : Code := cL OC64_n14
noncomputable def OC64_n16 : Code := cR OC64_n14
set_option maxRecDepth 10000 in
theorem OC64_q {w : World} {M : Hp} {X : Fr} (x : Nat) (hx : x < 4096) (S : SH w M X []) : Cq Try.prog 147 [.int .u64 (x : Int)] w M X (fun u => u = .int .i64 (pcN x 12 : Int)) := by
  unfold Cq
  refine calls_in (b := OC64_n0) Try.func147 rfl Try.ntmps147 rfl (fun C hC => ?_)
  refine ws_sub [(0, _)] ⟨rfl, trivial⟩ ?_
  refine ws_seqN OC64_n1 OC64_n2 rfl rfl rfl ?_
  refine ws_region rfl ?_
  refine wl_op (k := 0) (k' := 1) rfl rfl rfl (wo_run rfl rfl (run_assign rfl rfl) ?_)
  refine wl_end rfl ?_
  refine nm_sub [(0, _)] ⟨rfl, trivial⟩ ?_
  refine nm_thn ?_
  refine ws_seqN OC64_n3 OC64_n4 rfl rfl rfl ?_
  refine ws_region rfl ?_
  refine wl_op (k := 0) (k' := 1) rfl rfl rfl (wo_run rfl rfl (run_move rfl rfl) ?_)
  refine wl_op (k := 1) (k' := 2) rfl rfl rfl (wo_run rfl rfl (run_shrK rfl rfl rfl (by decide)) ?_)
  refine wl_op (k := 2) (k' := 3) rfl rfl rfl (wo_run rfl rfl (run_andK rfl rfl rfl) ?_)
  refine wl_op (k := 3) (k' := 4) rfl rfl rfl (wo_run rfl rfl (run_move rfl rfl) ?_)
  refine wl_op (k := 4) (k' := 5) rfl rfl rfl (wo_run rfl rfl (run_andK rfl rfl rfl) ?_)
  refine wl_op (k := 5) (k' := 6) rfl rfl rfl (wo_run rfl rfl (run_addK rfl rfl rfl) ?_)
  refine wl_op (k := 6) (k' := 7) rfl rfl rfl (wo_run rfl rfl (run_assign rfl rfl) ?_)
  refine wl_end rfl ?_
  refine nm_sub [(0, _)] ⟨rfl, trivial⟩ ?_
  refine nm_thn ?_
  refine ws_seqN OC64_n5 OC64_n6 rfl rfl rfl ?_
  refine ws_eq 0 (.int .u64 (oc1 x)) rfl rfl ?_
  refine ws_region rfl ?_
  refine wl_op (k := 0) (k' := 1) rfl rfl rfl (wo_run rfl rfl (run_move rfl rfl) ?_)
  refine wl_op (k := 1) (k' := 2) rfl rfl rfl (wo_run rfl rfl (run_shrK rfl rfl rfl (by decide)) ?_)
  refine wl_op (k := 2) (k' := 3) rfl rfl rfl (wo_run rfl rfl (run_andK rfl rfl rfl) ?_)
  refine wl_op (k := 3) (k' := 4) rfl rfl rfl (wo_run rfl rfl (run_move rfl rfl) ?_)
  refine wl_op (k := 4) (k' := 5) rfl rfl rfl (wo_run rfl rfl (run_andK rfl rfl rfl) ?_)
  refine wl_op (k := 5) (k' := 6) rfl rfl rfl (wo_run rfl rfl (run_addK rfl rfl rfl) ?_)
  refine wl_op (k := 6) (k' := 7) rfl rfl rfl (wo_run rfl rfl (run_assign rfl rfl) ?_)
  refine wl_end rfl ?_
  refine nm_sub [(0, _)] ⟨rfl, trivial⟩ ?_
  refine nm_thn ?_
  refine ws_seqN OC64_n7 OC64_n8 rfl rfl rfl ?_
  refine ws_eq 0 (.int .u64 (oc2 x)) rfl rfl ?_
  refine ws_region rfl ?_
  refine wl_op (k := 0) (k' := 1) rfl rfl rfl (wo_run rfl rfl (run_move rfl rfl) ?_)
  refine wl_op (k := 1) (k' := 2) rfl rfl rfl (wo_run rfl rfl (run_shrK rfl rfl rfl (by decide)) ?_)
  refine wl_op (k := 2) (k' := 3) rfl rfl rfl (wo_run rfl rfl (run_move rfl rfl) ?_)
  refine wl_op (k := 3) (k' := 4) rfl rfl rfl (wo_run rfl rfl (run_addK rfl rfl rfl) ?_)
  refine wl_op (k := 4) (k' := 5) rfl rfl rfl (wo_run rfl rfl (run_andK rfl rfl rfl) ?_)
  refine wl_op (k := 5) (k' := 6) rfl rfl rfl (wo_run rfl rfl (run_assign rfl rfl) ?_)
  refine wl_end rfl ?_
  refine nm_sub [(0, _)] ⟨rfl, trivial⟩ ?_
  refine nm_thn ?_
  refine ws_seqN OC64_n9 OC64_n10 rfl rfl rfl ?_
  refine ws_eq 0 (.int .u64 (oc3 x)) rfl rfl ?_
  refine ws_region rfl ?_
  refine wl_op (k := 0) (k' := 1) rfl rfl rfl (wo_run rfl rfl (run_move rfl rfl) ?_)
  refine wl_op (k := 1) (k' := 2) rfl rfl rfl (wo_run rfl rfl (run_move rfl rfl) ?_)
  refine wl_op (k := 2) (k' := 3) rfl rfl rfl (wo_run rfl rfl (run_shrK rfl rfl rfl (by decide)) ?_)
  refine wl_op (k := 3) (k' := 4) rfl rfl rfl (wo_run rfl rfl (run_addK rfl rfl rfl) ?_)
  refine wl_op (k := 4) (k' := 5) rfl rfl rfl (wo_run rfl rfl (run_assign rfl rfl) ?_)
  refine wl_end rfl ?_
  refine nm_sub [(0, _)] ⟨rfl, trivial⟩ ?_
  refine nm_thn ?_
  refine ws_seqN OC64_n11 OC64_n12 rfl rfl rfl ?_
  refine ws_eq 0 (.int .u64 (oc4 x)) rfl rfl ?_
  refine ws_region rfl ?_
  refine wl_op (k := 0) (k' := 1) rfl rfl rfl (wo_run rfl rfl (run_move rfl rfl) ?_)
  refine wl_op (k := 1) (k' := 2) rfl rfl rfl (wo_run rfl rfl (run_move rfl rfl) ?_)
  refine wl_op (k := 2) (k' := 3) rfl rfl rfl (wo_run rfl rfl (run_shrK rfl rfl rfl (by decide)) ?_)
  refine wl_op (k := 3) (k' := 4) rfl rfl rfl (wo_run rfl rfl (run_addK rfl rfl rfl) ?_)
  refine wl_op (k := 4) (k' := 5) rfl rfl rfl (wo_run rfl rfl (run_assign rfl rfl) ?_)
  refine wl_end rfl ?_
  refine nm_sub [(0, _)] ⟨rfl, trivial⟩ ?_
  refine nm_thn ?_
  refine ws_seqN OC64_n13 OC64_n14 rfl rfl rfl ?_
  refine ws_eq 0 (.int .u64 (oc5 x)) rfl rfl ?_
  refine ws_region rfl ?_
  refine wl_op (k := 0) (k' := 1) rfl rfl rfl (wo_run rfl rfl (run_move rfl rfl) ?_)
  refine wl_op (k := 1) (k' := 2) rfl rfl rfl (wo_run rfl rfl (run_move rfl rfl) ?_)
  refine wl_op (k := 2) (k' := 3) rfl rfl rfl (wo_run rfl rfl (run_shrK rfl rfl rfl (by decide)) ?_)
  refine wl_op (k := 3) (k' := 4) rfl rfl rfl (wo_run rfl rfl (run_addK rfl rfl rfl) ?_)
  refine wl_op (k := 4) (k' := 5) rfl rfl rfl (wo_run rfl rfl (run_assign rfl rfl) ?_)
  refine wl_end rfl ?_
  refine nm_sub [(0, _)] ⟨rfl, trivial⟩ ?_
  refine nm_thn ?_
  refine ws_seqN OC64_n15 OC64_n16 rfl rfl rfl ?_
  refine ws_eq 0 (.int .u64 (oc6 x)) rfl rfl ?_
  refine ws_region rfl ?_
  refine wl_op (k := 0) (k' := 1) rfl rfl rfl (wo_run rfl rfl (run_move rfl rfl) ?_)
  refine wl_op (k := 1) (k' := 2) rfl rfl rfl (wo_run rfl rfl (run_convI rfl rfl ⟨_, Try.underlying194⟩ Try.underlying3) ?_)
  refine wl_op (k := 2) (k' := 3) rfl rfl rfl (wo_run rfl rfl (run_andK rfl rfl rfl) ?_)
  refine wl_op (k := 3) (k' := 4) rfl rfl rfl (wo_run rfl rfl (run_assign rfl rfl) ?_)
  refine wl_end rfl ?_
  refine nm_sub [(2, _)] ⟨rfl, trivial⟩ ?_
  refine nm_thn ?_
  refine ws_ret hC [_] rfl rfl ⟨rfl, trivial⟩ ?_
  exact ⟨_, rfl, (S.pick [] [] (by decide) trivial), (congrArg (Value.int .i64) (oc_law hx))⟩

noncomputable def OC_n0 : Code := Try.f112.body.getD .skip
noncomputable def OC_n1 : Code := cL OC_n0
noncomputable def OC_n2 : Code := cR OC_n0
noncomputable def OC_n3 : Code := cL OC_n2
noncomputable def OC_n4 : Code := cR OC_n2
noncomputable def OC_n5 : Code := cL OC_n3
noncomputable def OC_n6 : Code := cR OC_n3
noncomputable def OC_n7 : Code := cL OC_n4
noncomputable def OC_n8 : Code := cR OC_n4
set_option maxRecDepth 10000 in
theorem OC_q {w : World} {M : Hp} {X : Fr} (x : Nat) (hx : x < 4096) (S : SH w M X []) : Cq Try.prog 112 [.int .u64 (x : Int)] w M X (fun u => u = .int .i64 (pcN x 12 : Int)) := by
  unfold Cq
  refine calls_in (b := OC_n0) Try.func112 rfl Try.ntmps112 rfl (fun C hC => ?_)
  refine ws_sub [(0, _)] ⟨rfl, trivial⟩ ?_
  refine ws_seqN OC_n1 OC_n2 rfl rfl rfl ?_
  refine ws_region rfl ?_
  refine wl_op (k := 0) (k' := 1) rfl rfl rfl (wo_run rfl rfl (run_assign rfl rfl) ?_)
  refine wl_end rfl ?_
  refine nm_sub [(0, _)] ⟨rfl, trivial⟩ ?_
  refine nm_thn ?_
  refine ws_seqN OC_n3 OC_n4 rfl rfl rfl ?_
  refine ws_condFN OC_n6 rfl rfl rfl ?_
  refine ws_skip rfl ?_
  refine nm_thn ?_
  refine ws_seqN OC_n7 OC_n8 rfl rfl rfl ?_
  refine ws_region rfl ?_
  refine wl_op (k := 0) (k' := 1) rfl rfl rfl (wo_run rfl rfl (run_move rfl rfl) ?_)
  refine wl_op (k := 1) (k' := 2) rfl rfl rfl (wo_cq rfl rfl rfl rfl rfl rfl rfl cf147 S (OC64_q x (hx) S.lend) ?_)
  rintro _ w1 S1 rfl; clear S
  refine wl_op (k := 2) (k' := 3) rfl rfl rfl (wo_run rfl rfl (run_assign rfl rfl) ?_)
  refine wl_end rfl ?_
  refine nm_sub [(2, _)] ⟨rfl, trivial⟩ ?_
  refine nm_thn ?_
  refine ws_ret hC [_] rfl rfl ⟨rfl, trivial⟩ ?_
  exact ⟨_, rfl, (S1.pick [] [] (by decide) trivial), rfl⟩

end Go.Proofs.Ytkcighnochjlgaa
