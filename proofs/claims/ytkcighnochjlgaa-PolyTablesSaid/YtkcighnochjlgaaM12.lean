/- Walks printed by eng.py. -/
import Derived.Test.YtkcighnochjlgaaM11
set_option linter.unusedSimpArgs false
set_option linter.unusedVariables false
namespace Go.Proofs.Ytkcighnochjlgaa
open Go.ChangeShapes Go.WideShapes Go.ChangeAt Go.RowKit
theorem detE_ok {nn : List (List (List Tm))} (h : detE nn = 0) : SqT nn nn.length 1000 ∧ nn.length ≤ 6 := by
  unfold detE at h
  split at h
  · rename_i hs
    obtain ⟨h1, h2⟩ := sqB_iff.1 hs
    split at h
    · cases h
    · rename_i hm
      have hm2 := may_unflat (Bool.eq_false_iff.2 hm)
      exact ⟨⟨rfl, h2, fun i hi k hk => (may_can (hm2 i hi k (by rw [h2 i hi]; exact hk))).2⟩, h1⟩
  · cases h

noncomputable def PolyTables_n0 : Code := Try.f6.body.getD .skip
noncomputable def PolyTables_n1 : Code := cL PolyTables_n0
noncomputable def PolyTables_n2 : Code := cR PolyTables_n0
noncomputable def PolyTables_n3 : Code := cL PolyTables_n2
noncomputable def PolyTables_n4 : Code := cR PolyTables_n2
noncomputable def PolyTables_n5 : Code := cL PolyTables_n4
noncomputable def PolyTables_n6 : Code := cR PolyTables_n4
noncomputable def PolyTables_n7 : Code := cL PolyTables_n5
noncomputable def PolyTables_n8 : Code := cR PolyTables_n5
noncomputable def PolyTables_n9 : Code := cL PolyTables_n8
noncomputable def PolyTables_n10 : Code := cL PolyTables_n9
noncomputable def PolyTables_n11 : Code := cL PolyTables_n10
noncomputable def PolyTables_n12 : Code := cR PolyTables_n10
noncomputable def PolyTables_n13 : Code := cL PolyTables_n11
noncomputable def PolyTables_n14 : Code := cR PolyTables_n11
noncomputable def PolyTables_n15 : Code := cL PolyTables_n14
noncomputable def PolyTables_n16 : Code := cR PolyTables_n14
noncomputable def PolyTables_n17 : Code := cL PolyTables_n12
noncomputable def PolyTables_n18 : Code := cR PolyTables_n12
noncomputable def PolyTables_n19 : Code := cL PolyTables_n17
noncomputable def PolyTables_n20 : Code := cL PolyTables_n19
noncomputable def PolyTables_n21 : Code := cR PolyTables_n19
noncomputable def PolyTables_n22 : Code := cL PolyTables_n21
noncomputable def PolyTables_n23 : Code := cR PolyTables_n21
noncomputable def PolyTables_n24 : Code := cL PolyTables_n22
noncomputable def PolyTables_n25 : Code := cR PolyTables_n22
noncomputable def PolyTables_n26 : Code := cL PolyTables_n25
noncomputable def PolyTables_n27 : Code := cL PolyTables_n26
noncomputable def PolyTables_n28 : Code := cL PolyTables_n27
noncomputable def PolyTables_n29 : Code := cR PolyTables_n27
noncomputable def PolyTables_n30 : Code := cL PolyTables_n28
noncomputable def PolyTables_n31 : Code := cR PolyTables_n28
noncomputable def PolyTables_n32 : Code := cL PolyTables_n31
noncomputable def PolyTables_n33 : Code := cR PolyTables_n31
noncomputable def PolyTables_n34 : Code := cL PolyTables_n29
noncomputable def PolyTables_n35 : Code := cR PolyTables_n29
noncomputable def PolyTables_n36 : Code := cL PolyTables_n34
noncomputable def PolyTables_n37 : Code := cL PolyTables_n6
noncomputable def PolyTables_n38 : Code := cR PolyTables_n6
noncomputable def PolyTables_n39 : Code := cL PolyTables_n38
noncomputable def PolyTables_n40 : Code := cR PolyTables_n38
noncomputable def PolyTables_n41 : Code := cL PolyTables_n40
noncomputable def PolyTables_n42 : Code := cR PolyTables_n40
noncomputable def PolyTables_n43 : Code := cL PolyTables_n41
noncomputable def PolyTables_n44 : Code := cR PolyTables_n41
noncomputable def PolyTables_n45 : Code := cL PolyTables_n44
noncomputable def PolyTables_n46 : Code := cR PolyTables_n44
noncomputable def PolyTables_n47 : Code := cL PolyTables_n45
noncomputable def PolyTables_n48 : Code := cR PolyTables_n45
noncomputable def PolyTables_n49 : Code := cL PolyTables_n42
noncomputable def PolyTables_n50 : Code := cR PolyTables_n42
set_option maxHeartbeats 1000000 in
set_option maxRecDepth 10000 in
theorem PolyTables_t {w : World} {M : Hp} {X : Fr} (nn : List (List (List Tm))) {nnA : Option Addr} {nnc : Nat} {nnv : List SlV} {nns : List (List SlV)} (hnn : RdA (cdV 43) M nnA nnc nnv) (hdnn : Rd2 (cdV 22) M nnv nns) (h3nn : RdD cdTm M nns nn) (S : SH w M X []) : Ct Try.prog 6 [.slice nnA nnv.length nnc] w M X (fun u _ => u = .bool true) := by
  unfold Ct
  have rmhnn : nnv.length * 24 ≤ 140737488355328 := hnn.room
  have hnl := hdnn.1
  have hn3 := h3nn.1
  refine calls_in (b := PolyTables_n0) Try.func6 rfl Try.ntmps6 rfl (fun C hC => ?_)
  refine ws_sub [(0, _)] ⟨rfl, trivial⟩ ?_
  refine ws_seqN PolyTables_n1 PolyTables_n2 rfl rfl rfl ?_
  refine ws_region rfl ?_
  refine wl_op (k := 0) (k' := 1) rfl rfl rfl (wo_run rfl rfl (run_assign rfl rfl) ?_)
  refine wl_end rfl ?_
  refine nm_sub [(0, _)] ⟨rfl, trivial⟩ ?_
  refine nm_thn ?_
  refine ws_seqN PolyTables_n3 PolyTables_n4 rfl rfl rfl ?_
  refine ws_region rfl ?_
  refine wl_op (k := 0) (k' := 1) rfl rfl rfl (wo_run rfl rfl (run_assign rfl rfl) ?_)
  refine wl_end rfl ?_
  refine nm_thn ?_
  refine ws_seqN PolyTables_n5 PolyTables_n6 rfl rfl rfl ?_
  refine ws_seqN PolyTables_n7 PolyTables_n8 rfl rfl rfl ?_
  refine ws_region rfl ?_
  refine wl_op (k := 0) (k' := 1) rfl rfl rfl (wo_run rfl rfl (run_assign rfl rfl) ?_)
  refine wl_end rfl ?_
  refine nm_thn ?_
  refine ws_blockN PolyTables_n9 0 rfl rfl rfl ?_
  have S1 := S.nilrow (cdV 43); clear S
  refine ws_loopE (fun mx_ ax_ wx_ => ∃ (r : Nat) (cv : List SlV) (cs : List (List SlV)) (cm : List (List (List Tm))) (vrc : Value) (M1 : Hp), M.le M1 ∧ mx_ = nn.length - r ∧ Env 65 [(0, .slice nnA nnv.length nnc), (3, vrc), (4, .int .i64 (r : Int))] ax_ ∧ SH wx_ M1 X [Rs.row (cdV 43) vrc cv] ∧ r ≤ nn.length ∧ cm = nn.take r ∧ Rd2 (cdV 22) M1 cv cs ∧ RdD cdTm M1 cs cm) rfl ?_ ?_
  · intro ax_ hax_
    refine ⟨_, ⟨0, _, ([]), ([]), _, _, Hp.le_refl _, rfl, hax_.sub ⟨rfl, rfl, rfl, trivial⟩, S1.pick [0] [_] (by decide) ⟨rfl, trivial⟩, ?hq1f0, ?hq1f1, ?hq1f2, ?hq1f3⟩⟩
    case hq1f0 => omega
    case hq1f1 => rfl
    case hq1f2 => exact Rd2.nil_
    case hq1f3 => exact RdD.nil_
  · rintro m1 a1 w1 ⟨r, cv, cs, cm, vrc, M1, hle1, rfl, he1, S2, hr, hcm, hc2, hc3⟩
    clear S1
    refine ws_in he1 (c := PolyTables_n10) rfl ?_
    clear he1 a1
    replace hnn := hnn.mono hle1
    replace hdnn := hdnn.mono hle1
    replace h3nn := h3nn.mono hle1
    have hc21 := hc2.1
    have hc31 := hc3.1
    have hcl : cm.length = r := by rw [hcm, List.length_take]; omega
    refine ws_seqN PolyTables_n11 PolyTables_n12 rfl rfl rfl ?_
    refine ws_seqN PolyTables_n13 PolyTables_n14 rfl rfl rfl ?_
    refine ws_region rfl ?_
    refine wl_op (k := 0) (k' := 1) rfl rfl rfl (wo_run rfl rfl (run_move rfl rfl) ?_)
    refine wl_op (k := 1) (k' := 2) rfl rfl rfl (wo_run rfl rfl (run_move rfl rfl) ?_)
    refine wl_op (k := 2) (k' := 3) rfl rfl rfl (wo_run rfl rfl (run_len rfl rfl rfl rfl rfl rfl Try.underlying37) ?_)
    refine wl_op (k := 3) (k' := 4) rfl rfl rfl (wo_run rfl rfl (run_lss rfl rfl rfl) ?_)
    refine wl_end rfl ?_
    refine nm_sub [(0, _), (3, _), (4, _), (13, _)] ⟨rfl, rfl, rfl, rfl, trivial⟩ ?_
    refine nm_thn ?_
    refine ws_condN PolyTables_n15 PolyTables_n16 rfl rfl rfl rfl (fun hb13 => ?_) (fun hb13 => ?_)
    · have hb13 := of_decide_eq_true hb13
      refine ws_skip rfl ?_
      refine nm_sub [(0, _), (3, _), (4, _)] ⟨rfl, rfl, rfl, trivial⟩ ?_
      refine nm_thn ?_
      refine ws_seqN PolyTables_n17 PolyTables_n18 rfl rfl rfl ?_
      refine ws_blockN PolyTables_n19 1 rfl rfl rfl ?_
      refine ws_seqN PolyTables_n20 PolyTables_n21 rfl rfl rfl ?_
      refine ws_region rfl ?_
      refine wl_op (k := 0) (k' := 1) rfl rfl rfl (wo_run rfl rfl (run_assign rfl rfl) ?_)
      refine wl_end rfl ?_
      refine nm_thn ?_
      refine ws_seqN PolyTables_n22 PolyTables_n23 rfl rfl rfl ?_
      refine ws_seqN PolyTables_n24 PolyTables_n25 rfl rfl rfl ?_
      refine ws_region rfl ?_
      refine wl_op (k := 0) (k' := 1) rfl rfl rfl (wo_run rfl rfl (run_assign rfl rfl) ?_)
      refine wl_end rfl ?_
      refine nm_thn ?_
      refine ws_blockN PolyTables_n26 2 rfl rfl rfl ?_
      have S3 := S2.nilrow (cdV 22); clear S2
      refine ws_loopE (fun mx_ ax_ wx_ => ∃ (k : Nat) (rv : List SlV) (rx : List (List Tm)) (vrr : Value) (M2 : Hp), M1.le M2 ∧ mx_ = (ga nn r).length - k ∧ Env 65 [(0, .slice nnA nnv.length nnc), (3, vrc), (4, .int .i64 (r : Int)), (5, vrr), (6, .int .i64 (k : Int))] ax_ ∧ SH wx_ M2 X [Rs.row (cdV 22) vrr rv, Rs.row (cdV 43) vrc cv] ∧ k ≤ (ga nn r).length ∧ rx = (ga nn r).take k ∧ Rd2 cdTm M2 rv rx) rfl ?_ ?_
      · intro ax_ hax_
        refine ⟨_, ⟨0, _, ([]), _, _, Hp.le_refl _, rfl, hax_.sub ⟨rfl, rfl, rfl, rfl, rfl, trivial⟩, S3.pick [0, 1] [_, _] (by decide) ⟨rfl, rfl, trivial⟩, ?hq2f0, ?hq2f1, ?hq2f2⟩⟩
        case hq2f0 => omega
        case hq2f1 => rfl
        case hq2f2 => exact Rd2.nil_
      · rintro m2 a2 w2 ⟨k, rv, rx, vrr, M2, hle2, rfl, he2, S4, hk, hrx, hq2a⟩
        clear S3
        refine ws_in he2 (c := PolyTables_n27) rfl ?_
        clear he2 a2
        replace hnn := hnn.mono hle2
        replace hdnn := hdnn.mono hle2
        replace h3nn := h3nn.mono hle2
        replace hc2 := hc2.mono hle2
        replace hc3 := hc3.mono hle2
        have hr21 := hq2a.1
        have hrl : rx.length = k := by rw [hrx, List.length_take]; omega
        refine ws_seqN PolyTables_n28 PolyTables_n29 rfl rfl rfl ?_
        refine ws_seqN PolyTables_n30 PolyTables_n31 rfl rfl rfl ?_
        refine ws_region rfl ?_
        refine wl_op (k := 0) (k' := 1) rfl rfl rfl (wo_run rfl rfl (run_move rfl rfl) ?_)
        refine wl_op (k := 1) (k' := 2) rfl rfl rfl (wo_run rfl rfl (run_move rfl rfl) ?_)
        refine wl_op (k := 2) (k' := 3) rfl rfl rfl (wo_run rfl rfl (run_move rfl rfl) ?_)
        refine wl_op (k := 3) (k' := 4) rfl rfl rfl (wo_run rfl rfl (run_indexM (C := (cdV 43)) r rfl rfl rfl sl37 (by first | rfl | omega) hnn (by first | omega | (simp only [List.length_set, List.length_append, List.length_replicate, List.length_singleton, List.length_cons, List.length_nil]; omega))) ?_)
        obtain ⟨hn1, hr1⟩ := hdnn.2 r (by first | omega | (simp only [List.length_set, List.length_append, List.length_replicate, List.length_singleton, List.length_cons, List.length_nil]; omega))
        have rmhr1 : (ga nns r).length * 24 ≤ 140737488355328 := hr1.room
        have hW1 := h3nn.2 r (by have := h3nn.1; have := hdnn.1; first | omega | (simp_all; omega))
        have hW1l := hW1.1
        refine wl_op (k := 4) (k' := 5) rfl rfl rfl (wo_run rfl rfl (run_load1 rfl rfl Try.underlying43 rfl (hnn.cell S4.m (i := r) (by first | omega | (simp only [List.length_set, List.length_append, List.length_replicate, List.length_singleton, List.length_cons, List.length_nil]; omega)) 0 rfl (congrArg (fun n => some (Value.slice _ n _)) hn1))) ?_)
        refine wl_op (k := 5) (k' := 6) rfl rfl rfl (wo_run rfl rfl (run_len rfl rfl rfl rfl rfl rfl Try.underlying43) ?_)
        refine wl_op (k := 6) (k' := 7) rfl rfl rfl (wo_run rfl rfl (run_lss rfl rfl rfl) ?_)
        refine wl_end rfl ?_
        refine nm_sub [(0, _), (3, _), (4, _), (5, _), (6, _), (22, _)] ⟨rfl, rfl, rfl, rfl, rfl, rfl, trivial⟩ ?_
        refine nm_thn ?_
        refine ws_condN PolyTables_n32 PolyTables_n33 rfl rfl rfl rfl (fun hb22 => ?_) (fun hb22 => ?_)
        · have hb22 := of_decide_eq_true hb22
          refine ws_skip rfl ?_
          refine nm_sub [(0, _), (3, _), (4, _), (5, _), (6, _)] ⟨rfl, rfl, rfl, rfl, rfl, trivial⟩ ?_
          refine nm_thn ?_
          refine ws_seqN PolyTables_n34 PolyTables_n35 rfl rfl rfl ?_
          refine ws_blockN PolyTables_n36 3 rfl rfl rfl ?_
          refine ws_region rfl ?_
          refine wl_op (k := 0) (k' := 1) rfl rfl rfl (wo_run rfl rfl (run_move rfl rfl) ?_)
          refine wl_op (k := 1) (k' := 2) rfl rfl rfl (wo_run rfl rfl (run_move rfl rfl) ?_)
          refine wl_op (k := 2) (k' := 3) rfl rfl rfl (wo_run rfl rfl (run_move rfl rfl) ?_)
          refine wl_op (k := 3) (k' := 4) rfl rfl rfl (wo_run rfl rfl (run_indexM (C := (cdV 43)) r rfl rfl rfl sl37 (by first | rfl | omega) hnn (by first | omega | (simp only [List.length_set, List.length_append, List.length_replicate, List.length_singleton, List.length_cons, List.length_nil]; omega))) ?_)
          obtain ⟨hn2, hr2⟩ := hdnn.2 r (by first | omega | (simp only [List.length_set, List.length_append, List.length_replicate, List.length_singleton, List.length_cons, List.length_nil]; omega))
          have rmhr2 : (ga nns r).length * 24 ≤ 140737488355328 := hr2.room
          have hW2 := h3nn.2 r (by have := h3nn.1; have := hdnn.1; first | omega | (simp_all; omega))
          have hW2l := hW2.1
          refine wl_op (k := 4) (k' := 5) rfl rfl rfl (wo_run rfl rfl (run_load1 rfl rfl Try.underlying43 rfl (hnn.cell S4.m (i := r) (by first | omega | (simp only [List.length_set, List.length_append, List.length_replicate, List.length_singleton, List.length_cons, List.length_nil]; omega)) 0 rfl (congrArg (fun n => some (Value.slice _ n _)) hn2))) ?_)
          refine wl_op (k := 5) (k' := 6) rfl rfl rfl (wo_run rfl rfl (run_move rfl rfl) ?_)
          refine wl_op (k := 6) (k' := 7) rfl rfl rfl (wo_run rfl rfl (run_indexM (C := (cdV 22)) k rfl rfl rfl sl43 (by first | rfl | omega) hr2 (by first | omega | (simp only [List.length_set, List.length_append, List.length_replicate, List.length_singleton, List.length_cons, List.length_nil]; omega))) ?_)
          obtain ⟨hn3, hr3⟩ := hW2.2 k (by first | omega | (simp only [List.length_set, List.length_append, List.length_replicate, List.length_singleton, List.length_cons, List.length_nil]; omega))
          have rmhr3 : (ga (ga nn r) k).length * 16 ≤ 140737488355328 := hr3.room
          refine wl_op (k := 7) (k' := 8) rfl rfl rfl (wo_run rfl rfl (run_load1 rfl rfl Try.underlying22 rfl (hr2.cell S4.m (i := k) (by first | omega | (simp only [List.length_set, List.length_append, List.length_replicate, List.length_singleton, List.length_cons, List.length_nil]; omega)) 0 rfl (congrArg (fun n => some (Value.slice _ n _)) hn3))) ?_)
          refine wl_op (k := 8) (k' := 9) rfl rfl rfl (wo_ct rfl rfl rfl rfl rfl rfl rfl cf14 S4 (terms_t (ga (ga nn r) k) (hr3.mono (Hp.le_un _ _)) S4.lend) ?_)
          intro vw3 w3 M3 hle3 S5 hRw3; clear S4
          replace hnn := hnn.mono hle3
          replace hdnn := hdnn.mono hle3
          replace h3nn := h3nn.mono hle3
          replace hc2 := hc2.mono hle3
          replace hc3 := hc3.mono hle3
          replace hq2a := hq2a.mono hle3
          replace hr1 := hr1.mono hle3
          replace hW1 := hW1.mono hle3
          replace hr2 := hr2.mono hle3
          replace hW2 := hW2.mono hle3
          replace hr3 := hr3.mono hle3
          obtain ⟨A1, c1, rfl, hr4⟩ := hRw3
          refine wl_op (k := 9) (k' := 10) rfl rfl rfl (wo_buildSlice1 (C := (cdV 22)) (l := [_]) rfl rfl rfl rfl sl43 rfl rfl rfl rfl S5 ?_)
          intro gb1 w4 S6; clear S5
          refine wl_op (k := 10) (k' := 11) rfl rfl rfl (wo_append1 (C := (cdV 22)) (i := 1) (q := 0) (⟨A1, (ga (ga nn r) k).length, c1⟩ : SlV) rfl rfl rfl rfl rfl rfl rfl rfl sl43 S6 rfl rfl rfl (by show (_ + 1) * 24 ≤ _; omega) ?_)
          intro vrr1 w5 S7; clear S6
          have S8 := S7.pick [1, 2] [_, _] (by decide) ⟨rfl, rfl, trivial⟩; clear S7
          have hd1 := hq2a.snoc (c := c1) hr4
          refine wl_op (k := 11) (k' := 12) rfl rfl rfl (wo_run rfl rfl (run_assign rfl rfl) ?_)
          refine wl_end rfl ?_
          refine nm_blk ?_
          refine nm_sub [(0, _), (3, _), (4, _), (5, _), (6, _)] ⟨rfl, rfl, rfl, rfl, rfl, trivial⟩ ?_
          refine nm_thn ?_
          refine ws_region rfl ?_
          refine wl_op (k := 0) (k' := 1) rfl rfl rfl (wo_run rfl rfl (run_move rfl rfl) ?_)
          refine wl_op (k := 1) (k' := 2) rfl rfl rfl (wo_run rfl rfl (run_add rfl rfl rfl (by first | omega | (simp only [List.length_set, List.length_append, List.length_replicate, List.length_singleton, List.length_cons, List.length_nil]; omega))) ?_)
          refine wl_op (k := 2) (k' := 3) rfl rfl rfl (wo_run rfl rfl (run_assign rfl rfl) ?_)
          refine wl_end rfl ?_
          refine nm_lp ?_
          intro ax_ hax_
          refine ⟨_, ?hq3m, ⟨k + 1, _, (rx ++ [ga (ga nn r) k]), _, _, (hle2.trans hle3), rfl, hax_.sub ⟨rfl, rfl, rfl, rfl, rfl, trivial⟩, S8.pick [0, 1] [_, _] (by decide) ⟨rfl, rfl, trivial⟩, ?hq3f0, ?hq3f1, ?hq3f2⟩⟩
          case hq3f0 => omega
          case hq3f1 => (rw [take_ga _ k (by omega), ← hrx])
          case hq3f2 => exact hd1
          case hq3m => omega
        · have hb22 := of_decide_eq_false hb22
          refine ws_exit rfl rfl ?_
          refine nm_sub [(0, _), (3, _), (4, _), (5, _)] ⟨rfl, rfl, rfl, rfl, trivial⟩ ?_
          refine nm_thn ?_
          refine ws_region rfl ?_
          refine wl_op (k := 0) (k' := 1) rfl rfl rfl (wo_run rfl rfl (run_move rfl rfl) ?_)
          refine wl_op (k := 1) (k' := 2) rfl rfl rfl (wo_run rfl rfl (run_move rfl rfl) ?_)
          obtain ⟨M4, hle4, S9, ⟨A2, c2, e1, hr5⟩⟩ := S4.pubrow (i := 0) (H' := [_, _]) rfl rfl (by show _ * 24 ≤ _; first | omega | (simp only [List.length_set, List.length_append, List.length_replicate, List.length_singleton, List.length_cons, List.length_nil]; omega))
          clear S4; subst e1
          replace hnn := hnn.mono hle4
          replace hdnn := hdnn.mono hle4
          replace h3nn := h3nn.mono hle4
          replace hc2 := hc2.mono hle4
          replace hc3 := hc3.mono hle4
          replace hq2a := hq2a.mono hle4
          replace hr1 := hr1.mono hle4
          replace hW1 := hW1.mono hle4
          refine wl_op (k := 2) (k' := 3) rfl rfl rfl (wo_buildSlice1 (C := (cdV 43)) (l := [_]) rfl rfl rfl rfl sl37 rfl rfl rfl rfl S9 ?_)
          intro gb2 w6 S10; clear S9
          refine wl_op (k := 3) (k' := 4) rfl rfl rfl (wo_append1 (C := (cdV 43)) (i := 2) (q := 0) (⟨A2, rv.length, c2⟩ : SlV) rfl rfl rfl rfl rfl rfl rfl rfl sl37 S10 rfl rfl rfl (by show (_ + 1) * 24 ≤ _; omega) ?_)
          intro vrc1 w7 S11; clear S10
          have S12 := S11.pick [1, 2] [_, _] (by decide) ⟨rfl, rfl, trivial⟩; clear S11
          have hd2 := hc2.snoc (c := c2) hr5
          have hd3 := hc3.snoc hq2a
          refine wl_op (k := 4) (k' := 5) rfl rfl rfl (wo_run rfl rfl (run_assign rfl rfl) ?_)
          refine wl_end rfl ?_
          refine nm_blk ?_
          refine nm_sub [(0, _), (3, _), (4, _)] ⟨rfl, rfl, rfl, trivial⟩ ?_
          refine nm_thn ?_
          refine ws_region rfl ?_
          refine wl_op (k := 0) (k' := 1) rfl rfl rfl (wo_run rfl rfl (run_move rfl rfl) ?_)
          refine wl_op (k := 1) (k' := 2) rfl rfl rfl (wo_run rfl rfl (run_add rfl rfl rfl (by first | omega | (simp only [List.length_set, List.length_append, List.length_replicate, List.length_singleton, List.length_cons, List.length_nil]; omega))) ?_)
          refine wl_op (k := 2) (k' := 3) rfl rfl rfl (wo_run rfl rfl (run_assign rfl rfl) ?_)
          refine wl_end rfl ?_
          refine nm_lp ?_
          intro ax_ hax_
          refine ⟨_, ?hq4m, ⟨r + 1, _, (cs ++ [rv]), (cm ++ [rx]), _, _, ((hle1.trans hle2).trans hle4), rfl, hax_.sub ⟨rfl, rfl, rfl, trivial⟩, S12.pick [1] [_] (by decide) ⟨rfl, trivial⟩, ?hq4f0, ?hq4f1, ?hq4f2, ?hq4f3⟩⟩
          case hq4f0 => omega
          case hq4f1 => (rw [take_ga nn r (by omega), ← hcm, hrx, show k = (ga nn r).length by omega, List.take_length])
          case hq4f2 => exact hd2
          case hq4f3 => exact hd3
          case hq4m => omega
    · have hb13 := of_decide_eq_false hb13
      refine ws_exit rfl rfl ?_
      refine nm_sub [(0, _), (3, _)] ⟨rfl, rfl, trivial⟩ ?_
      refine nm_thn ?_
      refine ws_seqN PolyTables_n37 PolyTables_n38 rfl rfl rfl ?_
      obtain ⟨M5, hle5, S13, ⟨A3, c3, e2, hr6⟩⟩ := S2.pubrow (i := 0) (H' := [_]) rfl rfl (by show _ * 24 ≤ _; have h1 := hc2.1; have h2 := hc3.1; have h3 : cm.length ≤ nn.length := (by rw [hcm, List.length_take]; omega); first | omega | (simp only [List.length_set, List.length_append, List.length_replicate, List.length_singleton, List.length_cons, List.length_nil]; omega))
      clear S2; subst e2
      replace hnn := hnn.mono hle5
      replace hdnn := hdnn.mono hle5
      replace h3nn := h3nn.mono hle5
      replace hc2 := hc2.mono hle5
      replace hc3 := hc3.mono hle5
      obtain rfl : r = nn.length := by omega
      rw [List.take_length] at hcm
      rw [hcm] at hc3
      refine ws_region rfl ?_
      refine wl_op (k := 0) (k' := 1) rfl rfl rfl (wo_run rfl rfl (run_move rfl rfl) ?_)
      refine wl_op (k := 1) (k' := 2) rfl rfl rfl (wo_ct rfl rfl rfl rfl rfl rfl rfl cf30 S13 (Det_t nn hr6 hc2 hc3 S13.lend) ?_)
      intro vw8 w8 M6 hle6 S14 hRw8; clear S13
      replace hnn := hnn.mono hle6
      replace hdnn := hdnn.mono hle6
      replace h3nn := h3nn.mono hle6
      replace hc2 := hc2.mono hle6
      replace hc3 := hc3.mono hle6
      replace hr6 := hr6.mono hle6
      rcases hRw8 with ⟨ok1, rfl⟩ | ⟨ok1, A4, c4, l1, rfl, hr7, hcan1, hbd1, hmk1⟩
      · refine wl_op (k := 2) (k' := 3) rfl rfl rfl (wo_run rfl rfl (run_move rfl rfl) ?_)
        refine wl_op (k := 3) (k' := 4) rfl rfl rfl (wo_run rfl rfl (run_extract rfl rfl rfl) ?_)
        refine wl_op (k := 4) (k' := 5) rfl rfl rfl (wo_run rfl rfl (run_extract rfl rfl rfl) ?_)
        refine wl_op (k := 5) (k' := 6) rfl rfl rfl (wo_run rfl rfl (run_assign rfl rfl) ?_)
        refine wl_op (k := 6) (k' := 7) rfl rfl rfl (wo_run rfl rfl (run_assign rfl rfl) ?_)
        refine wl_end rfl ?_
        refine nm_sub [(0, _), (7, _), (8, _)] ⟨rfl, rfl, rfl, trivial⟩ ?_
        refine nm_thn ?_
        refine ws_seqN PolyTables_n39 PolyTables_n40 rfl rfl rfl ?_
        refine ws_region rfl ?_
        refine wl_op (k := 0) (k' := 1) rfl rfl rfl (wo_run rfl rfl (run_move rfl rfl) ?_)
        refine wl_op (k := 1) (k' := 2) rfl rfl rfl (wo_cq rfl rfl rfl rfl rfl rfl rfl cf31 S14 (DetMay_q nn (hnn.mono (Hp.le_un _ _)) (hdnn.mono (Hp.le_un _ _)) (h3nn.mono (Hp.le_un _ _)) S14.lend) ?_)
        rintro _ w9 S15 rfl; clear S14
        refine wl_op (k := 2) (k' := 3) rfl rfl rfl (wo_run rfl rfl (run_assign rfl rfl) ?_)
        refine wl_end rfl ?_
        refine nm_sub [(0, _), (7, _), (8, _), (9, _)] ⟨rfl, rfl, rfl, rfl, trivial⟩ ?_
        refine nm_thn ?_
        refine ws_seqN PolyTables_n41 PolyTables_n42 rfl rfl rfl ?_
        refine ws_seqN PolyTables_n43 PolyTables_n44 rfl rfl rfl ?_
        refine ws_region rfl ?_
        refine wl_op (k := 0) (k' := 1) rfl rfl rfl (wo_run rfl rfl (run_move rfl rfl) ?_)
        refine wl_op (k := 1) (k' := 2) rfl rfl rfl (wo_run rfl rfl (run_neq rfl rfl rfl) ?_)
        refine wl_end rfl ?_
        refine nm_sub [(0, _), (7, _), (8, _), (9, _), (48, _)] ⟨rfl, rfl, rfl, rfl, rfl, trivial⟩ ?_
        refine nm_thn ?_
        refine ws_condN PolyTables_n45 PolyTables_n46 rfl rfl rfl rfl (fun hb48 => ?_) (fun hb48 => ?_)
        · have hb48 := of_decide_eq_true hb48
          refine ws_seqN PolyTables_n47 PolyTables_n48 rfl rfl rfl ?_
          refine ws_region rfl ?_
          refine wl_op (k := 0) (k' := 1) rfl rfl rfl (wo_run rfl rfl (run_move rfl rfl) ?_)
          refine wl_op (k := 1) (k' := 2) rfl rfl rfl (wo_run rfl rfl (run_move rfl rfl) ?_)
          refine wl_op (k := 2) (k' := 3) rfl rfl rfl (wo_run rfl rfl (run_eql rfl rfl rfl) ?_)
          refine wl_op (k := 3) (k' := 4) rfl rfl rfl (wo_run rfl rfl (run_move rfl rfl) ?_)
          refine wl_split (t := 52) rfl (fun hg52 => ?_) (fun hg52 => ?_)
          · have hg52 := of_decide_eq_true hg52
            refine wl_opG (k := 4) (k' := 5) rfl rfl ⟨_, _, _, rfl, rfl, rfl, rfl⟩ rfl (wo_run rfl rfl (run_move rfl rfl) ?_)
            refine wl_opG (k := 5) (k' := 6) rfl rfl ⟨_, _, _, rfl, rfl, rfl, rfl⟩ rfl (wo_run rfl rfl (run_len rfl rfl rfl rfl rfl rfl Try.underlying22) ?_)
            refine wl_opG (k := 6) (k' := 7) rfl rfl ⟨_, _, _, rfl, rfl, rfl, rfl⟩ rfl (wo_run rfl rfl (run_eql rfl rfl rfl) ?_)
            refine wl_op (k := 7) (k' := 8) rfl rfl rfl (wo_run rfl rfl (run_pickT rfl rfl rfl) ?_)
            refine wl_op (k := 8) (k' := 9) rfl rfl rfl (wo_run rfl rfl (run_assign rfl rfl) ?_)
            refine wl_end rfl ?_
            refine nm_sub [(2, _)] ⟨rfl, trivial⟩ ?_
            refine nm_thn ?_
            refine ws_ret hC [_] rfl rfl ⟨rfl, trivial⟩ ?_
            refine ⟨_, rfl, _, (hle1.trans hle5).trans hle6, (S15.pick [] [] (by decide) trivial), ?_⟩
            show Value.bool _ = _
            refine congrArg Value.bool ?_
            first | rfl | (rw [decide_eq_true_iff]; omega) | (simp_all; done)
          · have hg52 := of_decide_eq_false hg52
            exfalso; first | omega | (simp_all; done) | contradiction
        · have hb48 := of_decide_eq_false hb48
          exfalso; first | omega | (simp_all; done) | contradiction
      · obtain ⟨hsqt, hl6⟩ := detE_ok ok1
        refine wl_op (k := 2) (k' := 3) rfl rfl rfl (wo_run rfl rfl (run_move rfl rfl) ?_)
        refine wl_op (k := 3) (k' := 4) rfl rfl rfl (wo_run rfl rfl (run_extract rfl rfl rfl) ?_)
        refine wl_op (k := 4) (k' := 5) rfl rfl rfl (wo_run rfl rfl (run_extract rfl rfl rfl) ?_)
        refine wl_op (k := 5) (k' := 6) rfl rfl rfl (wo_run rfl rfl (run_assign rfl rfl) ?_)
        refine wl_op (k := 6) (k' := 7) rfl rfl rfl (wo_run rfl rfl (run_assign rfl rfl) ?_)
        refine wl_end rfl ?_
        refine nm_sub [(0, _), (7, _), (8, _)] ⟨rfl, rfl, rfl, trivial⟩ ?_
        refine nm_thn ?_
        refine ws_seqN PolyTables_n39 PolyTables_n40 rfl rfl rfl ?_
        refine ws_region rfl ?_
        refine wl_op (k := 0) (k' := 1) rfl rfl rfl (wo_run rfl rfl (run_move rfl rfl) ?_)
        refine wl_op (k := 1) (k' := 2) rfl rfl rfl (wo_cq rfl rfl rfl rfl rfl rfl rfl cf31 S14 (DetMay_q nn (hnn.mono (Hp.le_un _ _)) (hdnn.mono (Hp.le_un _ _)) (h3nn.mono (Hp.le_un _ _)) S14.lend) ?_)
        rintro _ w10 S16 rfl; clear S14
        refine wl_op (k := 2) (k' := 3) rfl rfl rfl (wo_run rfl rfl (run_assign rfl rfl) ?_)
        refine wl_end rfl ?_
        refine nm_sub [(0, _), (7, _), (8, _), (9, _)] ⟨rfl, rfl, rfl, rfl, trivial⟩ ?_
        refine nm_thn ?_
        refine ws_seqN PolyTables_n41 PolyTables_n42 rfl rfl rfl ?_
        refine ws_seqN PolyTables_n43 PolyTables_n44 rfl rfl rfl ?_
        refine ws_region rfl ?_
        refine wl_op (k := 0) (k' := 1) rfl rfl rfl (wo_run rfl rfl (run_move rfl rfl) ?_)
        refine wl_op (k := 1) (k' := 2) rfl rfl rfl (wo_run rfl rfl (run_neq rfl rfl rfl) ?_)
        refine wl_end rfl ?_
        refine nm_sub [(0, _), (7, _), (8, _), (9, _), (48, _)] ⟨rfl, rfl, rfl, rfl, rfl, trivial⟩ ?_
        refine nm_thn ?_
        refine ws_condN PolyTables_n45 PolyTables_n46 rfl rfl rfl rfl (fun hb48 => ?_) (fun hb48 => ?_)
        · have hb48 := of_decide_eq_true hb48
          exfalso; first | omega | (simp_all; done) | contradiction
        · have hb48 := of_decide_eq_false hb48
          refine ws_skip rfl ?_
          refine nm_sub [(0, _), (7, _), (8, _)] ⟨rfl, rfl, rfl, trivial⟩ ?_
          refine nm_thn ?_
          refine ws_seqN PolyTables_n49 PolyTables_n50 rfl rfl rfl ?_
          refine ws_region rfl ?_
          refine wl_op (k := 0) (k' := 1) rfl rfl rfl (wo_run rfl rfl (run_move rfl rfl) ?_)
          refine wl_op (k := 1) (k' := 2) rfl rfl rfl (wo_run rfl rfl (run_eql rfl rfl rfl) ?_)
          refine wl_op (k := 2) (k' := 3) rfl rfl rfl (wo_run rfl rfl (run_move rfl rfl) ?_)
          refine wl_split (t := 59) rfl (fun hg59 => ?_) (fun hg59 => ?_)
          · have hg59 := of_decide_eq_true hg59
            refine wl_opG (k := 3) (k' := 4) rfl rfl ⟨_, _, _, rfl, rfl, rfl, rfl⟩ rfl (wo_run rfl rfl (run_move rfl rfl) ?_)
            refine wl_opG (k := 4) (k' := 5) rfl rfl ⟨_, _, _, rfl, rfl, rfl, rfl⟩ rfl (wo_run rfl rfl (run_move rfl rfl) ?_)
            refine wl_opG (k := 5) (k' := 6) rfl rfl ⟨_, _, _, rfl, rfl, rfl, rfl⟩ rfl (wo_ct rfl rfl rfl rfl rfl rfl rfl cf32 S16 (RDet_t nn.length 1000 (by omega) (by omega) _ _ _ nn _ _ _ _ hnn hdnn h3nn hsqt S16.lend) ?_)
            intro vw11 w11 M7 hle7 S17 hRw11; clear S16
            replace hnn := hnn.mono hle7
            replace hdnn := hdnn.mono hle7
            replace h3nn := h3nn.mono hle7
            replace hc2 := hc2.mono hle7
            replace hc3 := hc3.mono hle7
            replace hr6 := hr6.mono hle7
            replace hr7 := hr7.mono hle7
            obtain ⟨A5, c5, l2, rfl, hr8, hcan2, hbd2, hmk2⟩ := hRw11
            refine wl_opG (k := 6) (k' := 7) rfl rfl ⟨_, _, _, rfl, rfl, rfl, rfl⟩ rfl (wo_cq rfl rfl rfl rfl rfl rfl rfl cf17 S17 (sameTerms_q l1 l2 (hr7.mono (Hp.le_un _ _)) (hr8.mono (Hp.le_un _ _)) ((can_ext hcan1 hcan2 (by rw [hmk1, hmk2, dT_mkM hsqt]))) S17.lend) ?_)
            rintro _ w12 S18 rfl; clear S17
            refine wl_op (k := 7) (k' := 8) rfl rfl rfl (wo_run rfl rfl (run_pickT rfl rfl rfl) ?_)
            refine wl_op (k := 8) (k' := 9) rfl rfl rfl (wo_run rfl rfl (run_assign rfl rfl) ?_)
            refine wl_end rfl ?_
            refine nm_sub [(2, _)] ⟨rfl, trivial⟩ ?_
            refine nm_thn ?_
            refine ws_ret hC [_] rfl rfl ⟨rfl, trivial⟩ ?_
            refine ⟨_, rfl, _, ((hle1.trans hle5).trans hle6).trans hle7, (S18.pick [] [] (by decide) trivial), ?_⟩
            show Value.bool _ = _
            refine congrArg Value.bool ?_
            first | rfl | (rw [decide_eq_true_iff]; omega) | (simp_all; done)
          · have hg59 := of_decide_eq_false hg59
            exfalso; first | omega | (simp_all; done) | contradiction

end Go.Proofs.Ytkcighnochjlgaa
