/- Walks printed by eng.py. -/
import Derived.Test.YtkcighnochjlgaaM8
import Derived.Test.YtkcighnochjlgaaE20
set_option linter.unusedSimpArgs false
set_option linter.unusedVariables false
namespace Go.Proofs.Ytkcighnochjlgaa
open Go.ChangeShapes Go.WideShapes Go.ChangeAt Go.RowKit
def mkM (nn : List (List (List Tm))) : List (List Pol) := nn.map fun r => r.map fun l => mk (pr l)
def sgI (c : Nat) : Int := if c % 2 = 1 then -1 else 1
theorem sgI_zero : sgI 0 = 1 := rfl
theorem sgI_succ (c : Nat) : sgI (c + 1) = -sgI c := by unfold sgI; split <;> split <;> omega
theorem sgI_bd (c : Nat) : -1 ≤ sgI c ∧ sgI c ≤ 1 := by unfold sgI; split <;> omega
theorem sg_sgI (c : Nat) (y : Pol) : y * mono 0 (sgI c) = sg c y := sg_mono c y (by unfold sgI; split <;> omega)
theorem mkM_less (nn : List (List (List Tm))) (c : Nat) : mkM ((nn.drop 1).map fun r => r.eraseIdx c) = ((mkM nn).drop 1).map fun r => r.eraseIdx c := by
  unfold mkM
  rw [← List.map_drop, List.map_map, List.map_map]
  refine List.map_congr_left fun r _ => ?_
  exact (map_eraseIdx _ r c).symm
theorem mkM_at {nn : List (List (List Tm))} {i k : Nat} (hi : i < nn.length) (hk : k < (ga nn i).length) : ga (ga (mkM nn) i) k = mk (pr (ga (ga nn i) k)) := by
  unfold mkM
  rw [ga_map _ _ _ hi, ga_map _ _ _ hk]
/-- What the determinant asks of a table. -/
def SqT (nn : List (List (List Tm))) (n B : Nat) : Prop := nn.length = n ∧ (∀ i, i < n → (ga nn i).length = n) ∧ ∀ i, i < n → ∀ k, k < n → Bd (ga (ga nn i) k) B
theorem ga_erase {β : Type} [Inhabited β] (l : List β) (c k : Nat) : ga (l.eraseIdx c) k = if k < c then ga l k else ga l (k + 1) := by
  unfold ga
  rw [List.getD_eq_getElem?_getD, List.getElem?_eraseIdx]
  split <;> simp [List.getD_eq_getElem?_getD]
theorem SqT.less {nn : List (List (List Tm))} {q B : Nat} (h : SqT nn (q + 1) B) {c : Nat} (hc : c < q + 1) : SqT ((nn.drop 1).map fun r => r.eraseIdx c) q B := by
  obtain ⟨h1, h2, h3⟩ := h
  have hg : ∀ i, i < q → ga ((nn.drop 1).map fun r => r.eraseIdx c) i = (ga nn (i + 1)).eraseIdx c := fun i hi => by
    rw [ga_map _ _ _ (by rw [List.length_drop]; omega), ga_drop, Nat.add_comm]
  refine ⟨by simp [h1], fun i hi => ?_, fun i hi k hk => ?_⟩
  · rw [hg i hi, List.length_eraseIdx, h2 _ (by omega), if_pos hc]; rfl
  · rw [hg i hi, ga_erase]
    split
    · exact h3 _ (by omega) _ (by omega)
    · exact h3 _ (by omega) _ (by omega)

noncomputable def RDet_n0 : Code := Try.f32.body.getD .skip
noncomputable def RDet_n1 : Code := cL RDet_n0
noncomputable def RDet_n2 : Code := cR RDet_n0
noncomputable def RDet_n3 : Code := cL RDet_n2
noncomputable def RDet_n4 : Code := cR RDet_n2
noncomputable def RDet_n5 : Code := cL RDet_n3
noncomputable def RDet_n6 : Code := cR RDet_n3
noncomputable def RDet_n7 : Code := cL RDet_n6
noncomputable def RDet_n8 : Code := cR RDet_n6
noncomputable def RDet_n9 : Code := cL RDet_n7
noncomputable def RDet_n10 : Code := cR RDet_n7
noncomputable def RDet_n11 : Code := cL RDet_n4
noncomputable def RDet_n12 : Code := cR RDet_n4
noncomputable def RDet_n13 : Code := cL RDet_n12
noncomputable def RDet_n14 : Code := cR RDet_n12
noncomputable def RDet_n15 : Code := cL RDet_n14
noncomputable def RDet_n16 : Code := cR RDet_n14
noncomputable def RDet_n17 : Code := cL RDet_n15
noncomputable def RDet_n18 : Code := cR RDet_n15
noncomputable def RDet_n19 : Code := cL RDet_n18
noncomputable def RDet_n20 : Code := cL RDet_n19
noncomputable def RDet_n21 : Code := cL RDet_n20
noncomputable def RDet_n22 : Code := cR RDet_n20
noncomputable def RDet_n23 : Code := cL RDet_n21
noncomputable def RDet_n24 : Code := cR RDet_n21
noncomputable def RDet_n25 : Code := cL RDet_n24
noncomputable def RDet_n26 : Code := cR RDet_n24
noncomputable def RDet_n27 : Code := cL RDet_n22
noncomputable def RDet_n28 : Code := cR RDet_n22
noncomputable def RDet_n29 : Code := cL RDet_n27
noncomputable def RDet_n30 : Code := cL RDet_n29
noncomputable def RDet_n31 : Code := cR RDet_n29
noncomputable def RDet_n32 : Code := cL RDet_n30
noncomputable def RDet_n33 : Code := cR RDet_n30
noncomputable def RDet_n34 : Code := cL RDet_n33
noncomputable def RDet_n35 : Code := cR RDet_n33
noncomputable def RDet_n36 : Code := cL RDet_n34
noncomputable def RDet_n37 : Code := cR RDet_n34
noncomputable def RDet_n38 : Code := cL RDet_n37
noncomputable def RDet_n39 : Code := cR RDet_n37
noncomputable def RDet_n40 : Code := cL RDet_n38
noncomputable def RDet_n41 : Code := cR RDet_n38
noncomputable def RDet_n42 : Code := cL RDet_n41
noncomputable def RDet_n43 : Code := cL RDet_n42
noncomputable def RDet_n44 : Code := cL RDet_n43
noncomputable def RDet_n45 : Code := cR RDet_n43
noncomputable def RDet_n46 : Code := cL RDet_n44
noncomputable def RDet_n47 : Code := cR RDet_n44
noncomputable def RDet_n48 : Code := cL RDet_n47
noncomputable def RDet_n49 : Code := cR RDet_n47
noncomputable def RDet_n50 : Code := cL RDet_n45
noncomputable def RDet_n51 : Code := cR RDet_n45
noncomputable def RDet_n52 : Code := cL RDet_n50
noncomputable def RDet_n53 : Code := cL RDet_n52
noncomputable def RDet_n54 : Code := cR RDet_n52
noncomputable def RDet_n55 : Code := cL RDet_n54
noncomputable def RDet_n56 : Code := cR RDet_n54
noncomputable def RDet_n57 : Code := cL RDet_n56
noncomputable def RDet_n58 : Code := cR RDet_n56
noncomputable def RDet_n59 : Code := cL RDet_n16
noncomputable def RDet_n60 : Code := cR RDet_n16
set_option maxHeartbeats 1000000 in
set_option maxRecDepth 10000 in
theorem RDet_step {w : World} {M : Hp} {X : Fr} (nn : List (List (List Tm))) {nnA : Option Addr} {nnc : Nat} {nnv : List SlV} {nns : List (List SlV)} (hnn : RdA (cdV 43) M nnA nnc nnv) (hdnn : Rd2 (cdV 22) M nnv nns) (h3nn : RdD cdTm M nns nn) (n B : Nat) (ih : ∀ (n' : Nat), n' < n → ∀ (w : World) (M : Hp) (X : Fr) (nn : List (List (List Tm))) (A : Option Addr) (c : Nat) (v : List SlV) (s : List (List SlV)), RdA (cdV 43) M A c v → Rd2 (cdV 22) M v s → RdD cdTm M s nn → SqT nn n' B → SH w M X [] → Ct Try.prog 32 [.slice A v.length c] w M X (PT (n' * B) (dT n' (mkM nn)))) (hsq : SqT nn n B) (hn : n ≤ 10) (hB : 10 * B ≤ 1099511627776) (S : SH w M X []) : Ct Try.prog 32 [.slice nnA nnv.length nnc] w M X (PT (n * B) (dT n (mkM nn))) := by
  unfold Ct
  have rmhnn : nnv.length * 24 ≤ 140737488355328 := hnn.room
  have hnl := hdnn.1
  have hn3 := h3nn.1
  obtain ⟨hnn1, hlen, hbd⟩ := hsq
  have hsq : SqT nn n B := ⟨hnn1, hlen, hbd⟩
  refine calls_in (b := RDet_n0) Try.func32 rfl Try.ntmps32 rfl (fun C hC => ?_)
  refine ws_sub [(0, _)] ⟨rfl, trivial⟩ ?_
  refine ws_seqN RDet_n1 RDet_n2 rfl rfl rfl ?_
  refine ws_region rfl ?_
  refine wl_op (k := 0) (k' := 1) rfl rfl rfl (wo_run rfl rfl (run_assign rfl rfl) ?_)
  refine wl_end rfl ?_
  refine nm_sub [(0, _)] ⟨rfl, trivial⟩ ?_
  refine nm_thn ?_
  refine ws_seqN RDet_n3 RDet_n4 rfl rfl rfl ?_
  refine ws_seqN RDet_n5 RDet_n6 rfl rfl rfl ?_
  refine ws_region rfl ?_
  refine wl_op (k := 0) (k' := 1) rfl rfl rfl (wo_run rfl rfl (run_move rfl rfl) ?_)
  refine wl_op (k := 1) (k' := 2) rfl rfl rfl (wo_run rfl rfl (run_len rfl rfl rfl rfl rfl rfl Try.underlying37) ?_)
  refine wl_op (k := 2) (k' := 3) rfl rfl rfl (wo_run rfl rfl (run_eql rfl rfl rfl) ?_)
  refine wl_end rfl ?_
  refine nm_sub [(0, _), (11, _)] ⟨rfl, rfl, trivial⟩ ?_
  refine nm_thn ?_
  refine ws_condN RDet_n7 RDet_n8 rfl rfl rfl rfl (fun hb11 => ?_) (fun hb11 => ?_)
  · have hb11 := of_decide_eq_true hb11
    refine ws_seqN RDet_n9 RDet_n10 rfl rfl rfl ?_
    refine ws_region rfl ?_
    refine wl_op (k := 0) (k' := 1) rfl rfl rfl (wo_run rfl rfl (run_build (l := [_, _]) rfl rfl st89 rfl rfl) ?_)
    refine wl_op (k := 1) (k' := 2) rfl rfl rfl (wo_buildSlice1 (C := cdTm) (l := [_, _]) rfl rfl rfl rfl sl22 rfl rfl rfl rfl S ?_)
    intro gb1 w1 S1; clear S
    refine wl_op (k := 2) (k' := 3) rfl rfl rfl (wo_run rfl rfl (run_assign rfl rfl) ?_)
    refine wl_end rfl ?_
    refine nm_sub [(2, _)] ⟨rfl, trivial⟩ ?_
    refine nm_thn ?_
    obtain ⟨M1, hle1, S2, hr1⟩ := S1.pubbox (C := cdTm) (z := (⟨0, 1⟩ : Tm)) (i := 0) (H' := [_]) rfl rfl rfl (by decide)
    clear S1
    replace hnn := hnn.mono hle1
    replace hdnn := hdnn.mono hle1
    replace h3nn := h3nn.mono hle1
    refine ws_ret hC [_] rfl rfl ⟨rfl, trivial⟩ ?_
    refine ⟨_, rfl, _, hle1, (S2.pick [] [] (by decide) trivial), ?_⟩
    obtain rfl : n = 0 := by omega
    exact ⟨_, _, [⟨0, 1⟩], rfl, hr1, ⟨List.pairwise_singleton _ _, fun t ht => by simp at ht; subst ht; exact ⟨by decide, wr_id (by decide), wr_id (by decide)⟩⟩, fun t ht => by simp at ht; subst ht; constructor <;> (dsimp only; omega), rfl⟩
  · have hb11 := of_decide_eq_false hb11
    obtain ⟨q, rfl⟩ : ∃ q, n = q + 1 := ⟨n - 1, by omega⟩
    have hqB : (q + 1) * B = q * B + B := Nat.succ_mul q B
    have hqB2 : (q + 1) * B ≤ 10 * B := Nat.mul_le_mul_right _ hn
    refine ws_skip rfl ?_
    refine nm_sub [(0, _)] ⟨rfl, trivial⟩ ?_
    refine nm_thn ?_
    refine ws_seqN RDet_n11 RDet_n12 rfl rfl rfl ?_
    refine ws_region rfl ?_
    refine wl_op (k := 0) (k' := 1) rfl rfl rfl (wo_run rfl rfl (run_assign rfl rfl) ?_)
    refine wl_end rfl ?_
    refine nm_thn ?_
    refine ws_seqN RDet_n13 RDet_n14 rfl rfl rfl ?_
    refine ws_region rfl ?_
    refine wl_op (k := 0) (k' := 1) rfl rfl rfl (wo_run rfl rfl (run_assign rfl rfl) ?_)
    refine wl_end rfl ?_
    refine nm_thn ?_
    refine ws_seqN RDet_n15 RDet_n16 rfl rfl rfl ?_
    refine ws_seqN RDet_n17 RDet_n18 rfl rfl rfl ?_
    refine ws_eq 4 (.int .i64 (sgI 0)) rfl (int_eq sgI_zero.symm) ?_
    refine ws_region rfl ?_
    refine wl_op (k := 0) (k' := 1) rfl rfl rfl (wo_run rfl rfl (run_assign rfl rfl) ?_)
    refine wl_end rfl ?_
    refine nm_sub [(0, _), (3, _), (4, _), (5, _)] ⟨rfl, rfl, rfl, rfl, trivial⟩ ?_
    refine nm_thn ?_
    refine ws_blockN RDet_n19 0 rfl rfl rfl ?_
    refine ws_loopE (fun mx_ ax_ wx_ => ∃ (c : Nat) (acc : List Tm) (Ao : Option Addr) (co : Nat) (M2 : Hp), M.le M2 ∧ mx_ = q + 1 - c ∧ Env 70 [(0, .slice nnA nnv.length nnc), (3, .slice Ao acc.length co), (4, .int .i64 (sgI c)), (5, .int .i64 (c : Int))] ax_ ∧ SH wx_ M2 X [] ∧ RdA cdTm M2 Ao co acc ∧ c ≤ q + 1 ∧ Can acc ∧ Bd acc ((q + 1) * B) ∧ mk (pr acc) = sm c (fun c => sg c (ga (ga (mkM nn) 0) c * dT q (((mkM nn).drop 1).map fun r => r.eraseIdx c)))) rfl ?_ ?_
    · intro ax_ hax_
      refine ⟨_, ⟨0, [], none, 0, _, Hp.le_refl _, rfl, hax_.sub ⟨rfl, rfl, rfl, rfl, trivial⟩, S.pick [] [] (by decide) trivial, ?hq1f0, ?hq1f1, ?hq1f2, ?hq1f3, ?hq1f4⟩⟩
      case hq1f0 => exact RdA.nil_
      case hq1f1 => omega
      case hq1f2 => exact Can.nil_
      case hq1f3 => (intro t ht; simp at ht)
      case hq1f4 => rfl
    · rintro m1 a1 w2 ⟨c, acc, Ao, co, M2, hle2, rfl, he1, S3, hacc, hc, hcc, hbc, hmc⟩
      clear S
      refine ws_in he1 (c := RDet_n20) rfl ?_
      clear he1 a1
      replace hnn := hnn.mono hle2
      replace hdnn := hdnn.mono hle2
      replace h3nn := h3nn.mono hle2
      have hl0 := hlen 0 (by omega)
      have hsb := sgI_bd c
      refine ws_seqN RDet_n21 RDet_n22 rfl rfl rfl ?_
      refine ws_seqN RDet_n23 RDet_n24 rfl rfl rfl ?_
      refine ws_region rfl ?_
      refine wl_op (k := 0) (k' := 1) rfl rfl rfl (wo_run rfl rfl (run_move rfl rfl) ?_)
      refine wl_op (k := 1) (k' := 2) rfl rfl rfl (wo_run rfl rfl (run_move rfl rfl) ?_)
      refine wl_op (k := 2) (k' := 3) rfl rfl rfl (wo_run rfl rfl (run_len rfl rfl rfl rfl rfl rfl Try.underlying37) ?_)
      refine wl_op (k := 3) (k' := 4) rfl rfl rfl (wo_run rfl rfl (run_lss rfl rfl rfl) ?_)
      refine wl_end rfl ?_
      refine nm_sub [(0, _), (3, _), (4, _), (5, _), (17, _)] ⟨rfl, rfl, rfl, rfl, rfl, trivial⟩ ?_
      refine nm_thn ?_
      refine ws_condN RDet_n25 RDet_n26 rfl rfl rfl rfl (fun hb17 => ?_) (fun hb17 => ?_)
      · have hb17 := of_decide_eq_true hb17
        refine ws_skip rfl ?_
        refine nm_sub [(0, _), (3, _), (4, _), (5, _)] ⟨rfl, rfl, rfl, rfl, trivial⟩ ?_
        refine nm_thn ?_
        refine ws_seqN RDet_n27 RDet_n28 rfl rfl rfl ?_
        refine ws_blockN RDet_n29 1 rfl rfl rfl ?_
        refine ws_seqN RDet_n30 RDet_n31 rfl rfl rfl ?_
        refine ws_seqN RDet_n32 RDet_n33 rfl rfl rfl ?_
        refine ws_region rfl ?_
        refine wl_op (k := 0) (k' := 1) rfl rfl rfl (wo_run rfl rfl (run_move rfl rfl) ?_)
        refine wl_op (k := 1) (k' := 2) rfl rfl rfl (wo_run rfl rfl (run_indexM (C := (cdV 43)) 0 rfl rfl rfl sl37 (by first | rfl | omega) hnn (by first | omega | (simp only [List.length_set, List.length_append, List.length_replicate, List.length_singleton, List.length_cons, List.length_nil]; omega))) ?_)
        obtain ⟨hn1, hr2⟩ := hdnn.2 0 (by first | omega | (simp only [List.length_set, List.length_append, List.length_replicate, List.length_singleton, List.length_cons, List.length_nil]; omega))
        have rmhr2 : (ga nns 0).length * 24 ≤ 140737488355328 := hr2.room
        have hW1 := h3nn.2 0 (by have := h3nn.1; have := hdnn.1; first | omega | (simp_all; omega))
        have hW1l := hW1.1
        refine wl_op (k := 2) (k' := 3) rfl rfl rfl (wo_run rfl rfl (run_load1 rfl rfl Try.underlying43 rfl (hnn.cell S3.m (i := 0) (by first | omega | (simp only [List.length_set, List.length_append, List.length_replicate, List.length_singleton, List.length_cons, List.length_nil]; omega)) 0 rfl (congrArg (fun n => some (Value.slice _ n _)) hn1))) ?_)
        refine wl_op (k := 3) (k' := 4) rfl rfl rfl (wo_run rfl rfl (run_move rfl rfl) ?_)
        refine wl_op (k := 4) (k' := 5) rfl rfl rfl (wo_run rfl rfl (run_indexM (C := (cdV 22)) c rfl rfl rfl sl43 (by first | rfl | omega) hr2 (by first | omega | (simp only [List.length_set, List.length_append, List.length_replicate, List.length_singleton, List.length_cons, List.length_nil]; omega))) ?_)
        obtain ⟨hn2, hr3⟩ := hW1.2 c (by first | omega | (simp only [List.length_set, List.length_append, List.length_replicate, List.length_singleton, List.length_cons, List.length_nil]; omega))
        have rmhr3 : (ga (ga nn 0) c).length * 16 ≤ 140737488355328 := hr3.room
        refine wl_op (k := 5) (k' := 6) rfl rfl rfl (wo_run rfl rfl (run_load1 rfl rfl Try.underlying22 rfl (hr2.cell S3.m (i := c) (by first | omega | (simp only [List.length_set, List.length_append, List.length_replicate, List.length_singleton, List.length_cons, List.length_nil]; omega)) 0 rfl (congrArg (fun n => some (Value.slice _ n _)) hn2))) ?_)
        refine wl_op (k := 6) (k' := 7) rfl rfl rfl (wo_run rfl rfl (run_len rfl rfl rfl rfl rfl rfl Try.underlying22) ?_)
        refine wl_op (k := 7) (k' := 8) rfl rfl rfl (wo_run rfl rfl (run_gtr rfl rfl rfl) ?_)
        refine wl_end rfl ?_
        refine nm_sub [(0, _), (3, _), (4, _), (5, _), (27, _)] ⟨rfl, rfl, rfl, rfl, rfl, trivial⟩ ?_
        refine nm_thn ?_
        refine ws_condN RDet_n34 RDet_n35 rfl rfl rfl rfl (fun hb27 => ?_) (fun hb27 => ?_)
        · have hb27 := of_decide_eq_true hb27
          refine ws_seqN RDet_n36 RDet_n37 rfl rfl rfl ?_
          refine ws_region rfl ?_
          refine wl_op (k := 0) (k' := 1) rfl rfl rfl (wo_run rfl rfl (run_assign rfl rfl) ?_)
          refine wl_end rfl ?_
          refine nm_sub [(0, _), (3, _), (4, _), (5, _), (6, _)] ⟨rfl, rfl, rfl, rfl, rfl, trivial⟩ ?_
          refine nm_thn ?_
          refine ws_seqN RDet_n38 RDet_n39 rfl rfl rfl ?_
          refine ws_seqN RDet_n40 RDet_n41 rfl rfl rfl ?_
          refine ws_region rfl ?_
          refine wl_op (k := 0) (k' := 1) rfl rfl rfl (wo_run rfl rfl (run_assign rfl rfl) ?_)
          refine wl_end rfl ?_
          refine nm_thn ?_
          refine ws_blockN RDet_n42 2 rfl rfl rfl ?_
          have S4 := S3.nilrow (cdV 43); clear S3
          refine ws_loopE (fun mx_ ax_ wx_ => ∃ (r : Nat) (lv : List SlV) (ls : List (List SlV)) (lm : List (List (List Tm))) (vrl : Value) (M3 : Hp), M2.le M3 ∧ mx_ = q - r ∧ Env 70 [(0, .slice nnA nnv.length nnc), (3, .slice Ao acc.length co), (4, .int .i64 (sgI c)), (5, .int .i64 (c : Int)), (6, vrl), (7, .int .i64 ((r + 1 : Nat) : Int))] ax_ ∧ SH wx_ M3 X [Rs.row (cdV 43) vrl lv] ∧ r ≤ q ∧ lm = ((nn.drop 1).take r).map (fun z => z.eraseIdx c) ∧ Rd2 (cdV 22) M3 lv ls ∧ RdD cdTm M3 ls lm) rfl ?_ ?_
          · intro ax_ hax_
            refine ⟨_, ⟨0, _, ([]), ([]), _, _, Hp.le_refl _, rfl, hax_.sub ⟨rfl, rfl, rfl, rfl, rfl, rfl, trivial⟩, S4.pick [0] [_] (by decide) ⟨rfl, trivial⟩, ?hq2f0, ?hq2f1, ?hq2f2, ?hq2f3⟩⟩
            case hq2f0 => omega
            case hq2f1 => rfl
            case hq2f2 => exact Rd2.nil_
            case hq2f3 => exact RdD.nil_
          · rintro m2 a2 w3 ⟨r, lv, ls, lm, vrl, M3, hle3, rfl, he2, S5, hr, hlm, hl2, hl3⟩
            clear S4
            refine ws_in he2 (c := RDet_n43) rfl ?_
            clear he2 a2
            replace hnn := hnn.mono hle3
            replace hdnn := hdnn.mono hle3
            replace h3nn := h3nn.mono hle3
            replace hacc := hacc.mono hle3
            replace hr2 := hr2.mono hle3
            replace hW1 := hW1.mono hle3
            replace hr3 := hr3.mono hle3
            have hl1 := hl2.1
            have hl4 := hl3.1
            have hll : lm.length = r := by rw [hlm, List.length_map, List.length_take, List.length_drop]; omega
            have hlr : r < q → (ga nn (r + 1)).length = q + 1 := fun _ => hlen (r + 1) (by omega)
            refine ws_seqN RDet_n44 RDet_n45 rfl rfl rfl ?_
            refine ws_seqN RDet_n46 RDet_n47 rfl rfl rfl ?_
            refine ws_region rfl ?_
            refine wl_op (k := 0) (k' := 1) rfl rfl rfl (wo_run rfl rfl (run_move rfl rfl) ?_)
            refine wl_op (k := 1) (k' := 2) rfl rfl rfl (wo_run rfl rfl (run_move rfl rfl) ?_)
            refine wl_op (k := 2) (k' := 3) rfl rfl rfl (wo_run rfl rfl (run_len rfl rfl rfl rfl rfl rfl Try.underlying37) ?_)
            refine wl_op (k := 3) (k' := 4) rfl rfl rfl (wo_run rfl rfl (run_lss rfl rfl rfl) ?_)
            refine wl_end rfl ?_
            refine nm_sub [(0, _), (3, _), (4, _), (5, _), (6, _), (7, _), (31, _)] ⟨rfl, rfl, rfl, rfl, rfl, rfl, rfl, trivial⟩ ?_
            refine nm_thn ?_
            refine ws_condN RDet_n48 RDet_n49 rfl rfl rfl rfl (fun hb31 => ?_) (fun hb31 => ?_)
            · have hb31 := of_decide_eq_true hb31
              refine ws_skip rfl ?_
              refine nm_sub [(0, _), (3, _), (4, _), (5, _), (6, _), (7, _)] ⟨rfl, rfl, rfl, rfl, rfl, rfl, trivial⟩ ?_
              refine nm_thn ?_
              refine ws_seqN RDet_n50 RDet_n51 rfl rfl rfl ?_
              refine ws_blockN RDet_n52 3 rfl rfl rfl ?_
              refine ws_seqN RDet_n53 RDet_n54 rfl rfl rfl ?_
              refine ws_region rfl ?_
              refine wl_op (k := 0) (k' := 1) rfl rfl rfl (wo_run rfl rfl (run_assign rfl rfl) ?_)
              refine wl_end rfl ?_
              refine nm_thn ?_
              refine ws_seqN RDet_n55 RDet_n56 rfl rfl rfl ?_
              refine ws_region rfl ?_
              refine wl_op (k := 0) (k' := 1) rfl rfl rfl (wo_run rfl rfl (run_move rfl rfl) ?_)
              refine wl_op (k := 1) (k' := 2) rfl rfl rfl (wo_run rfl rfl (run_move rfl rfl) ?_)
              refine wl_op (k := 2) (k' := 3) rfl rfl rfl (wo_run rfl rfl (run_move rfl rfl) ?_)
              refine wl_op (k := 3) (k' := 4) rfl rfl rfl (wo_run rfl rfl (run_indexM (C := (cdV 43)) (r + 1) rfl rfl rfl sl37 (by first | rfl | omega) hnn (by first | omega | (simp only [List.length_set, List.length_append, List.length_replicate, List.length_singleton, List.length_cons, List.length_nil]; omega))) ?_)
              obtain ⟨hn3, hr4⟩ := hdnn.2 (r + 1) (by first | omega | (simp only [List.length_set, List.length_append, List.length_replicate, List.length_singleton, List.length_cons, List.length_nil]; omega))
              have rmhr4 : (ga nns (r + 1)).length * 24 ≤ 140737488355328 := hr4.room
              have hW2 := h3nn.2 (r + 1) (by have := h3nn.1; have := hdnn.1; first | omega | (simp_all; omega))
              have hW2l := hW2.1
              refine wl_op (k := 4) (k' := 5) rfl rfl rfl (wo_run rfl rfl (run_load1 rfl rfl Try.underlying43 rfl (hnn.cell S5.m (i := r + 1) (by first | omega | (simp only [List.length_set, List.length_append, List.length_replicate, List.length_singleton, List.length_cons, List.length_nil]; omega)) 0 rfl (congrArg (fun n => some (Value.slice _ n _)) hn3))) ?_)
              refine wl_op (k := 5) (k' := 6) rfl rfl rfl (wo_run rfl rfl (run_move rfl rfl) ?_)
              refine wl_op (k := 6) (k' := 7) rfl rfl rfl (wo_sliceT (C := (cdV 22)) c rfl rfl rfl rfl rfl sl43 (by first | rfl | omega) (by first | omega | (simp only [List.length_set, List.length_append, List.length_replicate, List.length_singleton, List.length_cons, List.length_nil]; omega)) hr4 ?_)
              intro A1 c1 hr5
              have hd1 := hW2.take_ c
              have S6 := S5.nilrow (cdV 22); clear S5
              refine wl_op (k := 7) (k' := 8) rfl rfl rfl (wo_appendM (C := (cdV 22)) (i := 0) rfl rfl rfl rfl rfl rfl rfl rfl sl43 S6 rfl hr5 S6.m (by show (0 + _) * 24 ≤ _; rw [List.length_take]; omega) ?_)
              intro vr3 w4 S7; clear S6
              change SH _ _ _ [Rs.row (cdV 22) vr3 ((ga nns (r + 1)).take c), _] at S7
              have hd2 := hd1
              refine wl_op (k := 8) (k' := 9) rfl rfl rfl (wo_run rfl rfl (run_assign rfl rfl) ?_)
              refine wl_end rfl ?_
              refine nm_sub [(0, _), (3, _), (4, _), (5, _), (6, _), (7, _), (8, _)] ⟨rfl, rfl, rfl, rfl, rfl, rfl, rfl, trivial⟩ ?_
              refine nm_thn ?_
              refine ws_seqN RDet_n57 RDet_n58 rfl rfl rfl ?_
              refine ws_region rfl ?_
              refine wl_op (k := 0) (k' := 1) rfl rfl rfl (wo_run rfl rfl (run_move rfl rfl) ?_)
              refine wl_op (k := 1) (k' := 2) rfl rfl rfl (wo_run rfl rfl (run_move rfl rfl) ?_)
              refine wl_op (k := 2) (k' := 3) rfl rfl rfl (wo_run rfl rfl (run_move rfl rfl) ?_)
              refine wl_op (k := 3) (k' := 4) rfl rfl rfl (wo_run rfl rfl (run_indexM (C := (cdV 43)) (r + 1) rfl rfl rfl sl37 (by first | rfl | omega) hnn (by first | omega | (simp only [List.length_set, List.length_append, List.length_replicate, List.length_singleton, List.length_cons, List.length_nil]; omega))) ?_)
              obtain ⟨hn4, hr6⟩ := hdnn.2 (r + 1) (by first | omega | (simp only [List.length_set, List.length_append, List.length_replicate, List.length_singleton, List.length_cons, List.length_nil]; omega))
              have rmhr6 : (ga nns (r + 1)).length * 24 ≤ 140737488355328 := hr6.room
              have hW3 := h3nn.2 (r + 1) (by have := h3nn.1; have := hdnn.1; first | omega | (simp_all; omega))
              have hW3l := hW3.1
              refine wl_op (k := 4) (k' := 5) rfl rfl rfl (wo_run rfl rfl (run_load1 rfl rfl Try.underlying43 rfl (hnn.cell S7.m (i := r + 1) (by first | omega | (simp only [List.length_set, List.length_append, List.length_replicate, List.length_singleton, List.length_cons, List.length_nil]; omega)) 0 rfl (congrArg (fun n => some (Value.slice _ n _)) hn4))) ?_)
              refine wl_op (k := 5) (k' := 6) rfl rfl rfl (wo_run rfl rfl (run_move rfl rfl) ?_)
              refine wl_op (k := 6) (k' := 7) rfl rfl rfl (wo_run rfl rfl (run_add rfl rfl rfl (by first | omega | (simp only [List.length_set, List.length_append, List.length_replicate, List.length_singleton, List.length_cons, List.length_nil]; omega))) ?_)
              refine wl_op (k := 7) (k' := 8) rfl rfl rfl (wo_sliceD (C := (cdV 22)) (c + 1) rfl rfl rfl rfl rfl sl43 (by first | rfl | omega) (by first | omega | (simp only [List.length_set, List.length_append, List.length_replicate, List.length_singleton, List.length_cons, List.length_nil]; omega)) hr6 ?_)
              intro A2 c2 hr7
              have hd3 := hW3.drop_ (c + 1)
              refine wl_op (k := 8) (k' := 9) rfl rfl rfl (wo_appendM (C := (cdV 22)) (i := 0) rfl rfl rfl rfl rfl rfl rfl rfl sl43 S7 rfl hr7 S7.m (by have e1 := @List.length_take SlV c (ga nns (r + 1)); have e2 := @List.length_drop SlV (c + 1) (ga nns (r + 1)); show (_ + _) * 24 ≤ _; omega) ?_)
              intro vr4 w5 S8; clear S7
              change SH _ _ _ [Rs.row (cdV 22) vr4 (((ga nns (r + 1)).take c) ++ ((ga nns (r + 1)).drop (c + 1))), _] at S8
              have hd4 := hd2.app hd3
              refine wl_op (k := 9) (k' := 10) rfl rfl rfl (wo_run rfl rfl (run_assign rfl rfl) ?_)
              refine wl_end rfl ?_
              refine nm_sub [(0, _), (3, _), (4, _), (5, _), (6, _), (7, _), (8, _)] ⟨rfl, rfl, rfl, rfl, rfl, rfl, rfl, trivial⟩ ?_
              refine nm_thn ?_
              refine ws_region rfl ?_
              refine wl_op (k := 0) (k' := 1) rfl rfl rfl (wo_run rfl rfl (run_move rfl rfl) ?_)
              refine wl_op (k := 1) (k' := 2) rfl rfl rfl (wo_run rfl rfl (run_move rfl rfl) ?_)
              obtain ⟨M4, hle4, S9, ⟨A3, c3, e1, hr8⟩⟩ := S8.pubrow (i := 0) (H' := [_, _]) rfl rfl (by have e1 := @List.length_take SlV c (ga nns (r + 1)); have e2 := @List.length_drop SlV (c + 1) (ga nns (r + 1)); show _ * 24 ≤ _; simp only [List.length_append]; first | omega | (simp only [List.length_set, List.length_append, List.length_replicate, List.length_singleton, List.length_cons, List.length_nil]; omega))
              clear S8; subst e1
              replace hnn := hnn.mono hle4
              replace hdnn := hdnn.mono hle4
              replace h3nn := h3nn.mono hle4
              replace hacc := hacc.mono hle4
              replace hr2 := hr2.mono hle4
              replace hW1 := hW1.mono hle4
              replace hr3 := hr3.mono hle4
              replace hl2 := hl2.mono hle4
              replace hl3 := hl3.mono hle4
              replace hr4 := hr4.mono hle4
              replace hW2 := hW2.mono hle4
              replace hr5 := hr5.mono hle4
              replace hd1 := hd1.mono hle4
              replace hd2 := hd2.mono hle4
              replace hr6 := hr6.mono hle4
              replace hW3 := hW3.mono hle4
              replace hr7 := hr7.mono hle4
              replace hd3 := hd3.mono hle4
              replace hd4 := hd4.mono hle4
              refine wl_op (k := 2) (k' := 3) rfl rfl rfl (wo_buildSlice1 (C := (cdV 43)) (l := [_]) rfl rfl rfl rfl sl37 rfl rfl rfl rfl S9 ?_)
              intro gb2 w6 S10; clear S9
              refine wl_op (k := 3) (k' := 4) rfl rfl rfl (wo_append1 (C := (cdV 43)) (i := 2) (q := 0) (⟨A3, (((ga nns (r + 1)).take c) ++ ((ga nns (r + 1)).drop (c + 1))).length, c3⟩ : SlV) rfl rfl rfl rfl rfl rfl rfl rfl sl37 S10 rfl rfl rfl (by show (_ + 1) * 24 ≤ _; omega) ?_)
              intro vrl1 w7 S11; clear S10
              have S12 := S11.pick [1, 2] [_, _] (by decide) ⟨rfl, rfl, trivial⟩; clear S11
              have hd5 := hl2.snoc (c := c3) hr8
              have hd6 := hl3.snoc hd4
              refine wl_op (k := 4) (k' := 5) rfl rfl rfl (wo_run rfl rfl (run_assign rfl rfl) ?_)
              refine wl_end rfl ?_
              refine nm_blk ?_
              refine nm_sub [(0, _), (3, _), (4, _), (5, _), (6, _), (7, _)] ⟨rfl, rfl, rfl, rfl, rfl, rfl, trivial⟩ ?_
              refine nm_thn ?_
              refine ws_region rfl ?_
              refine wl_op (k := 0) (k' := 1) rfl rfl rfl (wo_run rfl rfl (run_move rfl rfl) ?_)
              refine wl_op (k := 1) (k' := 2) rfl rfl rfl (wo_run rfl rfl (run_add rfl rfl rfl (by first | omega | (simp only [List.length_set, List.length_append, List.length_replicate, List.length_singleton, List.length_cons, List.length_nil]; omega))) ?_)
              refine wl_op (k := 2) (k' := 3) rfl rfl rfl (wo_run rfl rfl (run_assign rfl rfl) ?_)
              refine wl_end rfl ?_
              refine nm_lp ?_
              intro ax_ hax_
              refine ⟨_, ?hq3m, ⟨r + 1, _, (ls ++ [((ga nns (r + 1)).take c) ++ ((ga nns (r + 1)).drop (c + 1))]), (lm ++ [((ga nn (r + 1)).take c) ++ ((ga nn (r + 1)).drop (c + 1))]), _, _, (hle3.trans hle4), rfl, hax_.sub ⟨rfl, rfl, rfl, rfl, rfl, rfl, trivial⟩, S12.pick [1] [_] (by decide) ⟨rfl, trivial⟩, ?hq3f0, ?hq3f1, ?hq3f2, ?hq3f3⟩⟩
              case hq3f0 => omega
              case hq3f1 => (rw [take_ga _ r (by rw [List.length_drop]; omega), List.map_append, ← hlm]; show _ = lm ++ [(ga (nn.drop 1) r).eraseIdx c]; rw [ga_drop, Nat.add_comm 1 r, List.eraseIdx_eq_take_drop_succ])
              case hq3f2 => exact hd5
              case hq3f3 => exact hd6
              case hq3m => omega
            · have hb31 := of_decide_eq_false hb31
              refine ws_exit rfl rfl ?_
              refine nm_sub [(0, _), (3, _), (4, _), (5, _), (6, _)] ⟨rfl, rfl, rfl, rfl, rfl, trivial⟩ ?_
              refine nm_thn ?_
              obtain ⟨M5, hle5, S13, ⟨A4, c4, e2, hr9⟩⟩ := S5.pubrow (i := 0) (H' := [_]) rfl rfl (by show _ * 24 ≤ _; first | omega | (simp only [List.length_set, List.length_append, List.length_replicate, List.length_singleton, List.length_cons, List.length_nil]; omega))
              clear S5; subst e2
              replace hnn := hnn.mono hle5
              replace hdnn := hdnn.mono hle5
              replace h3nn := h3nn.mono hle5
              replace hacc := hacc.mono hle5
              replace hr2 := hr2.mono hle5
              replace hW1 := hW1.mono hle5
              replace hr3 := hr3.mono hle5
              replace hl2 := hl2.mono hle5
              replace hl3 := hl3.mono hle5
              have hqm := hsq.1
              refine ws_draw rfl (by kernel_rfl) S13 13 rfl ?_
              clear S13
              refine wa_takeP (i := 0) (d := 55) 12 rfl (by kernel_rfl) (by kernel_rfl) (by kernel_rfl) rfl rfl rfl (fun w8 => run_move rfl rfl) ?_
              refine wa_takeP (i := 1) (d := 56) 11 rfl (by kernel_rfl) (by kernel_rfl) (by kernel_rfl) rfl rfl rfl (fun w9 => run_move rfl rfl) ?_
              refine wa_take (i := 2) (d := 57) 10 rfl (by kernel_rfl) (by kernel_rfl) (by kernel_rfl) rfl rfl rfl (fun M8 N3 w10 hle8 S16 => .inl (run_indexM (C := (cdV 43)) 0 rfl rfl rfl sl37 (by first | rfl | omega) (hnn.mono hle8) (by first | omega | (simp only [List.length_set, List.length_append, List.length_replicate, List.length_singleton, List.length_cons, List.length_nil]; omega)))) ?_
              obtain ⟨hn5, hr10⟩ := hdnn.2 0 (by first | omega | (simp only [List.length_set, List.length_append, List.length_replicate, List.length_singleton, List.length_cons, List.length_nil]; omega))
              have rmhr10 : (ga nns 0).length * 24 ≤ 140737488355328 := hr10.room
              have hW4 := h3nn.2 0 (by have := h3nn.1; have := hdnn.1; first | omega | (simp_all; omega))
              have hW4l := hW4.1
              refine wa_take (i := 3) (d := 58) 9 rfl (by kernel_rfl) (by kernel_rfl) (by kernel_rfl) rfl rfl rfl (fun M9 N4 w11 hle9 S17 => .inl (run_load1 rfl rfl Try.underlying43 rfl ((hnn.mono hle9).cell S17.m (i := 0) (by first | omega | (simp only [List.length_set, List.length_append, List.length_replicate, List.length_singleton, List.length_cons, List.length_nil]; omega)) 0 rfl (congrArg (fun n => some (Value.slice _ n _)) hn5)))) ?_
              refine wa_takeP (i := 4) (d := 59) 8 rfl (by kernel_rfl) (by kernel_rfl) (by kernel_rfl) rfl rfl rfl (fun w12 => run_move rfl rfl) ?_
              refine wa_take (i := 5) (d := 60) 7 rfl (by kernel_rfl) (by kernel_rfl) (by kernel_rfl) rfl rfl rfl (fun M11 N6 w13 hle11 S19 => .inl (run_indexM (C := (cdV 22)) c rfl rfl rfl sl43 (by first | rfl | omega) (hr10.mono hle11) (by first | omega | (simp only [List.length_set, List.length_append, List.length_replicate, List.length_singleton, List.length_cons, List.length_nil]; omega)))) ?_
              obtain ⟨hn6, hr11⟩ := hW4.2 c (by first | omega | (simp only [List.length_set, List.length_append, List.length_replicate, List.length_singleton, List.length_cons, List.length_nil]; omega))
              have rmhr11 : (ga (ga nn 0) c).length * 16 ≤ 140737488355328 := hr11.room
              refine wa_take (i := 6) (d := 61) 6 rfl (by kernel_rfl) (by kernel_rfl) (by kernel_rfl) rfl rfl rfl (fun M12 N7 w14 hle12 S20 => .inl (run_load1 rfl rfl Try.underlying22 rfl ((hr10.mono hle12).cell S20.m (i := c) (by first | omega | (simp only [List.length_set, List.length_append, List.length_replicate, List.length_singleton, List.length_cons, List.length_nil]; omega)) 0 rfl (congrArg (fun n => some (Value.slice _ n _)) hn6)))) ?_
              refine wa_takeP (i := 7) (d := 62) 5 rfl (by kernel_rfl) (by kernel_rfl) (by kernel_rfl) rfl rfl rfl (fun w15 => run_move rfl rfl) ?_
              refine wa_takeP (i := 10) (d := 65) 4 rfl (by kernel_rfl) (by kernel_rfl) (by kernel_rfl) rfl rfl rfl (fun w17 => run_move rfl rfl) ?_
              refine wa_only (i := 8) 3 rfl (by kernel_rfl) rfl rfl (fun w19 S25 => ?_)
              refine (wo_ct rfl rfl rfl rfl rfl rfl rfl cf32 S25 (ih q (by omega) _ _ _ lm _ _ _ _ hr9 hl2 hl3 (by rw [hlm, show r = q by omega, show (nn.drop 1).take q = nn.drop 1 by rw [← show (nn.drop 1).length = q by rw [List.length_drop]; omega, List.take_length]]; exact hsq.less (by omega)) S25.lend) ?_)
              intro vw20 w20 M17 hle17 S26 hRw20; clear S25
              replace hnn := hnn.mono hle17
              replace hdnn := hdnn.mono hle17
              replace h3nn := h3nn.mono hle17
              replace hacc := hacc.mono hle17
              replace hr2 := hr2.mono hle17
              replace hW1 := hW1.mono hle17
              replace hr3 := hr3.mono hle17
              replace hl2 := hl2.mono hle17
              replace hl3 := hl3.mono hle17
              replace hr9 := hr9.mono hle17
              replace hr10 := hr10.mono hle17
              replace hW4 := hW4.mono hle17
              replace hr11 := hr11.mono hle17
              obtain ⟨A5, c5, l1, rfl, hr12, hcan1, hbd1, hmk1⟩ := hRw20
              refine LeftW.grow [] (hle17) S26 ?_; clear S26
              change WA _ _ _ _ _ _ _ _ _ _ _ _ [_]
              refine wa_base ?_
              refine wa_only (i := 9) 2 rfl (by kernel_rfl) rfl rfl (fun w22 S28 => ?_)
              refine (wo_ct rfl rfl rfl rfl rfl rfl rfl cf19 S28 (Product_t (ga (ga nn 0) c) l1 hr11 hr12 (B) ((q * B)) ((hbd 0 (by omega) c (by omega))) (hbd1) ((by omega)) S28.lend) ?_)
              intro vw23 w23 M19 hle19 S29 hRw23; clear S28
              replace hnn := hnn.mono hle19
              replace hdnn := hdnn.mono hle19
              replace h3nn := h3nn.mono hle19
              replace hacc := hacc.mono hle19
              replace hr2 := hr2.mono hle19
              replace hW1 := hW1.mono hle19
              replace hr3 := hr3.mono hle19
              replace hl2 := hl2.mono hle19
              replace hl3 := hl3.mono hle19
              replace hr9 := hr9.mono hle19
              replace hr10 := hr10.mono hle19
              replace hW4 := hW4.mono hle19
              replace hr11 := hr11.mono hle19
              replace hr12 := hr12.mono hle19
              obtain ⟨A6, c6, l2, rfl, hr13, hcan2, hbd2, hmk2⟩ := hRw23
              refine LeftW.grow [] (hle19) S29 ?_; clear S29
              change WA _ _ _ _ _ _ _ _ _ _ _ _ [_]
              refine wa_base ?_
              refine wa_only (i := 11) 1 rfl (by kernel_rfl) rfl rfl (fun w25 S31 => ?_)
              refine (wo_ct rfl rfl rfl rfl rfl rfl rfl cf18 S31 (Sum_t acc l2 (sgI c) hacc hr13 (((q + 1) * B)) (hcc) (hbc) ((hbd2.mono (by omega))) ((by omega)) S31.lend) ?_)
              intro vw26 w26 M21 hle21 S32 hRw26; clear S31
              replace hnn := hnn.mono hle21
              replace hdnn := hdnn.mono hle21
              replace h3nn := h3nn.mono hle21
              replace hacc := hacc.mono hle21
              replace hr2 := hr2.mono hle21
              replace hW1 := hW1.mono hle21
              replace hr3 := hr3.mono hle21
              replace hl2 := hl2.mono hle21
              replace hl3 := hl3.mono hle21
              replace hr9 := hr9.mono hle21
              replace hr10 := hr10.mono hle21
              replace hW4 := hW4.mono hle21
              replace hr11 := hr11.mono hle21
              replace hr12 := hr12.mono hle21
              replace hr13 := hr13.mono hle21
              obtain ⟨A7, c7, l3, rfl, hr14, hcan3, hbd3, hmk3⟩ := hRw26
              refine LeftW.grow [] (hle21) S32 ?_; clear S32
              change WA _ _ _ _ _ _ _ _ _ _ _ _ [_]
              refine wa_base ?_
              refine wa_takeP (i := 12) (d := 3) 0 rfl (by kernel_rfl) (by kernel_rfl) (by kernel_rfl) rfl rfl rfl (fun w27 => run_assign rfl rfl) ?_
              refine wa_end (by kernel_rfl) (fun w28 S34 => ?_)
              refine nm_sub [(0, _), (3, _), (4, _), (5, _)] ⟨rfl, rfl, rfl, rfl, trivial⟩ ?_
              refine nm_thn ?_
              refine ws_region rfl ?_
              refine wl_op (k := 0) (k' := 1) rfl rfl rfl (wo_run rfl rfl (run_move rfl rfl) ?_)
              refine wl_op (k := 1) (k' := 2) rfl rfl rfl (wo_run rfl rfl (run_neg rfl rfl (by omega)) ?_)
              refine wl_op (k := 2) (k' := 3) rfl rfl rfl (wo_run rfl rfl (run_assign rfl rfl) ?_)
              refine wl_end rfl ?_
              refine nm_blk ?_
              refine nm_sub [(0, _), (3, _), (4, _), (5, _)] ⟨rfl, rfl, rfl, rfl, trivial⟩ ?_
              refine nm_thn ?_
              refine ws_eq 4 (.int .i64 (sgI (c + 1))) rfl (int_eq (sgI_succ c).symm) ?_
              refine ws_region rfl ?_
              refine wl_op (k := 0) (k' := 1) rfl rfl rfl (wo_run rfl rfl (run_move rfl rfl) ?_)
              refine wl_op (k := 1) (k' := 2) rfl rfl rfl (wo_run rfl rfl (run_add rfl rfl rfl (by first | omega | (simp only [List.length_set, List.length_append, List.length_replicate, List.length_singleton, List.length_cons, List.length_nil]; omega))) ?_)
              refine wl_op (k := 2) (k' := 3) rfl rfl rfl (wo_run rfl rfl (run_assign rfl rfl) ?_)
              refine wl_end rfl ?_
              refine nm_lp ?_
              intro ax_ hax_
              refine ⟨_, ?hq4m, ⟨c + 1, l3, A7, c7, _, (((((hle2.trans hle3).trans hle5).trans hle17).trans hle19).trans hle21), rfl, hax_.sub ⟨rfl, rfl, rfl, rfl, trivial⟩, S34.pick [] [] (by decide) trivial, ?hq4f0, ?hq4f1, ?hq4f2, ?hq4f3, ?hq4f4⟩⟩
              case hq4f0 => exact hr14
              case hq4f1 => omega
              case hq4f2 => exact hcan3
              case hq4f3 => exact hbd3
              case hq4f4 => (rw [hmk3, hmc, sg_sgI, sm, mkM_at (by omega) (by omega), hmk2, hmk1, hlm, show r = q by omega, show (nn.drop 1).take q = nn.drop 1 by rw [← show (nn.drop 1).length = q by rw [List.length_drop]; omega, List.take_length], mkM_less])
              case hq4m => omega
        · have hb27 := of_decide_eq_false hb27
          refine ws_skip rfl ?_
          refine nm_sub [(0, _), (3, _), (4, _), (5, _)] ⟨rfl, rfl, rfl, rfl, trivial⟩ ?_
          refine nm_thn ?_
          refine ws_region rfl ?_
          refine wl_op (k := 0) (k' := 1) rfl rfl rfl (wo_run rfl rfl (run_move rfl rfl) ?_)
          refine wl_op (k := 1) (k' := 2) rfl rfl rfl (wo_run rfl rfl (run_neg rfl rfl (by omega)) ?_)
          refine wl_op (k := 2) (k' := 3) rfl rfl rfl (wo_run rfl rfl (run_assign rfl rfl) ?_)
          refine wl_end rfl ?_
          refine nm_blk ?_
          refine nm_sub [(0, _), (3, _), (4, _), (5, _)] ⟨rfl, rfl, rfl, rfl, trivial⟩ ?_
          refine nm_thn ?_
          refine ws_eq 4 (.int .i64 (sgI (c + 1))) rfl (int_eq (sgI_succ c).symm) ?_
          refine ws_region rfl ?_
          refine wl_op (k := 0) (k' := 1) rfl rfl rfl (wo_run rfl rfl (run_move rfl rfl) ?_)
          refine wl_op (k := 1) (k' := 2) rfl rfl rfl (wo_run rfl rfl (run_add rfl rfl rfl (by first | omega | (simp only [List.length_set, List.length_append, List.length_replicate, List.length_singleton, List.length_cons, List.length_nil]; omega))) ?_)
          refine wl_op (k := 2) (k' := 3) rfl rfl rfl (wo_run rfl rfl (run_assign rfl rfl) ?_)
          refine wl_end rfl ?_
          refine nm_lp ?_
          intro ax_ hax_
          refine ⟨_, ?hq5m, ⟨c + 1, acc, Ao, co, _, (hle2), rfl, hax_.sub ⟨rfl, rfl, rfl, rfl, trivial⟩, S3.pick [] [] (by decide) trivial, ?hq5f0, ?hq5f1, ?hq5f2, ?hq5f3, ?hq5f4⟩⟩
          case hq5f0 => exact hacc
          case hq5f1 => omega
          case hq5f2 => exact hcc
          case hq5f3 => exact hbc
          case hq5f4 => (rw [sm, ← hmc, mkM_at (by omega) (by omega), List.eq_nil_of_length_eq_zero (show (ga (ga nn 0) c).length = 0 by omega)]; show _ = _ + sg c (Pol.o * _); rw [Pol.zero_mul, sg_o, Pol.add_zero])
          case hq5m => omega
      · have hb17 := of_decide_eq_false hb17
        refine ws_exit rfl rfl ?_
        refine nm_sub [(3, _)] ⟨rfl, trivial⟩ ?_
        refine nm_thn ?_
        refine ws_seqN RDet_n59 RDet_n60 rfl rfl rfl ?_
        refine ws_region rfl ?_
        refine wl_op (k := 0) (k' := 1) rfl rfl rfl (wo_run rfl rfl (run_move rfl rfl) ?_)
        refine wl_op (k := 1) (k' := 2) rfl rfl rfl (wo_run rfl rfl (run_assign rfl rfl) ?_)
        refine wl_end rfl ?_
        refine nm_sub [(2, _)] ⟨rfl, trivial⟩ ?_
        refine nm_thn ?_
        refine ws_ret hC [_] rfl rfl ⟨rfl, trivial⟩ ?_
        refine ⟨_, rfl, _, hle2, (S3.pick [] [] (by decide) trivial), ?_⟩
        obtain rfl : c = q + 1 := by omega
        exact ⟨_, _, _, rfl, hacc, hcc, hbc, hmc⟩

end Go.Proofs.Ytkcighnochjlgaa
