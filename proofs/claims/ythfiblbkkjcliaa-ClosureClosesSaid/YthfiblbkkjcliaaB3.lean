/- Walks printed by eng.py. -/
import Derived.Test.YthfiblbkkjcliaaB2
import Derived.Test.YthfiblbkkjcliaaE8
set_option linter.unusedSimpArgs false
set_option linter.unusedVariables false
namespace Go.Proofs.Ythfiblbkkjcliaa
open Go.ChangeShapes Go.WideShapes Go.ChangeAt Go.RowKit
/-- The places of i and of i + 1 change what they hold. -/
def plL (xs : List Int) (i : Int) : Nat := (idxF (fun x => decide (x = i)) xs).toNat
def thenL (xs : List Int) (i : Int) : List Int := (xs.set (plL xs i) (ga xs (plL xs (i + 1)))).set (plL xs (i + 1)) (ga xs (plL xs i))
def idL (n : Nat) : List Int := (List.range (n + 1)).map (fun (i : Nat) => (i : Int))
theorem idxF_in {v : Int} {xs : List Int} (h : v ∈ xs) : 0 ≤ idxF (fun x => decide (x = v)) xs ∧ idxF (fun x => decide (x = v)) xs < xs.length := by
  have h1 : decide (0 ≤ idxF (fun x => decide (x = v)) xs) = true := by rw [idxF_any, List.any_eq_true]; exact ⟨v, h, by simp⟩
  refine ⟨of_decide_eq_true h1, ?_⟩
  unfold idxF
  split
  · rename_i i e
    rw [List.findIdx?_eq_some_iff_getElem] at e
    obtain ⟨h2, _⟩ := e
    omega
  · omega

noncomputable def identity_n0 : Code := Try.f23.body.getD .skip
noncomputable def identity_n1 : Code := cL identity_n0
noncomputable def identity_n2 : Code := cR identity_n0
noncomputable def identity_n3 : Code := cL identity_n2
noncomputable def identity_n4 : Code := cR identity_n2
noncomputable def identity_n5 : Code := cL identity_n4
noncomputable def identity_n6 : Code := cR identity_n4
noncomputable def identity_n7 : Code := cL identity_n5
noncomputable def identity_n8 : Code := cR identity_n5
noncomputable def identity_n9 : Code := cL identity_n8
noncomputable def identity_n10 : Code := cL identity_n9
noncomputable def identity_n11 : Code := cL identity_n10
noncomputable def identity_n12 : Code := cR identity_n10
noncomputable def identity_n13 : Code := cL identity_n12
noncomputable def identity_n14 : Code := cR identity_n12
noncomputable def identity_n15 : Code := cL identity_n13
noncomputable def identity_n16 : Code := cR identity_n13
noncomputable def identity_n17 : Code := cL identity_n14
noncomputable def identity_n18 : Code := cR identity_n14
noncomputable def identity_n19 : Code := cL identity_n17
noncomputable def identity_n20 : Code := cL identity_n19
noncomputable def identity_n21 : Code := cR identity_n19
noncomputable def identity_n22 : Code := cL identity_n6
noncomputable def identity_n23 : Code := cR identity_n6
set_option maxRecDepth 10000 in
theorem identity_o {w : World} {M : Hp} {X : Fr} (n : Nat) (hn : n ≤ 6) (S : SH w M X []) : Co Try.prog 23 [.int .i64 (n : Int)] w M X (fun u N => N = [Rs.row cdInt u (idL n)]) := by
  unfold Co
  have hrep : (List.replicate (n + 1) cdInt.z).length = n + 1 := List.length_replicate
  refine calls_in (b := identity_n0) Try.func23 rfl Try.ntmps23 rfl (fun C hC => ?_)
  refine ws_sub [(0, _)] ⟨rfl, trivial⟩ ?_
  refine ws_seqN identity_n1 identity_n2 rfl rfl rfl ?_
  refine ws_region rfl ?_
  refine wl_op (k := 0) (k' := 1) rfl rfl rfl (wo_run rfl rfl (run_assign rfl rfl) ?_)
  refine wl_end rfl ?_
  refine nm_sub [(0, _)] ⟨rfl, trivial⟩ ?_
  refine nm_thn ?_
  refine ws_seqN identity_n3 identity_n4 rfl rfl rfl ?_
  refine ws_region rfl ?_
  refine wl_op (k := 0) (k' := 1) rfl rfl rfl (wo_run rfl rfl (run_move rfl rfl) ?_)
  refine wl_op (k := 1) (k' := 2) rfl rfl rfl (wo_run rfl rfl (run_add rfl rfl rfl (by first | omega | (simp only [List.length_set, List.length_append, List.length_replicate, List.length_singleton, List.length_cons, List.length_nil]; omega))) ?_)
  refine wl_op (k := 2) (k' := 3) rfl rfl rfl (wo_make (C := cdInt) (n + 1) rfl rfl rfl rfl rfl sl50 (by first | rfl | omega) (by show _ * 8 ≤ _; first | omega | (simp only [List.length_set, List.length_append, List.length_replicate, List.length_singleton, List.length_cons, List.length_nil]; omega)) S ?_)
  intro vr1 w1 S1; clear S
  refine wl_op (k := 3) (k' := 4) rfl rfl rfl (wo_run rfl rfl (run_assign rfl rfl) ?_)
  refine wl_end rfl ?_
  refine nm_sub [(3, _)] ⟨rfl, trivial⟩ ?_
  refine nm_thn ?_
  refine ws_seqN identity_n5 identity_n6 rfl rfl rfl ?_
  refine ws_seqN identity_n7 identity_n8 rfl rfl rfl ?_
  refine ws_region rfl ?_
  refine wl_op (k := 0) (k' := 1) rfl rfl rfl (wo_run rfl rfl (run_move rfl rfl) ?_)
  refine wl_op (k := 1) (k' := 2) rfl rfl rfl (wo_run rfl rfl (run_lenR (C := cdInt) (i := 0) rfl rfl rfl rfl rfl rfl sl50 S1 rfl) ?_)
  refine wl_op (k := 2) (k' := 3) rfl rfl rfl (wo_run rfl rfl (run_move rfl rfl) ?_)
  refine wl_end rfl ?_
  refine nm_sub [(3, _), (9, _), (10, _)] ⟨rfl, rfl, rfl, trivial⟩ ?_
  refine nm_thn ?_
  refine ws_blockN identity_n9 0 rfl rfl rfl ?_
  refine ws_loopE (fun mx_ ax_ wx_ => ∃ (k : Nat) (acc : List Int) (vro : Value), mx_ = n + 1 - k ∧ Env 19 [(3, vro), (9, .int .i64 ((List.replicate (n + 1) cdInt.z).length : Int)), (10, .int .i64 (k : Int))] ax_ ∧ SH wx_ M X [Rs.row cdInt vro acc] ∧ k ≤ n + 1 ∧ acc.length = n + 1 ∧ (∀ j, j < k → ga acc j = (j : Int))) rfl ?_ ?_
  · intro ax_ hax_
    refine ⟨_, ⟨0, _, _, rfl, hax_.sub ⟨rfl, rfl, rfl, trivial⟩, S1.pick [0] [_] (by decide) ⟨rfl, trivial⟩, ?hq1f0, ?hq1f1, ?hq1f2⟩⟩
    case hq1f0 => omega
    case hq1f1 => simp
    case hq1f2 => (intro j h1; omega)
  · rintro m1 a1 w2 ⟨k, acc, vro, rfl, he1, S2, hk, hal, hg⟩
    clear S1
    refine ws_in he1 (c := identity_n10) rfl ?_
    clear he1 a1
    refine ws_seqN identity_n11 identity_n12 rfl rfl rfl ?_
    refine ws_region rfl ?_
    refine wl_op (k := 0) (k' := 1) rfl rfl rfl (wo_run rfl rfl (run_lss rfl rfl rfl) ?_)
    refine wl_end rfl ?_
    refine nm_thn ?_
    refine ws_seqN identity_n13 identity_n14 rfl rfl rfl ?_
    refine ws_condN identity_n15 identity_n16 rfl rfl rfl rfl (fun hb11 => ?_) (fun hb11 => ?_)
    · have hb11 := of_decide_eq_true hb11
      refine ws_skip rfl ?_
      refine nm_sub [(3, _), (9, _), (10, _)] ⟨rfl, rfl, rfl, trivial⟩ ?_
      refine nm_thn ?_
      refine ws_seqN identity_n17 identity_n18 rfl rfl rfl ?_
      refine ws_blockN identity_n19 1 rfl rfl rfl ?_
      refine ws_seqN identity_n20 identity_n21 rfl rfl rfl ?_
      refine ws_region rfl ?_
      refine wl_op (k := 0) (k' := 1) rfl rfl rfl (wo_run rfl rfl (run_move rfl rfl) ?_)
      refine wl_op (k := 1) (k' := 2) rfl rfl rfl (wo_run rfl rfl (run_assign rfl rfl) ?_)
      refine wl_end rfl ?_
      refine nm_sub [(3, _), (9, _), (10, _), (4, _)] ⟨rfl, rfl, rfl, rfl, trivial⟩ ?_
      refine nm_thn ?_
      refine ws_region rfl ?_
      refine wl_op (k := 0) (k' := 1) rfl rfl rfl (wo_run rfl rfl (run_move rfl rfl) ?_)
      refine wl_op (k := 1) (k' := 2) rfl rfl rfl (wo_run rfl rfl (run_move rfl rfl) ?_)
      refine wl_op (k := 2) (k' := 3) rfl rfl rfl (wo_run rfl rfl (run_move rfl rfl) ?_)
      refine wl_op (k := 3) (k' := 4) rfl rfl rfl (wo_run rfl rfl (run_indexR (C := cdInt) (i := 0) k rfl rfl rfl sl50 S2 rfl (by first | rfl | omega) (by first | omega | (simp only [List.length_set, List.length_append, List.length_replicate, List.length_singleton, List.length_cons, List.length_nil]; omega))) ?_)
      refine wl_op (k := 4) (k' := 5) rfl rfl rfl (wo_storeR (C := cdInt) (i := 0) (e := k) (j := 0) (us := [_]) (H' := [_]) (k : Int) rfl rfl S2 rfl (by first | omega | (simp only [List.length_set, List.length_append, List.length_replicate, List.length_singleton, List.length_cons, List.length_nil]; omega)) rfl rfl rfl sz3 rfl rfl rfl rfl ?_)
      intro w3 S3; clear S2
      refine wl_end rfl ?_
      refine nm_blk ?_
      refine nm_sub [(3, _), (9, _), (10, _)] ⟨rfl, rfl, rfl, trivial⟩ ?_
      refine nm_thn ?_
      refine ws_region rfl ?_
      refine wl_op (k := 0) (k' := 1) rfl rfl rfl (wo_run rfl rfl (run_add rfl rfl rfl (by first | omega | (simp only [List.length_set, List.length_append, List.length_replicate, List.length_singleton, List.length_cons, List.length_nil]; omega))) ?_)
      refine wl_op (k := 1) (k' := 2) rfl rfl rfl (wo_run rfl rfl (run_move rfl rfl) ?_)
      refine wl_end rfl ?_
      refine nm_lp ?_
      intro ax_ hax_
      refine ⟨_, ?hq2m, ⟨k + 1, _, _, rfl, hax_.sub ⟨rfl, rfl, rfl, trivial⟩, S3.pick [0] [_] (by decide) ⟨rfl, trivial⟩, ?hq2f0, ?hq2f1, ?hq2f2⟩⟩
      case hq2f0 => first | assumption | omega
      case hq2f1 => simpa using hal
      case hq2f2 => (intro j h1; rw [ga_set _ _ _ _ (by omega)]; split; (rename_i e; rw [e]); exact hg j (by omega))
      case hq2m => omega
    · have hb11 := of_decide_eq_false hb11
      refine ws_exit rfl rfl ?_
      refine nm_sub [(3, _)] ⟨rfl, trivial⟩ ?_
      refine nm_thn ?_
      refine ws_seqN identity_n22 identity_n23 rfl rfl rfl ?_
      refine ws_region rfl ?_
      refine wl_op (k := 0) (k' := 1) rfl rfl rfl (wo_run rfl rfl (run_move rfl rfl) ?_)
      refine wl_op (k := 1) (k' := 2) rfl rfl rfl (wo_run rfl rfl (run_assign rfl rfl) ?_)
      refine wl_end rfl ?_
      refine nm_sub [(2, _)] ⟨rfl, trivial⟩ ?_
      refine nm_thn ?_
      have e : acc = idL n := ga_ext (by rw [hal]; simp [idL]) fun i hi => by rw [hg i (by omega), ga_eq (by simp [idL]; omega)]; simp [idL]
      subst e
      refine ws_ret hC [_] rfl rfl ⟨rfl, trivial⟩ ?_
      exact ⟨_, rfl, _, S2.pick [0] [_] (by decide) ⟨rfl, trivial⟩, rfl⟩

noncomputable def thenP_n0 : Code := Try.f24.body.getD .skip
noncomputable def thenP_n1 : Code := cL thenP_n0
noncomputable def thenP_n2 : Code := cR thenP_n0
set_option maxRecDepth 10000 in
theorem thenP_w {w : World} {M : Hp} {X : Fr} (vp : Value) (p : List Int) (i : Int) (h1 : i ∈ p) (h2 : i + 1 ∈ p) (hpl : p.length ≤ 7) (hib : 0 ≤ i ∧ i ≤ 6) (S : SH w M X [Rs.row cdInt vp p]) : C1 Try.prog 24 [vp, .int .i64 i] w M X (fun u M' r' => u = tup [] ∧ M' = M ∧ r' = Rs.row cdInt vp (thenL p i)) := by
  unfold C1
  have hj := idxF_in h1
  have hk := idxF_in h2
  refine calls_in (b := thenP_n0) Try.func24 rfl Try.ntmps24 rfl (fun C hC => ?_)
  refine ws_sub [(0, _), (1, _)] ⟨rfl, rfl, trivial⟩ ?_
  refine ws_seqN thenP_n1 thenP_n2 rfl rfl rfl ?_
  refine ws_region rfl ?_
  refine wl_op (k := 0) (k' := 1) rfl rfl rfl (wo_run rfl rfl (run_move rfl rfl) ?_)
  refine wl_op (k := 1) (k' := 2) rfl rfl rfl (wo_run rfl rfl (run_move rfl rfl) ?_)
  obtain ⟨A1, c1, e1, hr1⟩ := S.lendRd (i := 0) rfl (by show _ * 8 ≤ _; first | omega | (simp only [List.length_set, List.length_append, List.length_replicate, List.length_singleton, List.length_cons, List.length_nil]; omega))
  have hcall1 := IndexP_q p i hr1 S.lend
  refine wl_op (k := 2) (k' := 3) rfl rfl rfl (wo_cq rfl rfl rfl rfl rfl rfl rfl cf41 S (Cq.cast (by simp only [e1]) (hcall1)) ?_)
  rintro _ w1 S1 rfl; clear S
  refine wl_op (k := 3) (k' := 4) rfl rfl rfl (wo_run rfl rfl (run_move rfl rfl) ?_)
  refine wl_op (k := 4) (k' := 5) rfl rfl rfl (wo_run rfl rfl (run_move rfl rfl) ?_)
  refine wl_op (k := 5) (k' := 6) rfl rfl rfl (wo_run rfl rfl (run_add rfl rfl rfl (by first | omega | (simp only [List.length_set, List.length_append, List.length_replicate, List.length_singleton, List.length_cons, List.length_nil]; omega))) ?_)
  obtain ⟨A2, c2, e2, hr2⟩ := S1.lendRd (i := 0) rfl (by show _ * 8 ≤ _; first | omega | (simp only [List.length_set, List.length_append, List.length_replicate, List.length_singleton, List.length_cons, List.length_nil]; omega))
  have hcall2 := IndexP_q p (i + 1) hr2 S1.lend
  refine wl_op (k := 6) (k' := 7) rfl rfl rfl (wo_cq rfl rfl rfl rfl rfl rfl rfl cf41 S1 (Cq.cast (by simp only [e2]) (hcall2)) ?_)
  rintro _ w2 S2 rfl; clear S1
  refine wl_op (k := 7) (k' := 8) rfl rfl rfl (wo_run rfl rfl (run_assign rfl rfl) ?_)
  refine wl_op (k := 8) (k' := 9) rfl rfl rfl (wo_run rfl rfl (run_assign rfl rfl) ?_)
  refine wl_end rfl ?_
  refine nm_sub [(0, _), (4, _), (5, _)] ⟨rfl, rfl, rfl, trivial⟩ ?_
  refine nm_thn ?_
  refine ws_draw rfl (by kernel_rfl) S2 16 rfl ?_
  clear S2
  refine wa_takeP (i := 0) (d := 13) 15 rfl (by kernel_rfl) (by kernel_rfl) (by kernel_rfl) rfl rfl rfl (fun w3 => run_move rfl rfl) ?_
  refine wa_takeP (i := 1) (d := 14) 14 rfl (by kernel_rfl) (by kernel_rfl) (by kernel_rfl) rfl rfl rfl (fun w4 => run_move rfl rfl) ?_
  refine wa_takeP (i := 2) (d := 15) 13 rfl (by kernel_rfl) (by kernel_rfl) (by kernel_rfl) rfl rfl rfl (fun w5 => run_move rfl rfl) ?_
  refine wa_takeP (i := 3) (d := 16) 12 rfl (by kernel_rfl) (by kernel_rfl) (by kernel_rfl) rfl rfl rfl (fun w6 => run_move rfl rfl) ?_
  refine wa_takeP (i := 4) (d := 17) 11 rfl (by kernel_rfl) (by kernel_rfl) (by kernel_rfl) rfl rfl rfl (fun w7 => run_move rfl rfl) ?_
  refine wa_takeP (i := 5) (d := 18) 10 rfl (by kernel_rfl) (by kernel_rfl) (by kernel_rfl) rfl rfl rfl (fun w8 => run_move rfl rfl) ?_
  refine wa_take (i := 6) (d := 19) 9 rfl (by kernel_rfl) (by kernel_rfl) (by kernel_rfl) rfl rfl rfl (fun M7 N7 w9 hle7 S9 => .inl (run_indexR (C := cdInt) (i := 0) ((idxF (fun x => decide (x = i + 1)) p).toNat) rfl rfl rfl sl50 S9.suf rfl (by first | rfl | omega) (by first | omega | (simp only [List.length_set, List.length_append, List.length_replicate, List.length_singleton, List.length_cons, List.length_nil]; omega)))) ?_
  refine wa_take (i := 7) (d := 20) 8 rfl (by kernel_rfl) (by kernel_rfl) (by kernel_rfl) rfl rfl rfl (fun M8 N8 w10 hle8 S10 => .inl (run_load1 rfl rfl Try.underlying3 rfl (S10.suf.rowc (i := 0) (e := (idxF (fun x => decide (x = i + 1)) p).toNat) (j := 0) rfl (by first | omega | (simp only [List.length_set, List.length_append, List.length_replicate, List.length_singleton, List.length_cons, List.length_nil]; omega)) rfl rfl))) ?_
  refine wa_takeP (i := 8) (d := 21) 7 rfl (by kernel_rfl) (by kernel_rfl) (by kernel_rfl) rfl rfl rfl (fun w11 => run_move rfl rfl) ?_
  refine wa_takeP (i := 9) (d := 22) 6 rfl (by kernel_rfl) (by kernel_rfl) (by kernel_rfl) rfl rfl rfl (fun w12 => run_move rfl rfl) ?_
  refine wa_take (i := 10) (d := 23) 5 rfl (by kernel_rfl) (by kernel_rfl) (by kernel_rfl) rfl rfl rfl (fun M11 N11 w13 hle11 S13 => .inl (run_indexR (C := cdInt) (i := 0) ((idxF (fun x => decide (x = i)) p).toNat) rfl rfl rfl sl50 S13.suf rfl (by first | rfl | omega) (by first | omega | (simp only [List.length_set, List.length_append, List.length_replicate, List.length_singleton, List.length_cons, List.length_nil]; omega)))) ?_
  refine wa_take (i := 11) (d := 24) 4 rfl (by kernel_rfl) (by kernel_rfl) (by kernel_rfl) rfl rfl rfl (fun M12 N12 w14 hle12 S14 => .inl (run_load1 rfl rfl Try.underlying3 rfl (S14.suf.rowc (i := 0) (e := (idxF (fun x => decide (x = i)) p).toNat) (j := 0) rfl (by first | omega | (simp only [List.length_set, List.length_append, List.length_replicate, List.length_singleton, List.length_cons, List.length_nil]; omega)) rfl rfl))) ?_
  refine wa_take (i := 12) (d := 25) 3 rfl (by kernel_rfl) (by kernel_rfl) (by kernel_rfl) rfl rfl rfl (fun M13 N13 w15 hle13 S15 => .inl (run_indexR (C := cdInt) (i := 0) ((idxF (fun x => decide (x = i)) p).toNat) rfl rfl rfl sl50 S15.suf rfl (by first | rfl | omega) (by first | omega | (simp only [List.length_set, List.length_append, List.length_replicate, List.length_singleton, List.length_cons, List.length_nil]; omega)))) ?_
  refine wa_only (i := 13) 2 rfl (by kernel_rfl) rfl rfl (fun w17 S17 => ?_)
  refine (wo_storeR (C := cdInt) (i := 0) (e := (idxF (fun x => decide (x = i)) p).toNat) (j := 0) (us := [_]) (H' := [_]) (ga p ((idxF (fun x => decide (x = i + 1)) p).toNat)) rfl rfl S17 rfl (by first | omega | (simp only [List.length_set, List.length_append, List.length_replicate, List.length_singleton, List.length_cons, List.length_nil]; omega)) rfl rfl rfl sz3 rfl rfl rfl rfl ?_)
  intro w18 S18; clear S17
  refine LeftW.turn (by kernel_rfl) S18 ?_; clear S18
  change WA _ _ _ _ _ _ _ _ _ _ _ _ [_]
  refine wa_take (i := 14) (d := 26) 1 rfl (by kernel_rfl) (by kernel_rfl) (by kernel_rfl) rfl rfl rfl (fun M15 N15 w19 hle15 S19 => .inl (run_indexR (C := cdInt) (i := 0) ((idxF (fun x => decide (x = i + 1)) p).toNat) rfl rfl rfl sl50 S19.suf rfl (by first | rfl | omega) (by first | omega | (simp only [List.length_set, List.length_append, List.length_replicate, List.length_singleton, List.length_cons, List.length_nil]; omega)))) ?_
  refine wa_only (i := 15) 0 rfl (by kernel_rfl) rfl rfl (fun w21 S21 => ?_)
  refine (wo_storeR (C := cdInt) (i := 0) (e := (idxF (fun x => decide (x = i + 1)) p).toNat) (j := 0) (us := [_]) (H' := [_]) (ga p ((idxF (fun x => decide (x = i)) p).toNat)) rfl rfl S21 rfl (by first | omega | (simp only [List.length_set, List.length_append, List.length_replicate, List.length_singleton, List.length_cons, List.length_nil]; omega)) rfl rfl rfl sz3 rfl rfl rfl rfl ?_)
  intro w22 S22; clear S21
  refine LeftW.turn (by kernel_rfl) S22 ?_; clear S22
  change WA _ _ _ _ _ _ _ _ _ _ _ _ [_]
  refine wa_end (by kernel_rfl) (fun w23 S23 => ?_)
  refine nm_end hC [] rfl trivial ?_
  exact ⟨_, rfl, _, _, Hp.le_refl _, S23.pick [0] [_] (by decide) ⟨rfl, trivial⟩, ⟨rfl, rfl, rfl⟩⟩

noncomputable def CloneP_n0 : Code := Try.f25.body.getD .skip
noncomputable def CloneP_n1 : Code := cL CloneP_n0
noncomputable def CloneP_n2 : Code := cR CloneP_n0
noncomputable def CloneP_n3 : Code := cL CloneP_n2
noncomputable def CloneP_n4 : Code := cR CloneP_n2
noncomputable def CloneP_n5 : Code := cL CloneP_n3
noncomputable def CloneP_n6 : Code := cR CloneP_n3
noncomputable def CloneP_n7 : Code := cL CloneP_n6
noncomputable def CloneP_n8 : Code := cR CloneP_n6
noncomputable def CloneP_n9 : Code := cL CloneP_n7
noncomputable def CloneP_n10 : Code := cR CloneP_n7
noncomputable def CloneP_n11 : Code := cL CloneP_n4
noncomputable def CloneP_n12 : Code := cR CloneP_n4
set_option maxRecDepth 10000 in
theorem CloneP_t {w : World} {M : Hp} {X : Fr} (s : List Int) {sA : Option Addr} {sc : Nat} (hs : RdA cdInt (M.un X.h) sA sc s) (S : SH w M X []) : Ct Try.prog 25 [.slice sA s.length sc] w M X (IsE s) := by
  unfold Ct
  have rmhs : s.length * 8 ≤ 140737488355328 := hs.room
  refine calls_in (b := CloneP_n0) Try.func25 rfl Try.ntmps25 rfl (fun C hC => ?_)
  refine ws_sub [(0, _)] ⟨rfl, trivial⟩ ?_
  refine ws_seqN CloneP_n1 CloneP_n2 rfl rfl rfl ?_
  refine ws_region rfl ?_
  refine wl_op (k := 0) (k' := 1) rfl rfl rfl (wo_run rfl rfl (run_assign rfl rfl) ?_)
  refine wl_end rfl ?_
  refine nm_sub [(0, _)] ⟨rfl, trivial⟩ ?_
  refine nm_thn ?_
  refine ws_seqN CloneP_n3 CloneP_n4 rfl rfl rfl ?_
  refine ws_seqN CloneP_n5 CloneP_n6 rfl rfl rfl ?_
  refine ws_region rfl ?_
  refine wl_op (k := 0) (k' := 1) rfl rfl rfl (wo_run rfl rfl (run_move rfl rfl) ?_)
  refine wl_op (k := 1) (k' := 2) rfl rfl rfl (wo_run rfl rfl (run_eqlNil rfl rfl rfl Try.underlying50) ?_)
  refine wl_end rfl ?_
  refine nm_sub [(0, _), (4, _)] ⟨rfl, rfl, trivial⟩ ?_
  refine nm_thn ?_
  refine ws_condN CloneP_n7 CloneP_n8 rfl rfl rfl rfl (fun hb4 => ?_) (fun hb4 => ?_)
  · refine ws_seqN CloneP_n9 CloneP_n10 rfl rfl rfl ?_
    refine ws_region rfl ?_
    refine wl_op (k := 0) (k' := 1) rfl rfl rfl (wo_run rfl rfl (run_assign rfl rfl) ?_)
    refine wl_end rfl ?_
    refine nm_sub [(2, _)] ⟨rfl, trivial⟩ ?_
    refine nm_thn ?_
    refine ws_ret hC [_] rfl rfl ⟨rfl, trivial⟩ ?_
    refine ⟨_, rfl, _, Hp.le_refl _, (S.pick [] [] (by decide) trivial), ?_⟩
    obtain rfl : s = [] := nil_of_none hs hb4
    exact ⟨_, _, rfl, RdA.nil_⟩
  · refine ws_skip rfl ?_
    refine nm_sub [(0, _)] ⟨rfl, trivial⟩ ?_
    refine nm_thn ?_
    refine ws_seqN CloneP_n11 CloneP_n12 rfl rfl rfl ?_
    refine ws_region rfl ?_
    refine wl_op (k := 0) (k' := 1) rfl rfl rfl (wo_buildSlice0 (C := cdInt) rfl rfl rfl rfl sl50 S ?_)
    intro vr1 w1 S1; clear S
    refine wl_op (k := 1) (k' := 2) rfl rfl rfl (wo_run rfl rfl (run_move rfl rfl) ?_)
    refine wl_op (k := 2) (k' := 3) rfl rfl rfl (wo_appendM (C := cdInt) (i := 0) rfl rfl rfl rfl rfl rfl rfl rfl sl50 S1 rfl hs S1.um (by have h : _ * 8 ≤ _ := hs.room; show (0 + _) * 8 ≤ _; first | omega | (simp only [List.length_set, List.length_append, List.length_replicate, List.length_singleton, List.length_cons, List.length_nil]; omega)) ?_)
    intro vr2 w2 S2; clear S1
    change SH _ _ _ [Rs.row cdInt vr2 s] at S2
    refine wl_op (k := 3) (k' := 4) rfl rfl rfl (wo_run rfl rfl (run_assign rfl rfl) ?_)
    refine wl_end rfl ?_
    refine nm_sub [(2, _)] ⟨rfl, trivial⟩ ?_
    refine nm_thn ?_
    obtain ⟨M1, hle1, S3, ⟨A1, c1, e1, hr1⟩⟩ := S2.pubrow (i := 0) (H' := [_]) rfl rfl (by show _ * 8 ≤ _; first | omega | (simp only [List.length_set, List.length_append, List.length_replicate, List.length_singleton, List.length_cons, List.length_nil]; omega))
    clear S2; subst e1
    replace hs := hs.mono (Hp.un_mono hle1 S3.mx)
    refine ws_ret hC [_] rfl rfl ⟨rfl, trivial⟩ ?_
    refine ⟨_, rfl, _, hle1, (S3.pick [] [] (by decide) trivial), ?_⟩
    exact ⟨_, _, rfl, hr1⟩

def endsP (n : Nat) (w : List Int) : List Int := w.foldl (fun p a => thenL p (max a (-a))) (idL n)
def endsR (n : Int) (w : List Int) : List Int × Int := if checkI n [w] = 0 then ((endsP n.toNat w).drop 1, 0) else ([], checkI n [w])
def EndsE (r : List Int × Int) (u : Value) (M : Hp) : Prop := ∃ A c, u = tup [.slice A r.1.length c, .int .i64 r.2] ∧ RdA cdInt M A c r.1
theorem endsP_take (n : Nat) (w : List Int) (k : Nat) (h : k < w.length) : endsP n (w.take (k + 1)) = thenL (endsP n (w.take k)) (max (ga w k) (-(ga w k))) := by
  unfold endsP; rw [take_ga _ _ h, List.foldl_append]; rfl
theorem check_ok {n : Int} {w : List Int} (h : checkI n [w] = 0) : 2 ≤ n ∧ n ≤ 6 ∧ w.length ≤ 20 ∧ ∀ i, i < w.length → (1 ≤ max (ga w i) (-(ga w i)) ∧ max (ga w i) (-(ga w i)) < n) := by
  unfold checkI at h
  split at h
  · cases h
  · rename_i h1
    split at h
    · cases h
    · rename_i h2
      split at h
      · cases h
      · rename_i h3
        simp only [List.any_cons, List.any_nil, Bool.or_false, decide_eq_true_iff] at h2 h3
        refine ⟨by omega, by omega, by omega, fun i hi => ?_⟩
        have h4 : wrongB n (ga w i) = false := by
          rw [Bool.not_eq_true, List.any_eq_false] at h2
          have := h2 _ (ga_mem hi)
          simpa using this
        unfold wrongB at h4
        rw [decide_eq_false_iff_not] at h4
        omega
/-- A list that holds the numbers up to n. -/
def holds (n : Nat) (p : List Int) : Prop := p.length = n + 1 ∧ ∀ j : Nat, j ≤ n → (j : Int) ∈ p
theorem holds_id (n : Nat) : holds n (idL n) := by
  refine ⟨by simp [idL], fun j hj => ?_⟩
  unfold idL
  rw [List.mem_map]
  exact ⟨j, by simp; omega, rfl⟩
theorem holds_then {n : Nat} {p : List Int} (h : holds n p) {i : Int} (h1 : 0 ≤ i ∧ i < n) : holds n (thenL p i) := by
  obtain ⟨hl, hm⟩ := h
  have e1 : i ∈ p := by have := hm i.toNat (by omega); rwa [show ((i.toNat : Nat) : Int) = i by omega] at this
  have e2 : i + 1 ∈ p := by have := hm (i.toNat + 1) (by omega); rwa [show ((i.toNat + 1 : Nat) : Int) = i + 1 by omega] at this
  have b1 := idxF_in e1
  have b2 := idxF_in e2
  refine ⟨by simp [thenL, hl], fun j hj => ?_⟩
  obtain ⟨q, hq, hqe⟩ := List.mem_iff_getElem.1 (hm j hj)
  rw [← ga_eq hq] at hqe
  have ha : plL p i < p.length := by unfold plL; omega
  have hb : plL p (i + 1) < p.length := by unfold plL; omega
  have key : ∃ r, r < (thenL p i).length ∧ ga (thenL p i) r = (j : Int) := by
    by_cases c1 : q = plL p i
    · refine ⟨plL p (i + 1), by simp [thenL]; omega, ?_⟩
      unfold thenL
      rw [ga_set _ _ _ _ (by simpa using hb), if_pos rfl, ← c1]; exact hqe
    · by_cases c2 : q = plL p (i + 1)
      · refine ⟨plL p i, by simp [thenL]; omega, ?_⟩
        unfold thenL
        rw [ga_set _ _ _ _ (by simpa using hb)]
        split
        · rename_i c3; rw [← c3, ← c2]; exact hqe
        · rw [ga_set _ _ _ _ ha, if_pos rfl, ← c2]; exact hqe
      · refine ⟨q, by simp [thenL]; omega, ?_⟩
        unfold thenL
        rw [ga_set _ _ _ _ (by simpa using hb), if_neg (Ne.symm c2), ga_set _ _ _ _ ha, if_neg (Ne.symm c1)]; exact hqe
  obtain ⟨r, hr, e⟩ := key
  rw [← e]; exact ga_mem hr
theorem holds_mem {n : Nat} {p : List Int} (h : holds n p) {i : Int} (h1 : 0 ≤ i ∧ i ≤ n) : i ∈ p := by
  have := h.2 i.toNat (by omega); rwa [show ((i.toNat : Nat) : Int) = i by omega] at this

noncomputable def Ends_n0 : Code := Try.f7.body.getD .skip
noncomputable def Ends_n1 : Code := cL Ends_n0
noncomputable def Ends_n2 : Code := cR Ends_n0
noncomputable def Ends_n3 : Code := cL Ends_n2
noncomputable def Ends_n4 : Code := cR Ends_n2
noncomputable def Ends_n5 : Code := cL Ends_n3
noncomputable def Ends_n6 : Code := cR Ends_n3
noncomputable def Ends_n7 : Code := cL Ends_n6
noncomputable def Ends_n8 : Code := cR Ends_n6
noncomputable def Ends_n9 : Code := cL Ends_n8
noncomputable def Ends_n10 : Code := cR Ends_n8
noncomputable def Ends_n11 : Code := cL Ends_n9
noncomputable def Ends_n12 : Code := cR Ends_n9
noncomputable def Ends_n13 : Code := cL Ends_n4
noncomputable def Ends_n14 : Code := cR Ends_n4
noncomputable def Ends_n15 : Code := cL Ends_n14
noncomputable def Ends_n16 : Code := cR Ends_n14
noncomputable def Ends_n17 : Code := cL Ends_n15
noncomputable def Ends_n18 : Code := cR Ends_n15
noncomputable def Ends_n19 : Code := cL Ends_n18
noncomputable def Ends_n20 : Code := cL Ends_n19
noncomputable def Ends_n21 : Code := cL Ends_n20
noncomputable def Ends_n22 : Code := cR Ends_n20
noncomputable def Ends_n23 : Code := cL Ends_n22
noncomputable def Ends_n24 : Code := cR Ends_n22
noncomputable def Ends_n25 : Code := cL Ends_n23
noncomputable def Ends_n26 : Code := cR Ends_n23
noncomputable def Ends_n27 : Code := cL Ends_n24
noncomputable def Ends_n28 : Code := cR Ends_n24
noncomputable def Ends_n29 : Code := cL Ends_n27
noncomputable def Ends_n30 : Code := cL Ends_n29
noncomputable def Ends_n31 : Code := cR Ends_n29
noncomputable def Ends_n32 : Code := cL Ends_n16
noncomputable def Ends_n33 : Code := cR Ends_n16
set_option maxRecDepth 10000 in
theorem Ends_t {w : World} {M : Hp} {X : Fr} (n : Int) (l : List Int) {lA : Option Addr} {lc : Nat} (hl : RdA cdInt (M.un X.h) lA lc l) (S : SH w M X []) : Ct Try.prog 7 [.int .i64 n, .slice lA l.length lc] w M X (EndsE (endsR n l)) := by
  unfold Ct
  have rmhl : l.length * 8 ≤ 140737488355328 := hl.room
  refine calls_in (b := Ends_n0) Try.func7 rfl Try.ntmps7 rfl (fun C hC => ?_)
  refine ws_sub [(0, _), (1, _)] ⟨rfl, rfl, trivial⟩ ?_
  refine ws_seqN Ends_n1 Ends_n2 rfl rfl rfl ?_
  refine ws_region rfl ?_
  refine wl_op (k := 0) (k' := 1) rfl rfl rfl (wo_run rfl rfl (run_assign rfl rfl) ?_)
  refine wl_op (k := 1) (k' := 2) rfl rfl rfl (wo_run rfl rfl (run_assign rfl rfl) ?_)
  refine wl_end rfl ?_
  refine nm_sub [(0, _), (1, _)] ⟨rfl, rfl, trivial⟩ ?_
  refine nm_thn ?_
  refine ws_seqN Ends_n3 Ends_n4 rfl rfl rfl ?_
  refine ws_seqN Ends_n5 Ends_n6 rfl rfl rfl ?_
  refine ws_region rfl ?_
  refine wl_op (k := 0) (k' := 1) rfl rfl rfl (wo_run rfl rfl (run_move rfl rfl) ?_)
  refine wl_op (k := 1) (k' := 2) rfl rfl rfl (wo_run rfl rfl (run_move rfl rfl) ?_)
  refine wl_op (k := 2) (k' := 3) rfl rfl rfl (wo_buildSlice1 (C := (cdV 22)) (l := [_]) rfl rfl rfl rfl sl27 rfl rfl rfl rfl S ?_)
  intro gb1 w1 S1; clear S
  have hr1 := S1.lendBox (C := (cdV 22)) (z := (⟨lA, l.length, lc⟩ : SlV)) (i := 0) rfl rfl (by decide)
  have hd1 : Rd2 cdInt _ [(⟨lA, l.length, lc⟩ : SlV)] [l] := Rd2.nil_.snoc (hl.mono S1.un_XH)
  have hcall1 := Check_q n [l] hr1 hd1 S1.lend
  refine wl_op (k := 3) (k' := 4) rfl rfl rfl (wo_cq rfl rfl rfl rfl rfl rfl rfl cf22 S1 (hcall1) ?_)
  rintro _ w2 S2 rfl; clear S1
  refine wl_op (k := 4) (k' := 5) rfl rfl rfl (wo_run rfl rfl (run_assign rfl rfl) ?_)
  refine wl_end rfl ?_
  refine nm_sub [(0, _), (1, _), (6, _)] ⟨rfl, rfl, rfl, trivial⟩ ?_
  refine nm_thn ?_
  refine ws_seqN Ends_n7 Ends_n8 rfl rfl rfl ?_
  refine ws_region rfl ?_
  refine wl_op (k := 0) (k' := 1) rfl rfl rfl (wo_run rfl rfl (run_move rfl rfl) ?_)
  refine wl_op (k := 1) (k' := 2) rfl rfl rfl (wo_run rfl rfl (run_neq rfl rfl rfl) ?_)
  refine wl_end rfl ?_
  refine nm_sub [(0, _), (1, _), (6, _), (15, _)] ⟨rfl, rfl, rfl, rfl, trivial⟩ ?_
  refine nm_thn ?_
  refine ws_condN Ends_n9 Ends_n10 rfl rfl rfl rfl (fun hb15 => ?_) (fun hb15 => ?_)
  · have hb15 := of_decide_eq_true hb15
    refine ws_seqN Ends_n11 Ends_n12 rfl rfl rfl ?_
    refine ws_region rfl ?_
    refine wl_op (k := 0) (k' := 1) rfl rfl rfl (wo_run rfl rfl (run_move rfl rfl) ?_)
    refine wl_op (k := 1) (k' := 2) rfl rfl rfl (wo_run rfl rfl (run_assign rfl rfl) ?_)
    refine wl_op (k := 2) (k' := 3) rfl rfl rfl (wo_run rfl rfl (run_assign rfl rfl) ?_)
    refine wl_end rfl ?_
    refine nm_sub [(4, _), (5, _)] ⟨rfl, rfl, trivial⟩ ?_
    refine nm_thn ?_
    refine ws_ret hC [_, _] rfl rfl ⟨rfl, rfl, trivial⟩ ?_
    refine ⟨_, rfl, _, Hp.le_refl _, (S2.pick [] [] (by decide) trivial), ?_⟩
    unfold endsR
    rw [if_neg (by omega)]
    exact ⟨none, 0, rfl, RdA.nil_⟩
  · have hb15 := of_decide_eq_false hb15
    have hck : checkI n [l] = 0 := by omega
    obtain ⟨hn1, hn2, hwl, hwb⟩ := check_ok hck
    obtain ⟨m, rfl⟩ : ∃ m : Nat, n = (m : Int) := ⟨n.toNat, by omega⟩
    refine ws_skip rfl ?_
    refine nm_sub [(0, _), (1, _)] ⟨rfl, rfl, trivial⟩ ?_
    refine nm_thn ?_
    refine ws_seqN Ends_n13 Ends_n14 rfl rfl rfl ?_
    refine ws_region rfl ?_
    refine wl_op (k := 0) (k' := 1) rfl rfl rfl (wo_run rfl rfl (run_move rfl rfl) ?_)
    refine wl_op (k := 1) (k' := 2) rfl rfl rfl (wo_co rfl rfl rfl rfl rfl rfl rfl cf23 S2 (identity_o m (by omega) S2.lend) ?_)
    intro vw3 w3 Nw3 S3 hRw3; clear S2
    subst hRw3
    change SH _ _ _ [_, _] at S3
    refine wl_op (k := 2) (k' := 3) rfl rfl rfl (wo_run rfl rfl (run_assign rfl rfl) ?_)
    refine wl_end rfl ?_
    refine nm_sub [(1, _), (7, _)] ⟨rfl, rfl, trivial⟩ ?_
    refine nm_thn ?_
    refine ws_seqN Ends_n15 Ends_n16 rfl rfl rfl ?_
    refine ws_seqN Ends_n17 Ends_n18 rfl rfl rfl ?_
    refine ws_region rfl ?_
    refine wl_op (k := 0) (k' := 1) rfl rfl rfl (wo_run rfl rfl (run_move rfl rfl) ?_)
    refine wl_op (k := 1) (k' := 2) rfl rfl rfl (wo_run rfl rfl (run_len rfl rfl rfl rfl rfl rfl Try.underlying22) ?_)
    refine wl_op (k := 2) (k' := 3) rfl rfl rfl (wo_run rfl rfl (run_move rfl rfl) ?_)
    refine wl_end rfl ?_
    refine nm_sub [(7, _), (19, _), (20, _), (21, _)] ⟨rfl, rfl, rfl, rfl, trivial⟩ ?_
    refine nm_thn ?_
    refine ws_blockN Ends_n19 0 rfl rfl rfl ?_
    refine ws_loopE (fun mx_ ax_ wx_ => ∃ (k : Nat) (pl : List Int) (vrp : Value), mx_ = l.length - k ∧ Env 35 [(7, vrp), (19, .slice lA l.length lc), (20, .int .i64 (l.length : Int)), (21, .int .i64 (k : Int))] ax_ ∧ SH wx_ M X [Rs.row cdInt vrp pl] ∧ k ≤ l.length ∧ pl = endsP m (l.take k) ∧ holds m pl) rfl ?_ ?_
    · intro ax_ hax_
      refine ⟨_, ⟨0, _, _, rfl, hax_.sub ⟨rfl, rfl, rfl, rfl, trivial⟩, S3.pick [0] [_] (by decide) ⟨rfl, trivial⟩, ?hq1f0, ?hq1f1, ?hq1f2⟩⟩
      case hq1f0 => omega
      case hq1f1 => rfl
      case hq1f2 => exact holds_id m
    · rintro m1 a1 w4 ⟨k, pl, vrp, rfl, he1, S4, hk, hpe, hph⟩
      clear S3
      refine ws_in he1 (c := Ends_n20) rfl ?_
      clear he1 a1
      have hpl := hph.1
      have hwk := fun h => hwb k h
      refine ws_seqN Ends_n21 Ends_n22 rfl rfl rfl ?_
      refine ws_region rfl ?_
      refine wl_op (k := 0) (k' := 1) rfl rfl rfl (wo_run rfl rfl (run_lss rfl rfl rfl) ?_)
      refine wl_end rfl ?_
      refine nm_thn ?_
      refine ws_seqN Ends_n23 Ends_n24 rfl rfl rfl ?_
      refine ws_condN Ends_n25 Ends_n26 rfl rfl rfl rfl (fun hb22 => ?_) (fun hb22 => ?_)
      · have hb22 := of_decide_eq_true hb22
        refine ws_skip rfl ?_
        refine nm_sub [(7, _), (19, _), (20, _), (21, _)] ⟨rfl, rfl, rfl, rfl, trivial⟩ ?_
        refine nm_thn ?_
        refine ws_seqN Ends_n27 Ends_n28 rfl rfl rfl ?_
        refine ws_blockN Ends_n29 1 rfl rfl rfl ?_
        refine ws_seqN Ends_n30 Ends_n31 rfl rfl rfl ?_
        refine ws_region rfl ?_
        refine wl_op (k := 0) (k' := 1) rfl rfl rfl (wo_run rfl rfl (run_indexM (C := cdInt) k rfl rfl rfl sl22 (by first | rfl | omega) hl (by first | omega | (simp only [List.length_set, List.length_append, List.length_replicate, List.length_singleton, List.length_cons, List.length_nil]; omega))) ?_)
        refine wl_op (k := 1) (k' := 2) rfl rfl rfl (wo_run rfl rfl (run_load1 rfl rfl Try.underlying3 rfl (hl.cell S4.um (i := k) (by first | omega | (simp only [List.length_set, List.length_append, List.length_replicate, List.length_singleton, List.length_cons, List.length_nil]; omega)) 0 rfl rfl)) ?_)
        refine wl_op (k := 2) (k' := 3) rfl rfl rfl (wo_run rfl rfl (run_assign rfl rfl) ?_)
        refine wl_end rfl ?_
        refine nm_sub [(7, _), (19, _), (20, _), (21, _), (9, _)] ⟨rfl, rfl, rfl, rfl, rfl, trivial⟩ ?_
        refine nm_thn ?_
        refine ws_region rfl ?_
        refine wl_op (k := 0) (k' := 1) rfl rfl rfl (wo_run rfl rfl (run_move rfl rfl) ?_)
        refine wl_op (k := 1) (k' := 2) rfl rfl rfl (wo_run rfl rfl (run_move rfl rfl) ?_)
        refine wl_op (k := 2) (k' := 3) rfl rfl rfl (wo_run rfl rfl (run_move rfl rfl) ?_)
        refine wl_op (k := 3) (k' := 4) rfl rfl rfl (wo_run rfl rfl (run_neg rfl rfl (by first | omega | (simp only [List.length_set, List.length_append, List.length_replicate, List.length_singleton, List.length_cons, List.length_nil]; omega))) ?_)
        refine wl_op (k := 4) (k' := 5) rfl rfl rfl (wo_run rfl rfl (run_max rfl rfl rfl rfl rfl) ?_)
        refine wl_op (k := 5) (k' := 6) rfl rfl rfl (wo_c1 rfl rfl rfl rfl rfl rfl rfl cf24 S4 (i := 0) rfl (thenP_w vrp _ (max (ga l k) (-(ga l k))) (holds_mem hph (by omega)) (holds_mem hph (by omega)) (by omega) (by omega) (S4.lend1 (i := 0) rfl)) ?_)
        rintro vw5 w5 _ _ - S5 ⟨rfl, rfl, rfl⟩; clear S4
        change SH _ _ _ [_] at S5
        refine wl_end rfl ?_
        refine nm_blk ?_
        refine nm_sub [(7, _), (19, _), (20, _), (21, _)] ⟨rfl, rfl, rfl, rfl, trivial⟩ ?_
        refine nm_thn ?_
        refine ws_region rfl ?_
        refine wl_op (k := 0) (k' := 1) rfl rfl rfl (wo_run rfl rfl (run_add rfl rfl rfl (by first | omega | (simp only [List.length_set, List.length_append, List.length_replicate, List.length_singleton, List.length_cons, List.length_nil]; omega))) ?_)
        refine wl_op (k := 1) (k' := 2) rfl rfl rfl (wo_run rfl rfl (run_move rfl rfl) ?_)
        refine wl_end rfl ?_
        refine nm_lp ?_
        intro ax_ hax_
        refine ⟨_, ?hq2m, ⟨k + 1, _, _, rfl, hax_.sub ⟨rfl, rfl, rfl, rfl, trivial⟩, S5.pick [0] [_] (by decide) ⟨rfl, trivial⟩, ?hq2f0, ?hq2f1, ?hq2f2⟩⟩
        case hq2f0 => omega
        case hq2f1 => (rw [endsP_take _ _ _ (by omega), ← hpe])
        case hq2f2 => exact holds_then hph (by omega)
        case hq2m => omega
      · have hb22 := of_decide_eq_false hb22
        refine ws_exit rfl rfl ?_
        refine nm_sub [(7, _)] ⟨rfl, trivial⟩ ?_
        refine nm_thn ?_
        refine ws_seqN Ends_n32 Ends_n33 rfl rfl rfl ?_
        refine ws_region rfl ?_
        refine wl_op (k := 0) (k' := 1) rfl rfl rfl (wo_run rfl rfl (run_move rfl rfl) ?_)
        obtain ⟨M1, hle2, S6, ⟨A1, c1, e1, hr2⟩⟩ := S4.pubrow (i := 0) (H' := [_]) rfl rfl (by show _ * 8 ≤ _; first | omega | (simp only [List.length_set, List.length_append, List.length_replicate, List.length_singleton, List.length_cons, List.length_nil]; omega))
        clear S4; subst e1
        replace hl := hl.mono (Hp.un_mono hle2 S6.mx)
        refine wl_op (k := 1) (k' := 2) rfl rfl rfl (wo_sliceD (C := cdInt) 1 rfl rfl rfl rfl rfl sl50 (by first | rfl | omega) (by first | omega | (simp only [List.length_set, List.length_append, List.length_replicate, List.length_singleton, List.length_cons, List.length_nil]; omega)) hr2 ?_)
        intro A2 c2 hr3
        refine wl_op (k := 2) (k' := 3) rfl rfl rfl (wo_ct rfl rfl rfl rfl rfl rfl rfl cf25 S6 (CloneP_t (pl.drop 1) (hr3.mono (Hp.le_un _ _)) S6.lend) ?_)
        intro vw6 w6 M2 hle3 S7 hRw6; clear S6
        replace hl := hl.mono (Hp.un_mono hle3 S7.mx)
        replace hr2 := hr2.mono hle3
        replace hr3 := hr3.mono hle3
        obtain ⟨A3, c3, rfl, hr4⟩ := hRw6
        refine wl_op (k := 3) (k' := 4) rfl rfl rfl (wo_run rfl rfl (run_assign rfl rfl) ?_)
        refine wl_op (k := 4) (k' := 5) rfl rfl rfl (wo_run rfl rfl (run_assign rfl rfl) ?_)
        refine wl_end rfl ?_
        refine nm_sub [(4, _), (5, _)] ⟨rfl, rfl, trivial⟩ ?_
        refine nm_thn ?_
        refine ws_ret hC [_, _] rfl rfl ⟨rfl, rfl, trivial⟩ ?_
        refine ⟨_, rfl, _, hle2.trans hle3, (S7.pick [] [] (by decide) trivial), ?_⟩
        obtain rfl : k = l.length := by omega
        have e : endsR (m : Int) l = (pl.drop 1, 0) := by unfold endsR; rw [if_pos hck, hpe, List.take_length]; rfl
        rw [e]
        exact ⟨_, _, rfl, hr4⟩

end Go.Proofs.Ythfiblbkkjcliaa
