/- Walks printed by eng.py. -/
import Derived.Test.YtkcighnochjlgaaM10
set_option linter.unusedSimpArgs false
set_option linter.unusedVariables false
namespace Go.Proofs.Ytkcighnochjlgaa
open Go.ChangeShapes Go.WideShapes Go.ChangeAt Go.RowKit
def bigR (l : List (List Tm)) : Nat → Bool
  | 0 => false
  | c + 1 => bigR l c || decide (100 < szT (ga l c))
def bigN (nn : List (List (List Tm))) : Nat → Bool
  | 0 => false
  | r + 1 => bigN nn r || bigR (ga nn r) nn.length
theorem bigR_iff (l : List (List Tm)) (c : Nat) : bigR l c = true ↔ ∃ k, k < c ∧ 100 < szT (ga l k) := by
  induction c with
  | zero => simp [bigR]
  | succ c ih =>
    rw [bigR, Bool.or_eq_true, ih, decide_eq_true_iff]
    constructor
    · rintro (⟨k, hk, h⟩ | h)
      · exact ⟨k, by omega, h⟩
      · exact ⟨c, by omega, h⟩
    · rintro ⟨k, hk, h⟩
      by_cases e : k = c
      · subst e; exact .inr h
      · exact .inl ⟨k, by omega, h⟩
theorem bigN_iff (nn : List (List (List Tm))) (r : Nat) : bigN nn r = true ↔ ∃ i, i < r ∧ ∃ k, k < nn.length ∧ 100 < szT (ga (ga nn i) k) := by
  induction r with
  | zero => simp [bigN]
  | succ r ih =>
    rw [bigN, Bool.or_eq_true, ih, bigR_iff]
    constructor
    · rintro (⟨i, hi, h⟩ | h)
      · exact ⟨i, by omega, h⟩
      · exact ⟨r, by omega, h⟩
    · rintro ⟨i, hi, h⟩
      by_cases e : i = r
      · subst e; exact .inr h
      · exact .inl ⟨i, by omega, h⟩
theorem big_flat {nn : List (List (List Tm))} (h : sqB nn = true) : nn.flatten.any (fun l => decide (100 < szT l)) = bigN nn nn.length := by
  have h1 := (sqB_iff.1 h).2
  rw [Bool.eq_iff_iff, flat_any, bigN_iff]
  constructor
  · rintro ⟨i, hi, k, hk, h2⟩; exact ⟨i, hi, k, by rw [← h1 i hi]; exact hk, of_decide_eq_true h2⟩
  · rintro ⟨i, hi, k, hk, h2⟩; exact ⟨i, hi, k, by rw [h1 i hi]; exact hk, decide_eq_true h2⟩
theorem flat_len6 : ∀ {nn : List (List (List Tm))}, (∀ r ∈ nn, r.length ≤ 6) → nn.flatten.length ≤ 6 * nn.length
  | [], _ => by simp
  | r :: nn, h => by
    have := flat_len6 (nn := nn) (fun s hs => h s (by simp [hs]))
    have := h r (by simp)
    simp only [List.flatten_cons, List.length_append, List.length_cons]
    omega
theorem may_flat {nn : List (List (List Tm))} (h : ∀ i, i < nn.length → ∀ k, k < (ga nn i).length → mayT (ga (ga nn i) k) = true) : nn.flatten.any (fun l => !mayT l) = false := by
  cases hb : nn.flatten.any (fun l => !mayT l) with
  | false => rfl
  | true =>
    obtain ⟨i, hi, k, hk, h2⟩ := flat_any.1 hb
    rw [h i hi k hk] at h2; cases h2
theorem may_unflat {nn : List (List (List Tm))} (h : nn.flatten.any (fun l => !mayT l) = false) : ∀ i, i < nn.length → ∀ k, k < (ga nn i).length → mayT (ga (ga nn i) k) = true := fun i hi k hk => by
  cases hb : mayT (ga (ga nn i) k) with
  | true => rfl
  | false =>
    have := (flat_any (p := fun l => !mayT l)).2 ⟨i, hi, k, hk, by show (!mayT (ga (ga nn i) k)) = true; rw [hb]; rfl⟩
    rw [h] at this; cases this

noncomputable def DetMay_n0 : Code := Try.f31.body.getD .skip
noncomputable def DetMay_n1 : Code := cL DetMay_n0
noncomputable def DetMay_n2 : Code := cR DetMay_n0
noncomputable def DetMay_n3 : Code := cL DetMay_n2
noncomputable def DetMay_n4 : Code := cR DetMay_n2
noncomputable def DetMay_n5 : Code := cL DetMay_n3
noncomputable def DetMay_n6 : Code := cR DetMay_n3
noncomputable def DetMay_n7 : Code := cL DetMay_n6
noncomputable def DetMay_n8 : Code := cR DetMay_n6
noncomputable def DetMay_n9 : Code := cL DetMay_n7
noncomputable def DetMay_n10 : Code := cR DetMay_n7
noncomputable def DetMay_n11 : Code := cL DetMay_n4
noncomputable def DetMay_n12 : Code := cR DetMay_n4
noncomputable def DetMay_n13 : Code := cL DetMay_n11
noncomputable def DetMay_n14 : Code := cR DetMay_n11
noncomputable def DetMay_n15 : Code := cL DetMay_n14
noncomputable def DetMay_n16 : Code := cL DetMay_n15
noncomputable def DetMay_n17 : Code := cL DetMay_n16
noncomputable def DetMay_n18 : Code := cR DetMay_n16
noncomputable def DetMay_n19 : Code := cL DetMay_n17
noncomputable def DetMay_n20 : Code := cR DetMay_n17
noncomputable def DetMay_n21 : Code := cL DetMay_n20
noncomputable def DetMay_n22 : Code := cR DetMay_n20
noncomputable def DetMay_n23 : Code := cL DetMay_n18
noncomputable def DetMay_n24 : Code := cR DetMay_n18
noncomputable def DetMay_n25 : Code := cL DetMay_n23
noncomputable def DetMay_n26 : Code := cL DetMay_n25
noncomputable def DetMay_n27 : Code := cR DetMay_n25
noncomputable def DetMay_n28 : Code := cL DetMay_n27
noncomputable def DetMay_n29 : Code := cR DetMay_n27
noncomputable def DetMay_n30 : Code := cL DetMay_n28
noncomputable def DetMay_n31 : Code := cR DetMay_n28
noncomputable def DetMay_n32 : Code := cL DetMay_n12
noncomputable def DetMay_n33 : Code := cR DetMay_n12
noncomputable def DetMay_n34 : Code := cL DetMay_n33
noncomputable def DetMay_n35 : Code := cR DetMay_n33
noncomputable def DetMay_n36 : Code := cL DetMay_n34
noncomputable def DetMay_n37 : Code := cR DetMay_n34
noncomputable def DetMay_n38 : Code := cL DetMay_n37
noncomputable def DetMay_n39 : Code := cL DetMay_n38
noncomputable def DetMay_n40 : Code := cL DetMay_n39
noncomputable def DetMay_n41 : Code := cR DetMay_n39
noncomputable def DetMay_n42 : Code := cL DetMay_n40
noncomputable def DetMay_n43 : Code := cR DetMay_n40
noncomputable def DetMay_n44 : Code := cL DetMay_n43
noncomputable def DetMay_n45 : Code := cR DetMay_n43
noncomputable def DetMay_n46 : Code := cL DetMay_n41
noncomputable def DetMay_n47 : Code := cR DetMay_n41
noncomputable def DetMay_n48 : Code := cL DetMay_n46
noncomputable def DetMay_n49 : Code := cL DetMay_n48
noncomputable def DetMay_n50 : Code := cR DetMay_n48
noncomputable def DetMay_n51 : Code := cL DetMay_n50
noncomputable def DetMay_n52 : Code := cL DetMay_n51
noncomputable def DetMay_n53 : Code := cL DetMay_n52
noncomputable def DetMay_n54 : Code := cR DetMay_n52
noncomputable def DetMay_n55 : Code := cL DetMay_n53
noncomputable def DetMay_n56 : Code := cR DetMay_n53
noncomputable def DetMay_n57 : Code := cL DetMay_n56
noncomputable def DetMay_n58 : Code := cR DetMay_n56
noncomputable def DetMay_n59 : Code := cL DetMay_n54
noncomputable def DetMay_n60 : Code := cR DetMay_n54
noncomputable def DetMay_n61 : Code := cL DetMay_n59
noncomputable def DetMay_n62 : Code := cL DetMay_n61
noncomputable def DetMay_n63 : Code := cR DetMay_n61
noncomputable def DetMay_n64 : Code := cL DetMay_n62
noncomputable def DetMay_n65 : Code := cR DetMay_n62
noncomputable def DetMay_n66 : Code := cL DetMay_n65
noncomputable def DetMay_n67 : Code := cR DetMay_n65
noncomputable def DetMay_n68 : Code := cL DetMay_n66
noncomputable def DetMay_n69 : Code := cR DetMay_n66
noncomputable def DetMay_n70 : Code := cL DetMay_n63
noncomputable def DetMay_n71 : Code := cR DetMay_n63
noncomputable def DetMay_n72 : Code := cL DetMay_n71
noncomputable def DetMay_n73 : Code := cR DetMay_n71
noncomputable def DetMay_n74 : Code := cL DetMay_n72
noncomputable def DetMay_n75 : Code := cR DetMay_n72
noncomputable def DetMay_n76 : Code := cL DetMay_n75
noncomputable def DetMay_n77 : Code := cL DetMay_n76
noncomputable def DetMay_n78 : Code := cL DetMay_n77
noncomputable def DetMay_n79 : Code := cR DetMay_n77
noncomputable def DetMay_n80 : Code := cL DetMay_n78
noncomputable def DetMay_n81 : Code := cR DetMay_n78
noncomputable def DetMay_n82 : Code := cL DetMay_n81
noncomputable def DetMay_n83 : Code := cR DetMay_n81
noncomputable def DetMay_n84 : Code := cL DetMay_n79
noncomputable def DetMay_n85 : Code := cR DetMay_n79
noncomputable def DetMay_n86 : Code := cL DetMay_n84
noncomputable def DetMay_n87 : Code := cL DetMay_n35
noncomputable def DetMay_n88 : Code := cR DetMay_n35
noncomputable def DetMay_n89 : Code := cL DetMay_n87
noncomputable def DetMay_n90 : Code := cR DetMay_n87
noncomputable def DetMay_n91 : Code := cL DetMay_n90
noncomputable def DetMay_n92 : Code := cR DetMay_n90
noncomputable def DetMay_n93 : Code := cL DetMay_n91
noncomputable def DetMay_n94 : Code := cR DetMay_n91
noncomputable def DetMay_n95 : Code := cL DetMay_n88
noncomputable def DetMay_n96 : Code := cR DetMay_n88
set_option maxHeartbeats 1000000 in
set_option maxRecDepth 10000 in
theorem DetMay_q {w : World} {M : Hp} {X : Fr} (nn : List (List (List Tm))) {nnA : Option Addr} {nnc : Nat} {nnv : List SlV} {nns : List (List SlV)} (hnn : RdA (cdV 43) (M.un X.h) nnA nnc nnv) (hdnn : Rd2 (cdV 22) (M.un X.h) nnv nns) (h3nn : RdD cdTm (M.un X.h) nns nn) (S : SH w M X []) : Cq Try.prog 31 [.slice nnA nnv.length nnc] w M X (fun u => u = .int .i64 (detE nn)) := by
  unfold Cq
  have rmhnn : nnv.length * 24 ≤ 140737488355328 := hnn.room
  have hnl := hdnn.1
  have hn3 := h3nn.1
  refine calls_in (b := DetMay_n0) Try.func31 rfl Try.ntmps31 rfl (fun C hC => ?_)
  refine ws_sub [(0, _)] ⟨rfl, trivial⟩ ?_
  refine ws_seqN DetMay_n1 DetMay_n2 rfl rfl rfl ?_
  refine ws_region rfl ?_
  refine wl_op (k := 0) (k' := 1) rfl rfl rfl (wo_run rfl rfl (run_assign rfl rfl) ?_)
  refine wl_end rfl ?_
  refine nm_sub [(0, _)] ⟨rfl, trivial⟩ ?_
  refine nm_thn ?_
  refine ws_seqN DetMay_n3 DetMay_n4 rfl rfl rfl ?_
  refine ws_seqN DetMay_n5 DetMay_n6 rfl rfl rfl ?_
  refine ws_region rfl ?_
  refine wl_op (k := 0) (k' := 1) rfl rfl rfl (wo_run rfl rfl (run_move rfl rfl) ?_)
  refine wl_op (k := 1) (k' := 2) rfl rfl rfl (wo_run rfl rfl (run_len rfl rfl rfl rfl rfl rfl Try.underlying37) ?_)
  refine wl_op (k := 2) (k' := 3) rfl rfl rfl (wo_run rfl rfl (run_gtr rfl rfl rfl) ?_)
  refine wl_end rfl ?_
  refine nm_sub [(0, _), (11, _)] ⟨rfl, rfl, trivial⟩ ?_
  refine nm_thn ?_
  refine ws_condN DetMay_n7 DetMay_n8 rfl rfl rfl rfl (fun hb11 => ?_) (fun hb11 => ?_)
  · have hb11 := of_decide_eq_true hb11
    refine ws_seqN DetMay_n9 DetMay_n10 rfl rfl rfl ?_
    refine ws_region rfl ?_
    refine wl_op (k := 0) (k' := 1) rfl rfl rfl (wo_run rfl rfl (run_assign rfl rfl) ?_)
    refine wl_end rfl ?_
    refine nm_sub [(2, _)] ⟨rfl, trivial⟩ ?_
    refine nm_thn ?_
    refine ws_ret hC [_] rfl rfl ⟨rfl, trivial⟩ ?_
    exact ⟨_, rfl, (S.pick [] [] (by decide) trivial), (by show Value.int _ _ = _; unfold detE; first | (rw [if_neg (fun h => by have := (sqB_iff.1 h).1; omega)]) | (rw [if_neg (fun h => by have := (sqB_iff.1 h).2 r (by omega); omega)]))⟩
  · have hb11 := of_decide_eq_false hb11
    refine ws_skip rfl ?_
    refine nm_sub [(0, _)] ⟨rfl, trivial⟩ ?_
    refine nm_thn ?_
    refine ws_seqN DetMay_n11 DetMay_n12 rfl rfl rfl ?_
    refine ws_seqN DetMay_n13 DetMay_n14 rfl rfl rfl ?_
    refine ws_region rfl ?_
    refine wl_op (k := 0) (k' := 1) rfl rfl rfl (wo_run rfl rfl (run_assign rfl rfl) ?_)
    refine wl_end rfl ?_
    refine nm_thn ?_
    refine ws_blockN DetMay_n15 0 rfl rfl rfl ?_
    refine ws_loopE (fun mx_ ax_ wx_ => ∃ (r : Nat), mx_ = nn.length - r ∧ Env 79 [(0, .slice nnA nnv.length nnc), (3, .int .i64 (r : Int))] ax_ ∧ SH wx_ M X [] ∧ r ≤ nn.length ∧ (∀ j, j < r → (ga nn j).length = nn.length)) rfl ?_ ?_
    · intro ax_ hax_
      refine ⟨_, ⟨0, rfl, hax_.sub ⟨rfl, rfl, trivial⟩, S.pick [] [] (by decide) trivial, ?hq1f0, ?hq1f1⟩⟩
      case hq1f0 => omega
      case hq1f1 => (intro j hj; omega)
    · rintro m1 a1 w1 ⟨r, rfl, he1, S1, hr, hsq0⟩
      clear S
      refine ws_in he1 (c := DetMay_n16) rfl ?_
      clear he1 a1
      refine ws_seqN DetMay_n17 DetMay_n18 rfl rfl rfl ?_
      refine ws_seqN DetMay_n19 DetMay_n20 rfl rfl rfl ?_
      refine ws_region rfl ?_
      refine wl_op (k := 0) (k' := 1) rfl rfl rfl (wo_run rfl rfl (run_move rfl rfl) ?_)
      refine wl_op (k := 1) (k' := 2) rfl rfl rfl (wo_run rfl rfl (run_move rfl rfl) ?_)
      refine wl_op (k := 2) (k' := 3) rfl rfl rfl (wo_run rfl rfl (run_len rfl rfl rfl rfl rfl rfl Try.underlying37) ?_)
      refine wl_op (k := 3) (k' := 4) rfl rfl rfl (wo_run rfl rfl (run_lss rfl rfl rfl) ?_)
      refine wl_end rfl ?_
      refine nm_sub [(0, _), (3, _), (15, _)] ⟨rfl, rfl, rfl, trivial⟩ ?_
      refine nm_thn ?_
      refine ws_condN DetMay_n21 DetMay_n22 rfl rfl rfl rfl (fun hb15 => ?_) (fun hb15 => ?_)
      · have hb15 := of_decide_eq_true hb15
        refine ws_skip rfl ?_
        refine nm_sub [(0, _), (3, _)] ⟨rfl, rfl, trivial⟩ ?_
        refine nm_thn ?_
        refine ws_seqN DetMay_n23 DetMay_n24 rfl rfl rfl ?_
        refine ws_blockN DetMay_n25 1 rfl rfl rfl ?_
        refine ws_seqN DetMay_n26 DetMay_n27 rfl rfl rfl ?_
        refine ws_region rfl ?_
        refine wl_op (k := 0) (k' := 1) rfl rfl rfl (wo_run rfl rfl (run_move rfl rfl) ?_)
        refine wl_op (k := 1) (k' := 2) rfl rfl rfl (wo_run rfl rfl (run_move rfl rfl) ?_)
        refine wl_op (k := 2) (k' := 3) rfl rfl rfl (wo_run rfl rfl (run_indexM (C := (cdV 43)) r rfl rfl rfl sl37 (by first | rfl | omega) hnn (by first | omega | (simp only [List.length_set, List.length_append, List.length_replicate, List.length_singleton, List.length_cons, List.length_nil]; omega))) ?_)
        obtain ⟨hn1, hr1⟩ := hdnn.2 r (by first | omega | (simp only [List.length_set, List.length_append, List.length_replicate, List.length_singleton, List.length_cons, List.length_nil]; omega))
        have rmhr1 : (ga nns r).length * 24 ≤ 140737488355328 := hr1.room
        have hW1 := h3nn.2 r (by have := h3nn.1; have := hdnn.1; first | omega | (simp_all; omega))
        have hW1l := hW1.1
        refine wl_op (k := 3) (k' := 4) rfl rfl rfl (wo_run rfl rfl (run_load1 rfl rfl Try.underlying43 rfl (hnn.cell S1.um (i := r) (by first | omega | (simp only [List.length_set, List.length_append, List.length_replicate, List.length_singleton, List.length_cons, List.length_nil]; omega)) 0 rfl (congrArg (fun n => some (Value.slice _ n _)) hn1))) ?_)
        refine wl_op (k := 4) (k' := 5) rfl rfl rfl (wo_run rfl rfl (run_len rfl rfl rfl rfl rfl rfl Try.underlying43) ?_)
        refine wl_op (k := 5) (k' := 6) rfl rfl rfl (wo_run rfl rfl (run_move rfl rfl) ?_)
        refine wl_op (k := 6) (k' := 7) rfl rfl rfl (wo_run rfl rfl (run_len rfl rfl rfl rfl rfl rfl Try.underlying37) ?_)
        refine wl_op (k := 7) (k' := 8) rfl rfl rfl (wo_run rfl rfl (run_neq rfl rfl rfl) ?_)
        refine wl_end rfl ?_
        refine nm_sub [(0, _), (3, _), (25, _)] ⟨rfl, rfl, rfl, trivial⟩ ?_
        refine nm_thn ?_
        refine ws_condN DetMay_n28 DetMay_n29 rfl rfl rfl rfl (fun hb25 => ?_) (fun hb25 => ?_)
        · have hb25 := of_decide_eq_true hb25
          refine ws_seqN DetMay_n30 DetMay_n31 rfl rfl rfl ?_
          refine ws_region rfl ?_
          refine wl_op (k := 0) (k' := 1) rfl rfl rfl (wo_run rfl rfl (run_assign rfl rfl) ?_)
          refine wl_end rfl ?_
          refine nm_sub [(2, _)] ⟨rfl, trivial⟩ ?_
          refine nm_thn ?_
          refine ws_ret hC [_] rfl rfl ⟨rfl, trivial⟩ ?_
          exact ⟨_, rfl, (S1.pick [] [] (by decide) trivial), (by show Value.int _ _ = _; unfold detE; first | (rw [if_neg (fun h => by have := (sqB_iff.1 h).1; omega)]) | (rw [if_neg (fun h => by have := (sqB_iff.1 h).2 r (by omega); omega)]))⟩
        · have hb25 := of_decide_eq_false hb25
          refine ws_skip rfl ?_
          refine nm_blk ?_
          refine nm_sub [(0, _), (3, _)] ⟨rfl, rfl, trivial⟩ ?_
          refine nm_thn ?_
          refine ws_region rfl ?_
          refine wl_op (k := 0) (k' := 1) rfl rfl rfl (wo_run rfl rfl (run_move rfl rfl) ?_)
          refine wl_op (k := 1) (k' := 2) rfl rfl rfl (wo_run rfl rfl (run_add rfl rfl rfl (by first | omega | (simp only [List.length_set, List.length_append, List.length_replicate, List.length_singleton, List.length_cons, List.length_nil]; omega))) ?_)
          refine wl_op (k := 2) (k' := 3) rfl rfl rfl (wo_run rfl rfl (run_assign rfl rfl) ?_)
          refine wl_end rfl ?_
          refine nm_lp ?_
          intro ax_ hax_
          refine ⟨_, ?hq2m, ⟨r + 1, rfl, hax_.sub ⟨rfl, rfl, trivial⟩, S1.pick [] [] (by decide) trivial, ?hq2f0, ?hq2f1⟩⟩
          case hq2f0 => omega
          case hq2f1 => (intro j hj; by_cases h : j = r; (subst h; omega); exact hsq0 j (by omega))
          case hq2m => omega
      · have hb15 := of_decide_eq_false hb15
        refine ws_exit rfl rfl ?_
        refine nm_sub [(0, _)] ⟨rfl, trivial⟩ ?_
        refine nm_thn ?_
        refine ws_seqN DetMay_n32 DetMay_n33 rfl rfl rfl ?_
        obtain rfl : r = nn.length := by omega
        have hsq := hsq0
        refine ws_region rfl ?_
        refine wl_op (k := 0) (k' := 1) rfl rfl rfl (wo_run rfl rfl (run_assign rfl rfl) ?_)
        refine wl_end rfl ?_
        refine nm_thn ?_
        refine ws_seqN DetMay_n34 DetMay_n35 rfl rfl rfl ?_
        refine ws_seqN DetMay_n36 DetMay_n37 rfl rfl rfl ?_
        refine ws_region rfl ?_
        refine wl_op (k := 0) (k' := 1) rfl rfl rfl (wo_run rfl rfl (run_assign rfl rfl) ?_)
        refine wl_end rfl ?_
        refine nm_thn ?_
        refine ws_blockN DetMay_n38 2 rfl rfl rfl ?_
        refine ws_loopE (fun mx_ ax_ wx_ => ∃ (r2 : Nat) (gr : Bool), mx_ = nn.length - r2 ∧ Env 79 [(0, .slice nnA nnv.length nnc), (4, .bool gr), (5, .int .i64 (r2 : Int))] ax_ ∧ SH wx_ M X [] ∧ r2 ≤ nn.length ∧ gr = bigN nn r2 ∧ (∀ j, j < r2 → ∀ k, k < nn.length → mayT (ga (ga nn j) k) = true)) rfl ?_ ?_
        · intro ax_ hax_
          refine ⟨_, ⟨0, false, rfl, hax_.sub ⟨rfl, rfl, rfl, trivial⟩, S1.pick [] [] (by decide) trivial, ?hq3f0, ?hq3f1, ?hq3f2⟩⟩
          case hq3f0 => omega
          case hq3f1 => rfl
          case hq3f2 => (intro j hj; omega)
        · rintro m2 a2 w2 ⟨r2, gr, rfl, he2, S2, hr2, hgr, hmay⟩
          clear S1
          refine ws_in he2 (c := DetMay_n39) rfl ?_
          clear he2 a2
          have hs2 := fun h => hsq r2 h
          refine ws_seqN DetMay_n40 DetMay_n41 rfl rfl rfl ?_
          refine ws_seqN DetMay_n42 DetMay_n43 rfl rfl rfl ?_
          refine ws_region rfl ?_
          refine wl_op (k := 0) (k' := 1) rfl rfl rfl (wo_run rfl rfl (run_move rfl rfl) ?_)
          refine wl_op (k := 1) (k' := 2) rfl rfl rfl (wo_run rfl rfl (run_move rfl rfl) ?_)
          refine wl_op (k := 2) (k' := 3) rfl rfl rfl (wo_run rfl rfl (run_len rfl rfl rfl rfl rfl rfl Try.underlying37) ?_)
          refine wl_op (k := 3) (k' := 4) rfl rfl rfl (wo_run rfl rfl (run_lss rfl rfl rfl) ?_)
          refine wl_end rfl ?_
          refine nm_sub [(0, _), (4, _), (5, _), (29, _)] ⟨rfl, rfl, rfl, rfl, trivial⟩ ?_
          refine nm_thn ?_
          refine ws_condN DetMay_n44 DetMay_n45 rfl rfl rfl rfl (fun hb29 => ?_) (fun hb29 => ?_)
          · have hb29 := of_decide_eq_true hb29
            refine ws_skip rfl ?_
            refine nm_sub [(0, _), (4, _), (5, _)] ⟨rfl, rfl, rfl, trivial⟩ ?_
            refine nm_thn ?_
            refine ws_seqN DetMay_n46 DetMay_n47 rfl rfl rfl ?_
            refine ws_blockN DetMay_n48 3 rfl rfl rfl ?_
            refine ws_seqN DetMay_n49 DetMay_n50 rfl rfl rfl ?_
            refine ws_region rfl ?_
            refine wl_op (k := 0) (k' := 1) rfl rfl rfl (wo_run rfl rfl (run_assign rfl rfl) ?_)
            refine wl_end rfl ?_
            refine nm_thn ?_
            refine ws_blockN DetMay_n51 4 rfl rfl rfl ?_
            refine ws_loopE (fun mx_ ax_ wx_ => ∃ (c : Nat) (gr2 : Bool), mx_ = nn.length - c ∧ Env 79 [(0, .slice nnA nnv.length nnc), (4, .bool gr2), (5, .int .i64 (r2 : Int)), (6, .int .i64 (c : Int))] ax_ ∧ SH wx_ M X [] ∧ c ≤ nn.length ∧ gr2 = (bigN nn r2 || bigR (ga nn r2) c) ∧ (∀ k, k < c → mayT (ga (ga nn r2) k) = true)) rfl ?_ ?_
            · intro ax_ hax_
              refine ⟨_, ⟨0, gr, rfl, hax_.sub ⟨rfl, rfl, rfl, rfl, trivial⟩, S2.pick [] [] (by decide) trivial, ?hq4f0, ?hq4f1, ?hq4f2⟩⟩
              case hq4f0 => omega
              case hq4f1 => (rw [hgr]; simp [bigR])
              case hq4f2 => (intro k hk; omega)
            · rintro m3 a3 w3 ⟨c, gr2, rfl, he3, S3, hc, hgr2, hmc⟩
              clear S2
              refine ws_in he3 (c := DetMay_n52) rfl ?_
              clear he3 a3
              have hs3 := hs2 (by omega)
              refine ws_seqN DetMay_n53 DetMay_n54 rfl rfl rfl ?_
              refine ws_seqN DetMay_n55 DetMay_n56 rfl rfl rfl ?_
              refine ws_region rfl ?_
              refine wl_op (k := 0) (k' := 1) rfl rfl rfl (wo_run rfl rfl (run_move rfl rfl) ?_)
              refine wl_op (k := 1) (k' := 2) rfl rfl rfl (wo_run rfl rfl (run_move rfl rfl) ?_)
              refine wl_op (k := 2) (k' := 3) rfl rfl rfl (wo_run rfl rfl (run_len rfl rfl rfl rfl rfl rfl Try.underlying37) ?_)
              refine wl_op (k := 3) (k' := 4) rfl rfl rfl (wo_run rfl rfl (run_lss rfl rfl rfl) ?_)
              refine wl_end rfl ?_
              refine nm_sub [(0, _), (4, _), (5, _), (6, _), (35, _)] ⟨rfl, rfl, rfl, rfl, rfl, trivial⟩ ?_
              refine nm_thn ?_
              refine ws_condN DetMay_n57 DetMay_n58 rfl rfl rfl rfl (fun hb35 => ?_) (fun hb35 => ?_)
              · have hb35 := of_decide_eq_true hb35
                refine ws_skip rfl ?_
                refine nm_sub [(0, _), (4, _), (5, _), (6, _)] ⟨rfl, rfl, rfl, rfl, trivial⟩ ?_
                refine nm_thn ?_
                refine ws_seqN DetMay_n59 DetMay_n60 rfl rfl rfl ?_
                refine ws_blockN DetMay_n61 5 rfl rfl rfl ?_
                refine ws_seqN DetMay_n62 DetMay_n63 rfl rfl rfl ?_
                refine ws_seqN DetMay_n64 DetMay_n65 rfl rfl rfl ?_
                refine ws_region rfl ?_
                refine wl_op (k := 0) (k' := 1) rfl rfl rfl (wo_run rfl rfl (run_move rfl rfl) ?_)
                refine wl_op (k := 1) (k' := 2) rfl rfl rfl (wo_run rfl rfl (run_move rfl rfl) ?_)
                refine wl_op (k := 2) (k' := 3) rfl rfl rfl (wo_run rfl rfl (run_indexM (C := (cdV 43)) r2 rfl rfl rfl sl37 (by first | rfl | omega) hnn (by first | omega | (simp only [List.length_set, List.length_append, List.length_replicate, List.length_singleton, List.length_cons, List.length_nil]; omega))) ?_)
                obtain ⟨hn2, hr2⟩ := hdnn.2 r2 (by first | omega | (simp only [List.length_set, List.length_append, List.length_replicate, List.length_singleton, List.length_cons, List.length_nil]; omega))
                have rmhr2 : (ga nns r2).length * 24 ≤ 140737488355328 := hr2.room
                have hW2 := h3nn.2 r2 (by have := h3nn.1; have := hdnn.1; first | omega | (simp_all; omega))
                have hW2l := hW2.1
                refine wl_op (k := 3) (k' := 4) rfl rfl rfl (wo_run rfl rfl (run_load1 rfl rfl Try.underlying43 rfl (hnn.cell S3.um (i := r2) (by first | omega | (simp only [List.length_set, List.length_append, List.length_replicate, List.length_singleton, List.length_cons, List.length_nil]; omega)) 0 rfl (congrArg (fun n => some (Value.slice _ n _)) hn2))) ?_)
                refine wl_op (k := 4) (k' := 5) rfl rfl rfl (wo_run rfl rfl (run_move rfl rfl) ?_)
                refine wl_op (k := 5) (k' := 6) rfl rfl rfl (wo_run rfl rfl (run_indexM (C := (cdV 22)) c rfl rfl rfl sl43 (by first | rfl | omega) hr2 (by first | omega | (simp only [List.length_set, List.length_append, List.length_replicate, List.length_singleton, List.length_cons, List.length_nil]; omega))) ?_)
                obtain ⟨hn3, hr3⟩ := hW2.2 c (by first | omega | (simp only [List.length_set, List.length_append, List.length_replicate, List.length_singleton, List.length_cons, List.length_nil]; omega))
                have rmhr3 : (ga (ga nn r2) c).length * 16 ≤ 140737488355328 := hr3.room
                refine wl_op (k := 6) (k' := 7) rfl rfl rfl (wo_run rfl rfl (run_load1 rfl rfl Try.underlying22 rfl (hr2.cell S3.um (i := c) (by first | omega | (simp only [List.length_set, List.length_append, List.length_replicate, List.length_singleton, List.length_cons, List.length_nil]; omega)) 0 rfl (congrArg (fun n => some (Value.slice _ n _)) hn3))) ?_)
                refine wl_op (k := 7) (k' := 8) rfl rfl rfl (wo_cq rfl rfl rfl rfl rfl rfl rfl cf16 S3 (PolyMay_q (ga (ga nn r2) c) (hr3.mono S3.un_XH) S3.lend) ?_)
                rintro _ w4 S4 rfl; clear S3
                refine wl_op (k := 8) (k' := 9) rfl rfl rfl (wo_run rfl rfl (run_not rfl rfl) ?_)
                refine wl_end rfl ?_
                refine nm_sub [(0, _), (4, _), (5, _), (6, _), (46, _)] ⟨rfl, rfl, rfl, rfl, rfl, trivial⟩ ?_
                refine nm_thn ?_
                refine ws_condN DetMay_n66 DetMay_n67 rfl rfl rfl rfl (fun hb46 => ?_) (fun hb46 => ?_)
                · simp only [Bool.and_eq_true, Bool.or_eq_true, Bool.and_eq_false_iff, Bool.or_eq_false_iff, decide_eq_true_eq, decide_eq_false_iff_not, Bool.not_eq_true', Bool.not_eq_false'] at hb46
                  refine ws_seqN DetMay_n68 DetMay_n69 rfl rfl rfl ?_
                  refine ws_region rfl ?_
                  refine wl_op (k := 0) (k' := 1) rfl rfl rfl (wo_run rfl rfl (run_assign rfl rfl) ?_)
                  refine wl_end rfl ?_
                  refine nm_sub [(2, _)] ⟨rfl, trivial⟩ ?_
                  refine nm_thn ?_
                  refine ws_ret hC [_] rfl rfl ⟨rfl, trivial⟩ ?_
                  exact ⟨_, rfl, (S4.pick [] [] (by decide) trivial), (by show Value.int _ _ = _; unfold detE; rw [if_pos (sqB_iff.2 ⟨by omega, fun i hi => hsq i (by omega)⟩), if_pos (flat_any.2 ⟨r2, by omega, c, by omega, by simpa using hb46⟩)])⟩
                · simp only [Bool.and_eq_true, Bool.or_eq_true, Bool.and_eq_false_iff, Bool.or_eq_false_iff, decide_eq_true_eq, decide_eq_false_iff_not, Bool.not_eq_true', Bool.not_eq_false'] at hb46
                  have hm1 : mayT (ga (ga nn r2) c) = true := by simpa using hb46
                  obtain ⟨hml1, hmm2⟩ := mayT_may hm1
                  refine ws_skip rfl ?_
                  refine nm_sub [(0, _), (4, _), (5, _), (6, _)] ⟨rfl, rfl, rfl, rfl, trivial⟩ ?_
                  refine nm_thn ?_
                  refine ws_seqN DetMay_n70 DetMay_n71 rfl rfl rfl ?_
                  refine ws_region rfl ?_
                  refine wl_op (k := 0) (k' := 1) rfl rfl rfl (wo_run rfl rfl (run_assign rfl rfl) ?_)
                  refine wl_end rfl ?_
                  refine nm_thn ?_
                  refine ws_seqN DetMay_n72 DetMay_n73 rfl rfl rfl ?_
                  refine ws_seqN DetMay_n74 DetMay_n75 rfl rfl rfl ?_
                  refine ws_region rfl ?_
                  refine wl_op (k := 0) (k' := 1) rfl rfl rfl (wo_run rfl rfl (run_assign rfl rfl) ?_)
                  refine wl_end rfl ?_
                  refine nm_thn ?_
                  refine ws_blockN DetMay_n76 6 rfl rfl rfl ?_
                  refine ws_loopE (fun mx_ ax_ wx_ => ∃ (i : Nat), mx_ = (ga (ga nn r2) c).length - i ∧ Env 79 [(0, .slice nnA nnv.length nnc), (4, .bool gr2), (5, .int .i64 (r2 : Int)), (6, .int .i64 (c : Int)), (7, .int .i64 (szN (ga (ga nn r2) c) i)), (8, .int .i64 (i : Int))] ax_ ∧ SH wx_ M X [] ∧ i ≤ (ga (ga nn r2) c).length) rfl ?_ ?_
                  · intro ax_ hax_
                    refine ⟨_, ⟨0, rfl, hax_.sub ⟨rfl, rfl, rfl, rfl, rfl, rfl, trivial⟩, S4.pick [] [] (by decide) trivial, ?hq5f0⟩⟩
                    case hq5f0 => omega
                  · rintro m4 a4 w5 ⟨i, rfl, he4, S5, hi⟩
                    clear S4
                    refine ws_in he4 (c := DetMay_n77) rfl ?_
                    clear he4 a4
                    have hzb := szN_bd hm1 (i := i) (by omega)
                    have hzc := fun h => (hmm2 i h).2.1
                    refine ws_seqN DetMay_n78 DetMay_n79 rfl rfl rfl ?_
                    refine ws_seqN DetMay_n80 DetMay_n81 rfl rfl rfl ?_
                    refine ws_region rfl ?_
                    refine wl_op (k := 0) (k' := 1) rfl rfl rfl (wo_run rfl rfl (run_move rfl rfl) ?_)
                    refine wl_op (k := 1) (k' := 2) rfl rfl rfl (wo_run rfl rfl (run_move rfl rfl) ?_)
                    refine wl_op (k := 2) (k' := 3) rfl rfl rfl (wo_run rfl rfl (run_move rfl rfl) ?_)
                    refine wl_op (k := 3) (k' := 4) rfl rfl rfl (wo_run rfl rfl (run_indexM (C := (cdV 43)) r2 rfl rfl rfl sl37 (by first | rfl | omega) hnn (by first | omega | (simp only [List.length_set, List.length_append, List.length_replicate, List.length_singleton, List.length_cons, List.length_nil]; omega))) ?_)
                    obtain ⟨hn4, hr4⟩ := hdnn.2 r2 (by first | omega | (simp only [List.length_set, List.length_append, List.length_replicate, List.length_singleton, List.length_cons, List.length_nil]; omega))
                    have rmhr4 : (ga nns r2).length * 24 ≤ 140737488355328 := hr4.room
                    have hW3 := h3nn.2 r2 (by have := h3nn.1; have := hdnn.1; first | omega | (simp_all; omega))
                    have hW3l := hW3.1
                    refine wl_op (k := 4) (k' := 5) rfl rfl rfl (wo_run rfl rfl (run_load1 rfl rfl Try.underlying43 rfl (hnn.cell S5.um (i := r2) (by first | omega | (simp only [List.length_set, List.length_append, List.length_replicate, List.length_singleton, List.length_cons, List.length_nil]; omega)) 0 rfl (congrArg (fun n => some (Value.slice _ n _)) hn4))) ?_)
                    refine wl_op (k := 5) (k' := 6) rfl rfl rfl (wo_run rfl rfl (run_move rfl rfl) ?_)
                    refine wl_op (k := 6) (k' := 7) rfl rfl rfl (wo_run rfl rfl (run_indexM (C := (cdV 22)) c rfl rfl rfl sl43 (by first | rfl | omega) hr4 (by first | omega | (simp only [List.length_set, List.length_append, List.length_replicate, List.length_singleton, List.length_cons, List.length_nil]; omega))) ?_)
                    obtain ⟨hn5, hr5⟩ := hW3.2 c (by first | omega | (simp only [List.length_set, List.length_append, List.length_replicate, List.length_singleton, List.length_cons, List.length_nil]; omega))
                    have rmhr5 : (ga (ga nn r2) c).length * 16 ≤ 140737488355328 := hr5.room
                    refine wl_op (k := 7) (k' := 8) rfl rfl rfl (wo_run rfl rfl (run_load1 rfl rfl Try.underlying22 rfl (hr4.cell S5.um (i := c) (by first | omega | (simp only [List.length_set, List.length_append, List.length_replicate, List.length_singleton, List.length_cons, List.length_nil]; omega)) 0 rfl (congrArg (fun n => some (Value.slice _ n _)) hn5))) ?_)
                    refine wl_op (k := 8) (k' := 9) rfl rfl rfl (wo_run rfl rfl (run_len rfl rfl rfl rfl rfl rfl Try.underlying22) ?_)
                    refine wl_op (k := 9) (k' := 10) rfl rfl rfl (wo_run rfl rfl (run_lss rfl rfl rfl) ?_)
                    refine wl_end rfl ?_
                    refine nm_sub [(0, _), (4, _), (5, _), (6, _), (7, _), (8, _), (56, _)] ⟨rfl, rfl, rfl, rfl, rfl, rfl, rfl, trivial⟩ ?_
                    refine nm_thn ?_
                    refine ws_condN DetMay_n82 DetMay_n83 rfl rfl rfl rfl (fun hb56 => ?_) (fun hb56 => ?_)
                    · have hb56 := of_decide_eq_true hb56
                      refine ws_skip rfl ?_
                      refine nm_sub [(0, _), (4, _), (5, _), (6, _), (7, _), (8, _)] ⟨rfl, rfl, rfl, rfl, rfl, rfl, trivial⟩ ?_
                      refine nm_thn ?_
                      refine ws_seqN DetMay_n84 DetMay_n85 rfl rfl rfl ?_
                      refine ws_blockN DetMay_n86 7 rfl rfl rfl ?_
                      have hzi := hzc (by omega)
                      refine ws_region rfl ?_
                      refine wl_op (k := 0) (k' := 1) rfl rfl rfl (wo_run rfl rfl (run_move rfl rfl) ?_)
                      refine wl_op (k := 1) (k' := 2) rfl rfl rfl (wo_run rfl rfl (run_move rfl rfl) ?_)
                      refine wl_op (k := 2) (k' := 3) rfl rfl rfl (wo_run rfl rfl (run_move rfl rfl) ?_)
                      refine wl_op (k := 3) (k' := 4) rfl rfl rfl (wo_run rfl rfl (run_indexM (C := (cdV 43)) r2 rfl rfl rfl sl37 (by first | rfl | omega) hnn (by first | omega | (simp only [List.length_set, List.length_append, List.length_replicate, List.length_singleton, List.length_cons, List.length_nil]; omega))) ?_)
                      obtain ⟨hn6, hr6⟩ := hdnn.2 r2 (by first | omega | (simp only [List.length_set, List.length_append, List.length_replicate, List.length_singleton, List.length_cons, List.length_nil]; omega))
                      have rmhr6 : (ga nns r2).length * 24 ≤ 140737488355328 := hr6.room
                      have hW4 := h3nn.2 r2 (by have := h3nn.1; have := hdnn.1; first | omega | (simp_all; omega))
                      have hW4l := hW4.1
                      refine wl_op (k := 4) (k' := 5) rfl rfl rfl (wo_run rfl rfl (run_load1 rfl rfl Try.underlying43 rfl (hnn.cell S5.um (i := r2) (by first | omega | (simp only [List.length_set, List.length_append, List.length_replicate, List.length_singleton, List.length_cons, List.length_nil]; omega)) 0 rfl (congrArg (fun n => some (Value.slice _ n _)) hn6))) ?_)
                      refine wl_op (k := 5) (k' := 6) rfl rfl rfl (wo_run rfl rfl (run_move rfl rfl) ?_)
                      refine wl_op (k := 6) (k' := 7) rfl rfl rfl (wo_run rfl rfl (run_indexM (C := (cdV 22)) c rfl rfl rfl sl43 (by first | rfl | omega) hr6 (by first | omega | (simp only [List.length_set, List.length_append, List.length_replicate, List.length_singleton, List.length_cons, List.length_nil]; omega))) ?_)
                      obtain ⟨hn7, hr7⟩ := hW4.2 c (by first | omega | (simp only [List.length_set, List.length_append, List.length_replicate, List.length_singleton, List.length_cons, List.length_nil]; omega))
                      have rmhr7 : (ga (ga nn r2) c).length * 16 ≤ 140737488355328 := hr7.room
                      refine wl_op (k := 7) (k' := 8) rfl rfl rfl (wo_run rfl rfl (run_load1 rfl rfl Try.underlying22 rfl (hr6.cell S5.um (i := c) (by first | omega | (simp only [List.length_set, List.length_append, List.length_replicate, List.length_singleton, List.length_cons, List.length_nil]; omega)) 0 rfl (congrArg (fun n => some (Value.slice _ n _)) hn7))) ?_)
                      refine wl_op (k := 8) (k' := 9) rfl rfl rfl (wo_run rfl rfl (run_move rfl rfl) ?_)
                      refine wl_op (k := 9) (k' := 10) rfl rfl rfl (wo_run rfl rfl (run_indexM (C := cdTm) i rfl rfl rfl sl22 (by first | rfl | omega) hr7 (by first | omega | (simp only [List.length_set, List.length_append, List.length_replicate, List.length_singleton, List.length_cons, List.length_nil]; omega))) ?_)
                      refine wl_op (k := 10) (k' := 11) rfl rfl rfl (wo_run rfl rfl (run_fieldAddr rfl rfl Try.underlying89 rfl (ce3) (nf3)) ?_)
                      refine wl_op (k := 11) (k' := 12) rfl rfl rfl (wo_run rfl rfl (run_load1 rfl rfl Try.underlying3 rfl (hr7.cell S5.um (i := i) (by first | omega | (simp only [List.length_set, List.length_append, List.length_replicate, List.length_singleton, List.length_cons, List.length_nil]; omega)) 1 rfl rfl)) ?_)
                      refine wl_op (k := 12) (k' := 13) rfl rfl rfl (wo_cq rfl rfl rfl rfl rfl rfl rfl cf67 S5 (abs_q ((ga (ga (ga nn r2) c) i).c) ((by omega)) S5.lend) ?_)
                      rintro _ w6 S6 rfl; clear S5
                      refine wl_op (k := 13) (k' := 14) rfl rfl rfl (wo_run rfl rfl (run_add rfl rfl rfl (by first | omega | (simp only [List.length_set, List.length_append, List.length_replicate, List.length_singleton, List.length_cons, List.length_nil]; omega))) ?_)
                      refine wl_op (k := 14) (k' := 15) rfl rfl rfl (wo_run rfl rfl (run_assign rfl rfl) ?_)
                      refine wl_end rfl ?_
                      refine nm_blk ?_
                      refine nm_sub [(0, _), (4, _), (5, _), (6, _), (7, _), (8, _)] ⟨rfl, rfl, rfl, rfl, rfl, rfl, trivial⟩ ?_
                      refine nm_thn ?_
                      refine ws_region rfl ?_
                      refine wl_op (k := 0) (k' := 1) rfl rfl rfl (wo_run rfl rfl (run_move rfl rfl) ?_)
                      refine wl_op (k := 1) (k' := 2) rfl rfl rfl (wo_run rfl rfl (run_add rfl rfl rfl (by first | omega | (simp only [List.length_set, List.length_append, List.length_replicate, List.length_singleton, List.length_cons, List.length_nil]; omega))) ?_)
                      refine wl_op (k := 2) (k' := 3) rfl rfl rfl (wo_run rfl rfl (run_assign rfl rfl) ?_)
                      refine wl_end rfl ?_
                      refine nm_lp ?_
                      intro ax_ hax_
                      refine ⟨_, ?hq6m, ⟨i + 1, rfl, hax_.sub ⟨rfl, rfl, rfl, rfl, rfl, rfl, trivial⟩, S6.pick [] [] (by decide) trivial, ?hq6f0⟩⟩
                      case hq6f0 => omega
                      case hq6m => omega
                    · have hb56 := of_decide_eq_false hb56
                      refine ws_exit rfl rfl ?_
                      refine nm_sub [(0, _), (4, _), (5, _), (6, _), (7, _)] ⟨rfl, rfl, rfl, rfl, rfl, trivial⟩ ?_
                      refine nm_thn ?_
                      obtain rfl : i = (ga (ga nn r2) c).length := by omega
                      have hzd : szN (ga (ga nn r2) c) (ga (ga nn r2) c).length = szT (ga (ga nn r2) c) := rfl
                      refine ws_region rfl ?_
                      refine wl_op (k := 0) (k' := 1) rfl rfl rfl (wo_run rfl rfl (run_move rfl rfl) ?_)
                      refine wl_op (k := 1) (k' := 2) rfl rfl rfl (wo_run rfl rfl (run_move rfl rfl) ?_)
                      refine wl_split (t := 74) rfl (fun hg74 => ?_) (fun hg74 => ?_)
                      · refine wl_no (k := 2) (k' := 3) (d := 75) rfl rfl ⟨_, _, _, rfl, rfl, rfl, rfl⟩ rfl rfl ?_
                        refine wl_no (k := 3) (k' := 4) (d := 76) rfl rfl ⟨_, _, _, rfl, rfl, rfl, rfl⟩ rfl rfl ?_
                        refine wl_op (k := 4) (k' := 5) rfl rfl rfl (wo_run rfl rfl (run_pickT rfl rfl rfl) ?_)
                        refine wl_op (k := 5) (k' := 6) rfl rfl rfl (wo_run rfl rfl (run_assign rfl rfl) ?_)
                        refine wl_end rfl ?_
                        refine nm_blk ?_
                        refine nm_sub [(0, _), (4, _), (5, _), (6, _)] ⟨rfl, rfl, rfl, rfl, trivial⟩ ?_
                        refine nm_thn ?_
                        refine ws_eq 4 (.bool (gr2 || decide (100 < szT (ga (ga nn r2) c)))) rfl (congrArg Value.bool (by first | (rw [show gr2 = true by assumption]; rfl) | (rw [show gr2 = false by assumption]; rfl))) ?_
                        refine ws_region rfl ?_
                        refine wl_op (k := 0) (k' := 1) rfl rfl rfl (wo_run rfl rfl (run_move rfl rfl) ?_)
                        refine wl_op (k := 1) (k' := 2) rfl rfl rfl (wo_run rfl rfl (run_add rfl rfl rfl (by first | omega | (simp only [List.length_set, List.length_append, List.length_replicate, List.length_singleton, List.length_cons, List.length_nil]; omega))) ?_)
                        refine wl_op (k := 2) (k' := 3) rfl rfl rfl (wo_run rfl rfl (run_assign rfl rfl) ?_)
                        refine wl_end rfl ?_
                        refine nm_lp ?_
                        intro ax_ hax_
                        refine ⟨_, ?hq7m, ⟨c + 1, (gr2 || decide (100 < szT (ga (ga nn r2) c))), rfl, hax_.sub ⟨rfl, rfl, rfl, rfl, trivial⟩, S5.pick [] [] (by decide) trivial, ?hq7f0, ?hq7f1, ?hq7f2⟩⟩
                        case hq7f0 => omega
                        case hq7f1 => (rw [hgr2, bigR, Bool.or_assoc])
                        case hq7f2 => (intro k hk; by_cases h : k = c; (subst h; exact hm1); exact hmc k (by omega))
                        case hq7m => omega
                      · refine wl_opG (k := 2) (k' := 3) rfl rfl ⟨_, _, _, rfl, rfl, rfl, rfl⟩ rfl (wo_run rfl rfl (run_move rfl rfl) ?_)
                        refine wl_opG (k := 3) (k' := 4) rfl rfl ⟨_, _, _, rfl, rfl, rfl, rfl⟩ rfl (wo_run rfl rfl (run_gtr rfl rfl rfl) ?_)
                        refine wl_op (k := 4) (k' := 5) rfl rfl rfl (wo_run rfl rfl (run_pickF rfl rfl rfl) ?_)
                        refine wl_op (k := 5) (k' := 6) rfl rfl rfl (wo_run rfl rfl (run_assign rfl rfl) ?_)
                        refine wl_end rfl ?_
                        refine nm_blk ?_
                        refine nm_sub [(0, _), (4, _), (5, _), (6, _)] ⟨rfl, rfl, rfl, rfl, trivial⟩ ?_
                        refine nm_thn ?_
                        refine ws_eq 4 (.bool (gr2 || decide (100 < szT (ga (ga nn r2) c)))) rfl (congrArg Value.bool (by first | (rw [show gr2 = true by assumption]; rfl) | (rw [show gr2 = false by assumption]; rfl))) ?_
                        refine ws_region rfl ?_
                        refine wl_op (k := 0) (k' := 1) rfl rfl rfl (wo_run rfl rfl (run_move rfl rfl) ?_)
                        refine wl_op (k := 1) (k' := 2) rfl rfl rfl (wo_run rfl rfl (run_add rfl rfl rfl (by first | omega | (simp only [List.length_set, List.length_append, List.length_replicate, List.length_singleton, List.length_cons, List.length_nil]; omega))) ?_)
                        refine wl_op (k := 2) (k' := 3) rfl rfl rfl (wo_run rfl rfl (run_assign rfl rfl) ?_)
                        refine wl_end rfl ?_
                        refine nm_lp ?_
                        intro ax_ hax_
                        refine ⟨_, ?hq8m, ⟨c + 1, (gr2 || decide (100 < szT (ga (ga nn r2) c))), rfl, hax_.sub ⟨rfl, rfl, rfl, rfl, trivial⟩, S5.pick [] [] (by decide) trivial, ?hq8f0, ?hq8f1, ?hq8f2⟩⟩
                        case hq8f0 => omega
                        case hq8f1 => (rw [hgr2, bigR, Bool.or_assoc])
                        case hq8f2 => (intro k hk; by_cases h : k = c; (subst h; exact hm1); exact hmc k (by omega))
                        case hq8m => omega
              · have hb35 := of_decide_eq_false hb35
                refine ws_exit rfl rfl ?_
                refine nm_blk ?_
                refine nm_sub [(0, _), (4, _), (5, _)] ⟨rfl, rfl, rfl, trivial⟩ ?_
                refine nm_thn ?_
                refine ws_region rfl ?_
                refine wl_op (k := 0) (k' := 1) rfl rfl rfl (wo_run rfl rfl (run_move rfl rfl) ?_)
                refine wl_op (k := 1) (k' := 2) rfl rfl rfl (wo_run rfl rfl (run_add rfl rfl rfl (by first | omega | (simp only [List.length_set, List.length_append, List.length_replicate, List.length_singleton, List.length_cons, List.length_nil]; omega))) ?_)
                refine wl_op (k := 2) (k' := 3) rfl rfl rfl (wo_run rfl rfl (run_assign rfl rfl) ?_)
                refine wl_end rfl ?_
                refine nm_lp ?_
                intro ax_ hax_
                refine ⟨_, ?hq9m, ⟨r2 + 1, gr2, rfl, hax_.sub ⟨rfl, rfl, rfl, trivial⟩, S3.pick [] [] (by decide) trivial, ?hq9f0, ?hq9f1, ?hq9f2⟩⟩
                case hq9f0 => omega
                case hq9f1 => (obtain rfl : c = nn.length := (by omega); rw [bigN]; exact hgr2)
                case hq9f2 => (intro j hj k hk; by_cases h : j = r2; (subst h; exact hmc k (by omega)); exact hmay j (by omega) k hk)
                case hq9m => omega
          · have hb29 := of_decide_eq_false hb29
            refine ws_exit rfl rfl ?_
            refine nm_sub [(4, _)] ⟨rfl, trivial⟩ ?_
            refine nm_thn ?_
            refine ws_seqN DetMay_n87 DetMay_n88 rfl rfl rfl ?_
            refine ws_seqN DetMay_n89 DetMay_n90 rfl rfl rfl ?_
            obtain rfl : r2 = nn.length := by omega
            refine ws_region rfl ?_
            refine wl_op (k := 0) (k' := 1) rfl rfl rfl (wo_run rfl rfl (run_move rfl rfl) ?_)
            refine wl_end rfl ?_
            refine nm_sub [(78, _)] ⟨rfl, trivial⟩ ?_
            refine nm_thn ?_
            refine ws_condN DetMay_n91 DetMay_n92 rfl rfl rfl rfl (fun hb78 => ?_) (fun hb78 => ?_)
            · have hgt : bigN nn nn.length = true := by rw [← hgr]; exact hb78
              refine ws_seqN DetMay_n93 DetMay_n94 rfl rfl rfl ?_
              refine ws_region rfl ?_
              refine wl_op (k := 0) (k' := 1) rfl rfl rfl (wo_run rfl rfl (run_assign rfl rfl) ?_)
              refine wl_end rfl ?_
              refine nm_sub [(2, _)] ⟨rfl, trivial⟩ ?_
              refine nm_thn ?_
              refine ws_ret hC [_] rfl rfl ⟨rfl, trivial⟩ ?_
              exact ⟨_, rfl, (S2.pick [] [] (by decide) trivial), (by show Value.int _ _ = _; unfold detE; rw [if_pos (sqB_iff.2 ⟨by omega, fun i hi => hsq i (by omega)⟩), if_neg (by rw [may_flat (fun i hi k hk => hmay i (by omega) k (by rw [← hsq i (by omega)]; exact hk))]; exact Bool.false_ne_true), if_pos (by rw [big_flat (sqB_iff.2 ⟨by omega, fun i hi => hsq i (by omega)⟩)]; exact hgt)])⟩
            · have hgt : bigN nn nn.length = false := by rw [← hgr]; exact hb78
              refine ws_skip rfl ?_
              refine nm_sub [] trivial ?_
              refine nm_thn ?_
              refine ws_seqN DetMay_n95 DetMay_n96 rfl rfl rfl ?_
              refine ws_region rfl ?_
              refine wl_op (k := 0) (k' := 1) rfl rfl rfl (wo_run rfl rfl (run_assign rfl rfl) ?_)
              refine wl_end rfl ?_
              refine nm_thn ?_
              refine ws_ret hC [_] rfl rfl ⟨rfl, trivial⟩ ?_
              exact ⟨_, rfl, (S2.pick [] [] (by decide) trivial), (by show Value.int _ _ = _; unfold detE; rw [if_pos (sqB_iff.2 ⟨by omega, fun i hi => hsq i (by omega)⟩), if_neg (by rw [may_flat (fun i hi k hk => hmay i (by omega) k (by rw [← hsq i (by omega)]; exact hk))]; exact Bool.false_ne_true), if_neg (by rw [big_flat (sqB_iff.2 ⟨by omega, fun i hi => hsq i (by omega)⟩)]; simpa using hgt)])⟩

noncomputable def Grow_n0 : Code := Try.f110.body.getD .skip
noncomputable def Grow_n1 : Code := cL Grow_n0
noncomputable def Grow_n2 : Code := cR Grow_n0
noncomputable def Grow_n3 : Code := cL Grow_n2
noncomputable def Grow_n4 : Code := cR Grow_n2
noncomputable def Grow_n5 : Code := cL Grow_n3
noncomputable def Grow_n6 : Code := cR Grow_n3
noncomputable def Grow_n7 : Code := cL Grow_n6
noncomputable def Grow_n8 : Code := cR Grow_n6
noncomputable def Grow_n9 : Code := cL Grow_n4
noncomputable def Grow_n10 : Code := cR Grow_n4
noncomputable def Grow_n11 : Code := cL Grow_n9
noncomputable def Grow_n12 : Code := cR Grow_n9
noncomputable def Grow_n13 : Code := cL Grow_n12
noncomputable def Grow_n14 : Code := cR Grow_n12
noncomputable def Grow_n15 : Code := cL Grow_n14
noncomputable def Grow_n16 : Code := cR Grow_n14
noncomputable def Grow_n17 : Code := cL Grow_n10
noncomputable def Grow_n18 : Code := cR Grow_n10
set_option maxRecDepth 10000 in
theorem Grow_o {w : World} {M : Hp} {X : Fr} (k : Nat) (hk : k ≤ 1000) (S : SH w M X []) : Co Try.prog 110 [.slice none 0 0, .int .i64 (k : Int)] w M X (fun u N => N = [Rs.row (cdV 22) u []]) := by
  unfold Co
  refine calls_in (b := Grow_n0) Try.func110 rfl Try.ntmps110 rfl (fun C hC => ?_)
  refine ws_sub [(0, _), (1, _)] ⟨rfl, rfl, trivial⟩ ?_
  refine ws_seqN Grow_n1 Grow_n2 rfl rfl rfl ?_
  refine ws_region rfl ?_
  refine wl_op (k := 0) (k' := 1) rfl rfl rfl (wo_run rfl rfl (run_assign rfl rfl) ?_)
  refine wl_end rfl ?_
  refine nm_sub [(0, _), (1, _)] ⟨rfl, rfl, trivial⟩ ?_
  refine nm_thn ?_
  refine ws_seqN Grow_n3 Grow_n4 rfl rfl rfl ?_
  refine ws_seqN Grow_n5 Grow_n6 rfl rfl rfl ?_
  refine ws_region rfl ?_
  refine wl_op (k := 0) (k' := 1) rfl rfl rfl (wo_run rfl rfl (run_move rfl rfl) ?_)
  refine wl_op (k := 1) (k' := 2) rfl rfl rfl (wo_run rfl rfl (run_lss rfl rfl rfl) ?_)
  refine wl_end rfl ?_
  refine nm_sub [(0, _), (1, _), (6, _)] ⟨rfl, rfl, rfl, trivial⟩ ?_
  refine nm_thn ?_
  refine ws_condN Grow_n7 Grow_n8 rfl rfl rfl rfl (fun hb6 => ?_) (fun hb6 => ?_)
  · have hb6 := of_decide_eq_true hb6
    exfalso; omega
  · have hb6 := of_decide_eq_false hb6
    refine ws_skip rfl ?_
    refine nm_sub [(0, _), (1, _)] ⟨rfl, rfl, trivial⟩ ?_
    refine nm_thn ?_
    refine ws_seqN Grow_n9 Grow_n10 rfl rfl rfl ?_
    refine ws_seqN Grow_n11 Grow_n12 rfl rfl rfl ?_
    refine ws_region rfl ?_
    refine wl_op (k := 0) (k' := 1) rfl rfl rfl (wo_run rfl rfl (run_move rfl rfl) ?_)
    refine wl_op (k := 1) (k' := 2) rfl rfl rfl (wo_run rfl rfl (run_move rfl rfl) ?_)
    refine wl_op (k := 2) (k' := 3) rfl rfl rfl (wo_run rfl rfl (run_capNil rfl rfl rfl rfl rfl rfl Try.underlying43) ?_)
    refine wl_op (k := 3) (k' := 4) rfl rfl rfl (wo_run rfl rfl (run_move rfl rfl) ?_)
    refine wl_op (k := 4) (k' := 5) rfl rfl rfl (wo_run rfl rfl (run_len rfl rfl rfl rfl rfl rfl Try.underlying43) ?_)
    refine wl_op (k := 5) (k' := 6) rfl rfl rfl (wo_run rfl rfl (run_sub rfl rfl rfl (by first | omega | (simp only [List.length_set, List.length_append, List.length_replicate, List.length_singleton, List.length_cons, List.length_nil]; omega))) ?_)
    refine wl_op (k := 6) (k' := 7) rfl rfl rfl (wo_run rfl rfl (run_sub rfl rfl rfl (by omega)) ?_)
    refine wl_op (k := 7) (k' := 8) rfl rfl rfl (wo_run rfl rfl (run_assign rfl rfl) ?_)
    refine wl_end rfl ?_
    refine nm_sub [(0, _), (1, _)] ⟨rfl, rfl, trivial⟩ ?_
    refine nm_thn ?_
    refine ws_seqN Grow_n13 Grow_n14 rfl rfl rfl ?_
    refine ws_region rfl ?_
    refine wl_op (k := 0) (k' := 1) rfl rfl rfl (wo_run rfl rfl (run_move rfl rfl) ?_)
    refine wl_op (k := 1) (k' := 2) rfl rfl rfl (wo_run rfl rfl (run_gtr rfl rfl rfl) ?_)
    refine wl_end rfl ?_
    refine nm_sub [(0, _), (1, _), (16, _)] ⟨rfl, rfl, rfl, trivial⟩ ?_
    refine nm_thn ?_
    refine ws_condN Grow_n15 Grow_n16 rfl rfl rfl rfl (fun hb16 => ?_) (fun hb16 => ?_)
    · have hb16 := of_decide_eq_true hb16
      refine ws_region rfl ?_
      refine wl_op (k := 0) (k' := 1) rfl rfl rfl (wo_run rfl rfl (run_move rfl rfl) ?_)
      refine wl_op (k := 1) (k' := 2) rfl rfl rfl (wo_run rfl rfl (run_move rfl rfl) ?_)
      refine wl_op (k := 2) (k' := 3) rfl rfl rfl (wo_run rfl rfl (run_capNil rfl rfl rfl rfl rfl rfl Try.underlying43) ?_)
      refine wl_op (k := 3) (k' := 4) rfl rfl rfl (wo_run rfl rfl (run_sliceNil rfl rfl rfl sl43) ?_)
      refine wl_op (k := 4) (k' := 5) rfl rfl rfl (wo_run rfl rfl (run_move rfl rfl) ?_)
      refine wl_op (k := 5) (k' := 6) rfl rfl rfl (wo_growNil (C := (cdV 22)) (((k : Int) - (0 - ((0 : Nat) : Int))).toNat) (by omega) rfl rfl rfl rfl rfl rfl rfl rfl sl43 Try.underlying3 (by show _ * 24 ≤ _; first | omega | (simp only [List.length_set, List.length_append, List.length_replicate, List.length_singleton, List.length_cons, List.length_nil]; omega)) S ?_)
      intro vr1 w1 S1; clear S
      refine wl_op (k := 6) (k' := 7) rfl rfl rfl (wo_run rfl rfl (run_move rfl rfl) ?_)
      refine wl_op (k := 7) (k' := 8) rfl rfl rfl (wo_run rfl rfl (run_len rfl rfl rfl rfl rfl rfl Try.underlying43) ?_)
      refine wl_op (k := 8) (k' := 9) rfl rfl rfl (wo_takeR (C := (cdV 22)) (i := 0) 0 rfl rfl rfl rfl rfl sl43 (by first | rfl | omega) (by first | omega | (simp only [List.length_set, List.length_append, List.length_replicate, List.length_singleton, List.length_cons, List.length_nil]; omega)) S1 rfl ?_)
      intro vr2 S2; clear S1
      change SH _ _ _ [Rs.row (cdV 22) vr2 ((List.replicate (((k : Int) - (0 - ((0 : Nat) : Int))).toNat) (cdV 22).z).take 0)] at S2
      refine wl_op (k := 9) (k' := 10) rfl rfl rfl (wo_run rfl rfl (run_assign rfl rfl) ?_)
      refine wl_end rfl ?_
      refine nm_sub [(0, _)] ⟨rfl, trivial⟩ ?_
      refine nm_thn ?_
      refine ws_seqN Grow_n17 Grow_n18 rfl rfl rfl ?_
      refine ws_region rfl ?_
      refine wl_op (k := 0) (k' := 1) rfl rfl rfl (wo_run rfl rfl (run_move rfl rfl) ?_)
      refine wl_op (k := 1) (k' := 2) rfl rfl rfl (wo_run rfl rfl (run_assign rfl rfl) ?_)
      refine wl_end rfl ?_
      refine nm_sub [(4, _)] ⟨rfl, trivial⟩ ?_
      refine nm_thn ?_
      refine ws_ret hC [_] rfl rfl ⟨rfl, trivial⟩ ?_
      exact ⟨_, rfl, _, S2.pick [0] [_] (by decide) ⟨rfl, trivial⟩, by first | rfl | (rw [List.take_zero])⟩
    · have hb16 := of_decide_eq_false hb16
      refine ws_skip rfl ?_
      refine nm_sub [(0, _)] ⟨rfl, trivial⟩ ?_
      refine nm_thn ?_
      refine ws_seqN Grow_n17 Grow_n18 rfl rfl rfl ?_
      refine ws_region rfl ?_
      refine wl_op (k := 0) (k' := 1) rfl rfl rfl (wo_run rfl rfl (run_move rfl rfl) ?_)
      refine wl_op (k := 1) (k' := 2) rfl rfl rfl (wo_run rfl rfl (run_assign rfl rfl) ?_)
      refine wl_end rfl ?_
      refine nm_sub [(4, _)] ⟨rfl, trivial⟩ ?_
      refine nm_thn ?_
      have S3 := S.nilrow (cdV 22); clear S
      refine ws_ret hC [_] rfl rfl ⟨rfl, trivial⟩ ?_
      exact ⟨_, rfl, _, S3.pick [0] [_] (by decide) ⟨rfl, trivial⟩, by first | rfl | (rw [List.take_zero])⟩

noncomputable def Concat_n0 : Code := Try.f70.body.getD .skip
noncomputable def Concat_n1 : Code := cL Concat_n0
noncomputable def Concat_n2 : Code := cR Concat_n0
noncomputable def Concat_n3 : Code := cL Concat_n2
noncomputable def Concat_n4 : Code := cR Concat_n2
noncomputable def Concat_n5 : Code := cL Concat_n4
noncomputable def Concat_n6 : Code := cR Concat_n4
noncomputable def Concat_n7 : Code := cL Concat_n5
noncomputable def Concat_n8 : Code := cR Concat_n5
noncomputable def Concat_n9 : Code := cL Concat_n8
noncomputable def Concat_n10 : Code := cL Concat_n9
noncomputable def Concat_n11 : Code := cL Concat_n10
noncomputable def Concat_n12 : Code := cR Concat_n10
noncomputable def Concat_n13 : Code := cL Concat_n12
noncomputable def Concat_n14 : Code := cR Concat_n12
noncomputable def Concat_n15 : Code := cL Concat_n13
noncomputable def Concat_n16 : Code := cR Concat_n13
noncomputable def Concat_n17 : Code := cL Concat_n14
noncomputable def Concat_n18 : Code := cR Concat_n14
noncomputable def Concat_n19 : Code := cL Concat_n17
noncomputable def Concat_n20 : Code := cL Concat_n19
noncomputable def Concat_n21 : Code := cR Concat_n19
noncomputable def Concat_n22 : Code := cL Concat_n21
noncomputable def Concat_n23 : Code := cR Concat_n21
noncomputable def Concat_n24 : Code := cL Concat_n23
noncomputable def Concat_n25 : Code := cR Concat_n23
noncomputable def Concat_n26 : Code := cL Concat_n25
noncomputable def Concat_n27 : Code := cR Concat_n25
noncomputable def Concat_n28 : Code := cL Concat_n6
noncomputable def Concat_n29 : Code := cR Concat_n6
noncomputable def Concat_n30 : Code := cL Concat_n29
noncomputable def Concat_n31 : Code := cR Concat_n29
noncomputable def Concat_n32 : Code := cL Concat_n30
noncomputable def Concat_n33 : Code := cR Concat_n30
noncomputable def Concat_n34 : Code := cL Concat_n33
noncomputable def Concat_n35 : Code := cL Concat_n34
noncomputable def Concat_n36 : Code := cL Concat_n35
noncomputable def Concat_n37 : Code := cR Concat_n35
noncomputable def Concat_n38 : Code := cL Concat_n37
noncomputable def Concat_n39 : Code := cR Concat_n37
noncomputable def Concat_n40 : Code := cL Concat_n38
noncomputable def Concat_n41 : Code := cR Concat_n38
noncomputable def Concat_n42 : Code := cL Concat_n39
noncomputable def Concat_n43 : Code := cR Concat_n39
noncomputable def Concat_n44 : Code := cL Concat_n42
noncomputable def Concat_n45 : Code := cL Concat_n44
noncomputable def Concat_n46 : Code := cR Concat_n44
noncomputable def Concat_n47 : Code := cL Concat_n31
noncomputable def Concat_n48 : Code := cR Concat_n31
set_option maxRecDepth 10000 in
theorem Concat_o {w : World} {M : Hp} {X : Fr} (nn : List (List (List Tm))) {nnA : Option Addr} {nnc : Nat} {nnv : List SlV} {nns : List (List SlV)} (hnn : RdA (cdV 43) M nnA nnc nnv) (hdnn : Rd2 (cdV 22) M nnv nns) (h3nn : RdD cdTm M nns nn) (hl6 : nn.length ≤ 6) (hle : ∀ i, i < nn.length → (ga nn i).length ≤ 6) (S : SH w M X []) : Co Try.prog 70 [.slice nnA nnv.length nnc] w M X (fun u N => ∃ vs, Rd2 cdTm M vs nn.flatten ∧ N = [Rs.row (cdV 22) u vs]) := by
  unfold Co
  have rmhnn : nnv.length * 24 ≤ 140737488355328 := hnn.room
  have hnl := hdnn.1
  have hn3 := h3nn.1
  refine calls_in (b := Concat_n0) Try.func70 rfl Try.ntmps70 rfl (fun C hC => ?_)
  refine ws_sub [(0, _)] ⟨rfl, trivial⟩ ?_
  refine ws_seqN Concat_n1 Concat_n2 rfl rfl rfl ?_
  refine ws_region rfl ?_
  refine wl_op (k := 0) (k' := 1) rfl rfl rfl (wo_run rfl rfl (run_assign rfl rfl) ?_)
  refine wl_end rfl ?_
  refine nm_sub [(0, _)] ⟨rfl, trivial⟩ ?_
  refine nm_thn ?_
  refine ws_seqN Concat_n3 Concat_n4 rfl rfl rfl ?_
  refine ws_region rfl ?_
  refine wl_op (k := 0) (k' := 1) rfl rfl rfl (wo_run rfl rfl (run_assign rfl rfl) ?_)
  refine wl_end rfl ?_
  refine nm_thn ?_
  refine ws_seqN Concat_n5 Concat_n6 rfl rfl rfl ?_
  refine ws_seqN Concat_n7 Concat_n8 rfl rfl rfl ?_
  refine ws_region rfl ?_
  refine wl_op (k := 0) (k' := 1) rfl rfl rfl (wo_run rfl rfl (run_move rfl rfl) ?_)
  refine wl_op (k := 1) (k' := 2) rfl rfl rfl (wo_run rfl rfl (run_len rfl rfl rfl rfl rfl rfl Try.underlying37) ?_)
  refine wl_op (k := 2) (k' := 3) rfl rfl rfl (wo_run rfl rfl (run_move rfl rfl) ?_)
  refine wl_end rfl ?_
  refine nm_thn ?_
  refine ws_blockN Concat_n9 0 rfl rfl rfl ?_
  refine ws_loopE (fun mx_ ax_ wx_ => ∃ (i : Nat) (z : Nat), mx_ = nn.length - i ∧ Env 36 [(0, .slice nnA nnv.length nnc), (3, .int .i64 (z : Int)), (9, .slice nnA nnv.length nnc), (10, .int .i64 (nnv.length : Int)), (11, .int .i64 (i : Int))] ax_ ∧ SH wx_ M X [] ∧ i ≤ nn.length ∧ z ≤ 6 * i) rfl ?_ ?_
  · intro ax_ hax_
    refine ⟨_, ⟨0, 0, rfl, hax_.sub ⟨rfl, rfl, rfl, rfl, rfl, trivial⟩, S.pick [] [] (by decide) trivial, ?hq1f0, ?hq1f1⟩⟩
    case hq1f0 => omega
    case hq1f1 => omega
  · rintro m1 a1 w1 ⟨i, z, rfl, he1, S1, hi, hz⟩
    clear S
    refine ws_in he1 (c := Concat_n10) rfl ?_
    clear he1 a1
    have hle1 := fun h => hle i h
    refine ws_seqN Concat_n11 Concat_n12 rfl rfl rfl ?_
    refine ws_region rfl ?_
    refine wl_op (k := 0) (k' := 1) rfl rfl rfl (wo_run rfl rfl (run_lss rfl rfl rfl) ?_)
    refine wl_end rfl ?_
    refine nm_thn ?_
    refine ws_seqN Concat_n13 Concat_n14 rfl rfl rfl ?_
    refine ws_condN Concat_n15 Concat_n16 rfl rfl rfl rfl (fun hb12 => ?_) (fun hb12 => ?_)
    · have hb12 := of_decide_eq_true hb12
      refine ws_skip rfl ?_
      refine nm_sub [(0, _), (3, _), (9, _), (10, _), (11, _)] ⟨rfl, rfl, rfl, rfl, rfl, trivial⟩ ?_
      refine nm_thn ?_
      refine ws_seqN Concat_n17 Concat_n18 rfl rfl rfl ?_
      refine ws_blockN Concat_n19 1 rfl rfl rfl ?_
      refine ws_seqN Concat_n20 Concat_n21 rfl rfl rfl ?_
      refine ws_region rfl ?_
      refine wl_op (k := 0) (k' := 1) rfl rfl rfl (wo_run rfl rfl (run_indexM (C := (cdV 43)) i rfl rfl rfl sl37 (by first | rfl | omega) hnn (by first | omega | (simp only [List.length_set, List.length_append, List.length_replicate, List.length_singleton, List.length_cons, List.length_nil]; omega))) ?_)
      obtain ⟨hn1, hr1⟩ := hdnn.2 i (by first | omega | (simp only [List.length_set, List.length_append, List.length_replicate, List.length_singleton, List.length_cons, List.length_nil]; omega))
      have rmhr1 : (ga nns i).length * 24 ≤ 140737488355328 := hr1.room
      have hW1 := h3nn.2 i (by have := h3nn.1; have := hdnn.1; first | omega | (simp_all; omega))
      have hW1l := hW1.1
      refine wl_op (k := 1) (k' := 2) rfl rfl rfl (wo_run rfl rfl (run_load1 rfl rfl Try.underlying43 rfl (hnn.cell S1.m (i := i) (by first | omega | (simp only [List.length_set, List.length_append, List.length_replicate, List.length_singleton, List.length_cons, List.length_nil]; omega)) 0 rfl (congrArg (fun n => some (Value.slice _ n _)) hn1))) ?_)
      refine wl_op (k := 2) (k' := 3) rfl rfl rfl (wo_run rfl rfl (run_assign rfl rfl) ?_)
      refine wl_end rfl ?_
      refine nm_sub [(0, _), (3, _), (9, _), (10, _), (11, _), (5, _)] ⟨rfl, rfl, rfl, rfl, rfl, rfl, trivial⟩ ?_
      refine nm_thn ?_
      refine ws_seqN Concat_n22 Concat_n23 rfl rfl rfl ?_
      have hli := hle i (by omega)
      refine ws_region rfl ?_
      refine wl_op (k := 0) (k' := 1) rfl rfl rfl (wo_run rfl rfl (run_move rfl rfl) ?_)
      refine wl_op (k := 1) (k' := 2) rfl rfl rfl (wo_run rfl rfl (run_move rfl rfl) ?_)
      refine wl_op (k := 2) (k' := 3) rfl rfl rfl (wo_run rfl rfl (run_len rfl rfl rfl rfl rfl rfl Try.underlying43) ?_)
      refine wl_op (k := 3) (k' := 4) rfl rfl rfl (wo_run rfl rfl (run_add rfl rfl rfl (by first | omega | (simp only [List.length_set, List.length_append, List.length_replicate, List.length_singleton, List.length_cons, List.length_nil]; omega))) ?_)
      refine wl_op (k := 4) (k' := 5) rfl rfl rfl (wo_run rfl rfl (run_assign rfl rfl) ?_)
      refine wl_end rfl ?_
      refine nm_sub [(0, _), (3, _), (9, _), (10, _), (11, _)] ⟨rfl, rfl, rfl, rfl, rfl, trivial⟩ ?_
      refine nm_thn ?_
      refine ws_seqN Concat_n24 Concat_n25 rfl rfl rfl ?_
      refine ws_region rfl ?_
      refine wl_op (k := 0) (k' := 1) rfl rfl rfl (wo_run rfl rfl (run_move rfl rfl) ?_)
      refine wl_op (k := 1) (k' := 2) rfl rfl rfl (wo_run rfl rfl (run_lss rfl rfl rfl) ?_)
      refine wl_end rfl ?_
      refine nm_sub [(0, _), (3, _), (9, _), (10, _), (11, _), (20, _)] ⟨rfl, rfl, rfl, rfl, rfl, rfl, trivial⟩ ?_
      refine nm_thn ?_
      refine ws_condN Concat_n26 Concat_n27 rfl rfl rfl rfl (fun hb20 => ?_) (fun hb20 => ?_)
      · have hb20 := of_decide_eq_true hb20
        exfalso; omega
      · have hb20 := of_decide_eq_false hb20
        refine ws_skip rfl ?_
        refine nm_blk ?_
        refine nm_sub [(0, _), (3, _), (9, _), (10, _), (11, _)] ⟨rfl, rfl, rfl, rfl, rfl, trivial⟩ ?_
        refine nm_thn ?_
        refine ws_eq 3 (.int .i64 ((z + (ga nn i).length : Nat) : Int)) rfl (int_eq (by omega)) ?_
        refine ws_region rfl ?_
        refine wl_op (k := 0) (k' := 1) rfl rfl rfl (wo_run rfl rfl (run_add rfl rfl rfl (by first | omega | (simp only [List.length_set, List.length_append, List.length_replicate, List.length_singleton, List.length_cons, List.length_nil]; omega))) ?_)
        refine wl_op (k := 1) (k' := 2) rfl rfl rfl (wo_run rfl rfl (run_move rfl rfl) ?_)
        refine wl_end rfl ?_
        refine nm_lp ?_
        intro ax_ hax_
        refine ⟨_, ?hq2m, ⟨i + 1, z + (ga nn i).length, rfl, hax_.sub ⟨rfl, rfl, rfl, rfl, rfl, trivial⟩, S1.pick [] [] (by decide) trivial, ?hq2f0, ?hq2f1⟩⟩
        case hq2f0 => omega
        case hq2f1 => (have := hle i (by omega); omega)
        case hq2m => omega
    · have hb12 := of_decide_eq_false hb12
      refine ws_exit rfl rfl ?_
      refine nm_sub [(0, _), (3, _)] ⟨rfl, rfl, trivial⟩ ?_
      refine nm_thn ?_
      refine ws_seqN Concat_n28 Concat_n29 rfl rfl rfl ?_
      refine ws_region rfl ?_
      refine wl_op (k := 0) (k' := 1) rfl rfl rfl (wo_run rfl rfl (run_move rfl rfl) ?_)
      refine wl_op (k := 1) (k' := 2) rfl rfl rfl (wo_co rfl rfl rfl rfl rfl rfl rfl cf110 S1 (Grow_o z (by omega) S1.lend) ?_)
      intro vw2 w2 Nw2 S2 hRw2; clear S1
      obtain rfl := hRw2
      change SH _ _ _ [_] at S2
      refine wl_op (k := 2) (k' := 3) rfl rfl rfl (wo_run rfl rfl (run_assign rfl rfl) ?_)
      refine wl_end rfl ?_
      refine nm_sub [(0, _), (6, _)] ⟨rfl, rfl, trivial⟩ ?_
      refine nm_thn ?_
      refine ws_seqN Concat_n30 Concat_n31 rfl rfl rfl ?_
      refine ws_seqN Concat_n32 Concat_n33 rfl rfl rfl ?_
      refine ws_region rfl ?_
      refine wl_op (k := 0) (k' := 1) rfl rfl rfl (wo_run rfl rfl (run_move rfl rfl) ?_)
      refine wl_op (k := 1) (k' := 2) rfl rfl rfl (wo_run rfl rfl (run_len rfl rfl rfl rfl rfl rfl Try.underlying37) ?_)
      refine wl_op (k := 2) (k' := 3) rfl rfl rfl (wo_run rfl rfl (run_move rfl rfl) ?_)
      refine wl_end rfl ?_
      refine nm_sub [(6, _), (25, _), (26, _), (27, _)] ⟨rfl, rfl, rfl, rfl, trivial⟩ ?_
      refine nm_thn ?_
      refine ws_blockN Concat_n34 2 rfl rfl rfl ?_
      refine ws_loopE (fun mx_ ax_ wx_ => ∃ (i : Nat) (av : List SlV) (ax : List (List Tm)) (vra : Value), mx_ = nn.length - i ∧ Env 36 [(6, vra), (25, .slice nnA nnv.length nnc), (26, .int .i64 (nnv.length : Int)), (27, .int .i64 (i : Int))] ax_ ∧ SH wx_ M X [Rs.row (cdV 22) vra av] ∧ i ≤ nn.length ∧ ax = (nn.take i).flatten ∧ ax.length ≤ 6 * i ∧ Rd2 cdTm M av ax) rfl ?_ ?_
      · intro ax_ hax_
        refine ⟨_, ⟨0, _, ([]), _, rfl, hax_.sub ⟨rfl, rfl, rfl, rfl, trivial⟩, S2.pick [0] [_] (by decide) ⟨rfl, trivial⟩, ?hq3f0, ?hq3f1, ?hq3f2, ?hq3f3⟩⟩
        case hq3f0 => omega
        case hq3f1 => rfl
        case hq3f2 => simp
        case hq3f3 => exact Rd2.nil_
      · rintro m2 a2 w3 ⟨i, av, ax, vra, rfl, he2, S3, hi2, hax, hal, ha2⟩
        clear S2
        refine ws_in he2 (c := Concat_n35) rfl ?_
        clear he2 a2
        have ha21 := ha2.1
        have hle1 := fun h => hle i h
        refine ws_seqN Concat_n36 Concat_n37 rfl rfl rfl ?_
        refine ws_region rfl ?_
        refine wl_op (k := 0) (k' := 1) rfl rfl rfl (wo_run rfl rfl (run_lss rfl rfl rfl) ?_)
        refine wl_end rfl ?_
        refine nm_thn ?_
        refine ws_seqN Concat_n38 Concat_n39 rfl rfl rfl ?_
        refine ws_condN Concat_n40 Concat_n41 rfl rfl rfl rfl (fun hb28 => ?_) (fun hb28 => ?_)
        · have hb28 := of_decide_eq_true hb28
          refine ws_skip rfl ?_
          refine nm_sub [(6, _), (25, _), (26, _), (27, _)] ⟨rfl, rfl, rfl, rfl, trivial⟩ ?_
          refine nm_thn ?_
          refine ws_seqN Concat_n42 Concat_n43 rfl rfl rfl ?_
          refine ws_blockN Concat_n44 3 rfl rfl rfl ?_
          refine ws_seqN Concat_n45 Concat_n46 rfl rfl rfl ?_
          refine ws_region rfl ?_
          refine wl_op (k := 0) (k' := 1) rfl rfl rfl (wo_run rfl rfl (run_indexM (C := (cdV 43)) i rfl rfl rfl sl37 (by first | rfl | omega) hnn (by first | omega | (simp only [List.length_set, List.length_append, List.length_replicate, List.length_singleton, List.length_cons, List.length_nil]; omega))) ?_)
          obtain ⟨hn2, hr2⟩ := hdnn.2 i (by first | omega | (simp only [List.length_set, List.length_append, List.length_replicate, List.length_singleton, List.length_cons, List.length_nil]; omega))
          have rmhr2 : (ga nns i).length * 24 ≤ 140737488355328 := hr2.room
          have hW2 := h3nn.2 i (by have := h3nn.1; have := hdnn.1; first | omega | (simp_all; omega))
          have hW2l := hW2.1
          refine wl_op (k := 1) (k' := 2) rfl rfl rfl (wo_run rfl rfl (run_load1 rfl rfl Try.underlying43 rfl (hnn.cell S3.m (i := i) (by first | omega | (simp only [List.length_set, List.length_append, List.length_replicate, List.length_singleton, List.length_cons, List.length_nil]; omega)) 0 rfl (congrArg (fun n => some (Value.slice _ n _)) hn2))) ?_)
          refine wl_op (k := 2) (k' := 3) rfl rfl rfl (wo_run rfl rfl (run_assign rfl rfl) ?_)
          refine wl_end rfl ?_
          refine nm_sub [(6, _), (25, _), (26, _), (27, _), (8, _)] ⟨rfl, rfl, rfl, rfl, rfl, trivial⟩ ?_
          refine nm_thn ?_
          refine ws_region rfl ?_
          refine wl_op (k := 0) (k' := 1) rfl rfl rfl (wo_run rfl rfl (run_move rfl rfl) ?_)
          refine wl_op (k := 1) (k' := 2) rfl rfl rfl (wo_run rfl rfl (run_move rfl rfl) ?_)
          refine wl_op (k := 2) (k' := 3) rfl rfl rfl (wo_appendM (C := (cdV 22)) (i := 0) rfl rfl rfl rfl rfl rfl rfl rfl sl43 S3 rfl hr2 S3.m (by show (_ + _) * 24 ≤ _; have := hle i (by omega); omega) ?_)
          intro vra1 w4 S4; clear S3
          change SH _ _ _ [Rs.row (cdV 22) vra1 (av ++ (ga nns i))] at S4
          have hd1 := ha2.app hW2
          refine wl_op (k := 3) (k' := 4) rfl rfl rfl (wo_run rfl rfl (run_assign rfl rfl) ?_)
          refine wl_end rfl ?_
          refine nm_blk ?_
          refine nm_sub [(6, _), (25, _), (26, _), (27, _)] ⟨rfl, rfl, rfl, rfl, trivial⟩ ?_
          refine nm_thn ?_
          refine ws_region rfl ?_
          refine wl_op (k := 0) (k' := 1) rfl rfl rfl (wo_run rfl rfl (run_add rfl rfl rfl (by first | omega | (simp only [List.length_set, List.length_append, List.length_replicate, List.length_singleton, List.length_cons, List.length_nil]; omega))) ?_)
          refine wl_op (k := 1) (k' := 2) rfl rfl rfl (wo_run rfl rfl (run_move rfl rfl) ?_)
          refine wl_end rfl ?_
          refine nm_lp ?_
          intro ax_ hax_
          refine ⟨_, ?hq4m, ⟨i + 1, _, (ax ++ (ga nn i)), _, rfl, hax_.sub ⟨rfl, rfl, rfl, rfl, trivial⟩, S4.pick [0] [_] (by decide) ⟨rfl, trivial⟩, ?hq4f0, ?hq4f1, ?hq4f2, ?hq4f3⟩⟩
          case hq4f0 => omega
          case hq4f1 => (rw [take_ga nn i (by omega), List.flatten_append, ← hax]; simp)
          case hq4f2 => (rw [List.length_append]; have := hle i (by omega); omega)
          case hq4f3 => exact hd1
          case hq4m => omega
        · have hb28 := of_decide_eq_false hb28
          refine ws_exit rfl rfl ?_
          refine nm_sub [(6, _)] ⟨rfl, trivial⟩ ?_
          refine nm_thn ?_
          refine ws_seqN Concat_n47 Concat_n48 rfl rfl rfl ?_
          refine ws_region rfl ?_
          refine wl_op (k := 0) (k' := 1) rfl rfl rfl (wo_run rfl rfl (run_move rfl rfl) ?_)
          refine wl_op (k := 1) (k' := 2) rfl rfl rfl (wo_run rfl rfl (run_assign rfl rfl) ?_)
          refine wl_end rfl ?_
          refine nm_sub [(2, _)] ⟨rfl, trivial⟩ ?_
          refine nm_thn ?_
          refine ws_ret hC [_] rfl rfl ⟨rfl, trivial⟩ ?_
          exact ⟨_, rfl, _, S3.pick [0] [_] (by decide) ⟨rfl, trivial⟩, av, by (obtain rfl : i = nn.length := (by omega)); rw [List.take_length] at hax; rw [← hax]; exact ha2, rfl⟩

noncomputable def Det_n0 : Code := Try.f30.body.getD .skip
noncomputable def Det_n1 : Code := cL Det_n0
noncomputable def Det_n2 : Code := cR Det_n0
noncomputable def Det_n3 : Code := cL Det_n2
noncomputable def Det_n4 : Code := cR Det_n2
noncomputable def Det_n5 : Code := cL Det_n3
noncomputable def Det_n6 : Code := cR Det_n3
noncomputable def Det_n7 : Code := cL Det_n6
noncomputable def Det_n8 : Code := cR Det_n6
noncomputable def Det_n9 : Code := cL Det_n7
noncomputable def Det_n10 : Code := cR Det_n7
noncomputable def Det_n11 : Code := cL Det_n4
noncomputable def Det_n12 : Code := cR Det_n4
noncomputable def Det_n13 : Code := cL Det_n12
noncomputable def Det_n14 : Code := cR Det_n12
noncomputable def Det_n15 : Code := cL Det_n13
noncomputable def Det_n16 : Code := cL Det_n15
noncomputable def Det_n17 : Code := cR Det_n15
noncomputable def Det_n18 : Code := cL Det_n17
noncomputable def Det_n19 : Code := cR Det_n17
noncomputable def Det_n20 : Code := cL Det_n18
noncomputable def Det_n21 : Code := cR Det_n18
noncomputable def Det_n22 : Code := cL Det_n19
noncomputable def Det_n23 : Code := cR Det_n19
noncomputable def Det_n24 : Code := cL Det_n23
noncomputable def Det_n25 : Code := cR Det_n23
noncomputable def Det_n26 : Code := cL Det_n24
noncomputable def Det_n27 : Code := cR Det_n24
noncomputable def Det_n28 : Code := cL Det_n14
noncomputable def Det_n29 : Code := cR Det_n14
noncomputable def Det_n30 : Code := cL Det_n29
noncomputable def Det_n31 : Code := cR Det_n29
noncomputable def Det_n32 : Code := cL Det_n30
noncomputable def Det_n33 : Code := cR Det_n30
noncomputable def Det_n34 : Code := cL Det_n33
noncomputable def Det_n35 : Code := cL Det_n34
noncomputable def Det_n36 : Code := cL Det_n35
noncomputable def Det_n37 : Code := cR Det_n35
noncomputable def Det_n38 : Code := cL Det_n37
noncomputable def Det_n39 : Code := cR Det_n37
noncomputable def Det_n40 : Code := cL Det_n38
noncomputable def Det_n41 : Code := cR Det_n38
noncomputable def Det_n42 : Code := cL Det_n39
noncomputable def Det_n43 : Code := cR Det_n39
noncomputable def Det_n44 : Code := cL Det_n42
noncomputable def Det_n45 : Code := cL Det_n44
noncomputable def Det_n46 : Code := cR Det_n44
noncomputable def Det_n47 : Code := cL Det_n46
noncomputable def Det_n48 : Code := cR Det_n46
noncomputable def Det_n49 : Code := cL Det_n48
noncomputable def Det_n50 : Code := cR Det_n48
noncomputable def Det_n51 : Code := cL Det_n49
noncomputable def Det_n52 : Code := cR Det_n49
noncomputable def Det_n53 : Code := cL Det_n52
noncomputable def Det_n54 : Code := cL Det_n53
noncomputable def Det_n55 : Code := cL Det_n54
noncomputable def Det_n56 : Code := cR Det_n54
noncomputable def Det_n57 : Code := cL Det_n56
noncomputable def Det_n58 : Code := cR Det_n56
noncomputable def Det_n59 : Code := cL Det_n57
noncomputable def Det_n60 : Code := cR Det_n57
noncomputable def Det_n61 : Code := cL Det_n58
noncomputable def Det_n62 : Code := cR Det_n58
noncomputable def Det_n63 : Code := cL Det_n61
noncomputable def Det_n64 : Code := cL Det_n63
noncomputable def Det_n65 : Code := cR Det_n63
noncomputable def Det_n66 : Code := cL Det_n31
noncomputable def Det_n67 : Code := cR Det_n31
set_option maxHeartbeats 1000000 in
set_option maxRecDepth 10000 in
theorem Det_t {w : World} {M : Hp} {X : Fr} (nn : List (List (List Tm))) {nnA : Option Addr} {nnc : Nat} {nnv : List SlV} {nns : List (List SlV)} (hnn : RdA (cdV 43) M nnA nnc nnv) (hdnn : Rd2 (cdV 22) M nnv nns) (h3nn : RdD cdTm M nns nn) (S : SH w M X []) : Ct Try.prog 30 [.slice nnA nnv.length nnc] w M X (DetT nn) := by
  unfold Ct
  have rmhnn : nnv.length * 24 ≤ 140737488355328 := hnn.room
  have hnl := hdnn.1
  have hn3 := h3nn.1
  refine calls_in (b := Det_n0) Try.func30 rfl Try.ntmps30 rfl (fun C hC => ?_)
  refine ws_sub [(0, _)] ⟨rfl, trivial⟩ ?_
  refine ws_seqN Det_n1 Det_n2 rfl rfl rfl ?_
  refine ws_region rfl ?_
  refine wl_op (k := 0) (k' := 1) rfl rfl rfl (wo_box (l := [_]) rfl rfl rfl rfl rfl S ?_)
  intro gb1 w1 S1; clear S
  refine wl_op (k := 1) (k' := 2) rfl rfl rfl (wo_run rfl rfl (run_assign rfl rfl) ?_)
  refine wl_op (k := 2) (k' := 3) rfl rfl rfl (wo_run rfl rfl (run_assign rfl rfl) ?_)
  refine wl_end rfl ?_
  refine nm_sub [(1, _)] ⟨rfl, trivial⟩ ?_
  refine nm_thn ?_
  refine ws_seqN Det_n3 Det_n4 rfl rfl rfl ?_
  refine ws_seqN Det_n5 Det_n6 rfl rfl rfl ?_
  refine ws_region rfl ?_
  refine wl_op (k := 0) (k' := 1) rfl rfl rfl (wo_run rfl rfl (run_load1 rfl rfl Try.underlying37 rfl (S1.boxc (i := 0) rfl rfl)) ?_)
  refine wl_op (k := 1) (k' := 2) rfl rfl rfl (wo_run rfl rfl (run_len rfl rfl rfl rfl rfl rfl Try.underlying37) ?_)
  refine wl_op (k := 2) (k' := 3) rfl rfl rfl (wo_run rfl rfl (run_gtr rfl rfl rfl) ?_)
  refine wl_op (k := 3) (k' := 4) rfl rfl rfl (wo_run rfl rfl (run_move rfl rfl) ?_)
  refine wl_split (t := 14) rfl (fun hg14 => ?_) (fun hg14 => ?_)
  · have hg14 := of_decide_eq_true hg14
    refine wl_no (k := 4) (k' := 5) (d := 15) rfl rfl ⟨_, _, _, rfl, rfl, rfl, rfl⟩ rfl rfl ?_
    refine wl_no (k := 5) (k' := 6) (d := 16) rfl rfl ⟨_, _, _, rfl, rfl, rfl, rfl⟩ rfl rfl ?_
    refine wl_no (k := 6) (k' := 7) (d := 17) rfl rfl ⟨_, _, _, rfl, rfl, rfl, rfl⟩ rfl rfl ?_
    refine wl_op (k := 7) (k' := 8) rfl rfl rfl (wo_run rfl rfl (run_pickT rfl rfl rfl) ?_)
    refine wl_end rfl ?_
    refine nm_sub [(1, _), (18, _)] ⟨rfl, rfl, trivial⟩ ?_
    refine nm_thn ?_
    refine ws_condTN Det_n7 rfl rfl rfl ?_
    refine ws_seqN Det_n9 Det_n10 rfl rfl rfl ?_
    refine ws_region rfl ?_
    refine wl_op (k := 0) (k' := 1) rfl rfl rfl (wo_run rfl rfl (run_assign rfl rfl) ?_)
    refine wl_op (k := 1) (k' := 2) rfl rfl rfl (wo_run rfl rfl (run_assign rfl rfl) ?_)
    refine wl_end rfl ?_
    refine nm_sub [(2, _), (3, _)] ⟨rfl, rfl, trivial⟩ ?_
    refine nm_thn ?_
    refine ws_ret hC [_, _] rfl rfl ⟨rfl, rfl, trivial⟩ ?_
    refine ⟨_, rfl, _, Hp.le_refl _, (S1.pick [] [] (by decide) trivial), ?_⟩
    have e0 : detE nn = 2 := by
      unfold detE
      rw [if_neg]
      intro h9
      obtain ⟨h1, h2⟩ := sqB_iff.1 h9
      first | omega | (obtain ⟨i, hi, h3⟩ := (any_ga (p := (fun r : List (List Tm) => decide (r.length ≠ nnv.length)))).1 (by assumption); have := h2 i hi; have h4 : (ga nn i).length ≠ nnv.length := of_decide_eq_true h3; omega)
    exact .inl ⟨by rw [e0]; decide, by rw [e0]; rfl⟩
  · have hg14 := of_decide_eq_false hg14
    refine wl_opG (k := 4) (k' := 5) rfl rfl ⟨_, _, _, rfl, rfl, rfl, rfl⟩ rfl (wo_run rfl rfl (run_load1 rfl rfl Try.underlying37 rfl (S1.boxc (i := 0) rfl rfl)) ?_)
    refine wl_opG (k := 5) (k' := 6) rfl rfl ⟨_, _, _, rfl, rfl, rfl, rfl⟩ rfl (wo_run rfl rfl (run_makeFunc (vs := [_]) rfl rfl rfl rfl) ?_)
    refine wl_opG (k := 6) (k' := 7) rfl rfl ⟨_, _, _, rfl, rfl, rfl, rfl⟩ rfl (wo_cq rfl rfl rfl rfl rfl rfl rfl cf68 S1 (CF2_q nn (hnn.mono (Hp.le_un _ _)) (hdnn.mono (Hp.le_un _ _)) (h3nn.mono (Hp.le_un _ _)) (S1.boxM (i := 0) rfl) (hnn.mono (Hp.le_un _ _)) S1.lend) ?_)
    rintro _ w2 S2 rfl; clear S1
    refine wl_op (k := 7) (k' := 8) rfl rfl rfl (wo_run rfl rfl (run_pickF rfl rfl rfl) ?_)
    refine wl_end rfl ?_
    refine nm_sub [(1, _), (18, _)] ⟨rfl, rfl, trivial⟩ ?_
    refine nm_thn ?_
    refine ws_condN Det_n7 Det_n8 rfl rfl rfl rfl (fun hb18 => ?_) (fun hb18 => ?_)
    · refine ws_seqN Det_n9 Det_n10 rfl rfl rfl ?_
      refine ws_region rfl ?_
      refine wl_op (k := 0) (k' := 1) rfl rfl rfl (wo_run rfl rfl (run_assign rfl rfl) ?_)
      refine wl_op (k := 1) (k' := 2) rfl rfl rfl (wo_run rfl rfl (run_assign rfl rfl) ?_)
      refine wl_end rfl ?_
      refine nm_sub [(2, _), (3, _)] ⟨rfl, rfl, trivial⟩ ?_
      refine nm_thn ?_
      refine ws_ret hC [_, _] rfl rfl ⟨rfl, rfl, trivial⟩ ?_
      refine ⟨_, rfl, _, Hp.le_refl _, (S2.pick [] [] (by decide) trivial), ?_⟩
      have e0 : detE nn = 2 := by
        unfold detE
        rw [if_neg]
        intro h9
        obtain ⟨h1, h2⟩ := sqB_iff.1 h9
        first | omega | (obtain ⟨i, hi, h3⟩ := (any_ga (p := (fun r : List (List Tm) => decide (r.length ≠ nnv.length)))).1 (by assumption); have := h2 i hi; have h4 : (ga nn i).length ≠ nnv.length := of_decide_eq_true h3; omega)
      exact .inl ⟨by rw [e0]; decide, by rw [e0]; rfl⟩
    · refine ws_skip rfl ?_
      refine nm_sub [(1, _)] ⟨rfl, trivial⟩ ?_
      refine nm_thn ?_
      refine ws_seqN Det_n11 Det_n12 rfl rfl rfl ?_
      have hsq2 : ∀ i, i < nn.length → (ga nn i).length = nn.length := fun i hi => by
        have h9 : nn.any (fun r : List (List Tm) => decide (r.length ≠ nnv.length)) = false := by assumption
        have h8 := List.any_eq_false.1 h9 _ (ga_mem hi)
        have h7 : ¬ (ga nn i).length ≠ nnv.length := fun h => h8 (decide_eq_true h)
        omega
      refine ws_region rfl ?_
      refine wl_op (k := 0) (k' := 1) rfl rfl rfl (wo_run rfl rfl (run_load1 rfl rfl Try.underlying37 rfl (S2.boxc (i := 0) rfl rfl)) ?_)
      refine wl_op (k := 1) (k' := 2) rfl rfl rfl (wo_co rfl rfl rfl rfl rfl rfl rfl cf70 S2 (Concat_o nn hnn hdnn h3nn (by omega) (fun i hi => by rw [hsq2 i hi]; omega) S2.lend) ?_)
      intro vw3 w3 Nw3 S3 hRw3; clear S2
      obtain ⟨avw3, hd1, rfl⟩ := hRw3
      change SH _ _ _ [_, _] at S3
      have hvlw3 := hd1.1
      have hfl := flat_len6 (nn := nn) (fun z hz => by obtain ⟨i, hi, rfl⟩ := List.mem_iff_getElem.1 hz; rw [← ga_eq hi, hsq2 i hi]; omega)
      refine wl_op (k := 2) (k' := 3) rfl rfl rfl (wo_run rfl rfl (run_assign rfl rfl) ?_)
      refine wl_end rfl ?_
      refine nm_sub [(1, _), (4, _)] ⟨rfl, rfl, trivial⟩ ?_
      refine nm_thn ?_
      refine ws_seqN Det_n13 Det_n14 rfl rfl rfl ?_
      refine ws_blockN Det_n15 0 rfl rfl rfl ?_
      refine ws_seqN Det_n16 Det_n17 rfl rfl rfl ?_
      refine ws_region rfl ?_
      refine wl_op (k := 0) (k' := 1) rfl rfl rfl (wo_run rfl rfl (run_move rfl rfl) ?_)
      obtain ⟨A1, c1, e1, hr1⟩ := S3.lendRd (i := 0) rfl (by show _ * 24 ≤ _; first | omega | (simp only [List.length_set, List.length_append, List.length_replicate, List.length_singleton, List.length_cons, List.length_nil]; omega))
      have hd2 := Rd2.at_ (C := cdTm) (ss := avw3) (xss := nn.flatten) S3 (hd1.mono (Hp.le_un _ _))
      have hcall1 := CF1_2_q nn.flatten hr1 hd2  S3.lend
      refine wl_op (k := 1) (k' := 2) rfl rfl rfl (wo_cq rfl rfl rfl rfl rfl rfl rfl cf71 S3 (Cq.cast (by simp only [e1]) (hcall1)) ?_)
      rintro _ w4 S4 rfl; clear S3
      refine wl_op (k := 2) (k' := 3) rfl rfl rfl (wo_run rfl rfl (run_assign rfl rfl) ?_)
      refine wl_end rfl ?_
      refine nm_sub [(1, _), (4, _), (21, _)] ⟨rfl, rfl, rfl, trivial⟩ ?_
      refine nm_thn ?_
      refine ws_condN Det_n18 Det_n19 rfl rfl rfl rfl (fun hb21 => ?_) (fun hb21 => ?_)
      · refine ws_seqN Det_n20 Det_n21 rfl rfl rfl ?_
        refine ws_region rfl ?_
        refine wl_op (k := 0) (k' := 1) rfl rfl rfl (wo_run rfl rfl (run_assign rfl rfl) ?_)
        refine wl_op (k := 1) (k' := 2) rfl rfl rfl (wo_run rfl rfl (run_assign rfl rfl) ?_)
        refine wl_end rfl ?_
        refine nm_sub [(2, _), (3, _)] ⟨rfl, rfl, trivial⟩ ?_
        refine nm_thn ?_
        refine ws_ret hC [_, _] rfl rfl ⟨rfl, rfl, trivial⟩ ?_
        refine ⟨_, rfl, _, Hp.le_refl _, (S4.pick [] [] (by decide) trivial), ?_⟩
        have e0 : detE nn = 1 := by unfold detE; rw [if_pos (sqB_iff.2 ⟨by omega, hsq2⟩), if_pos (by assumption)]
        exact .inl ⟨by rw [e0]; decide, by rw [e0]; rfl⟩
      · have hmf : nn.flatten.any (fun l => !mayT l) = false := by assumption
        have hmay := may_unflat hmf
        have hmayf : ∀ j, j < nn.flatten.length → mayT (ga nn.flatten j) = true := fun j hj => by
          cases hb9 : mayT (ga nn.flatten j) with
          | true => rfl
          | false => exact absurd (show (!mayT (ga nn.flatten j)) = true by rw [hb9]; rfl) (List.any_eq_false.1 hmf _ (ga_mem hj))
        refine ws_seqN Det_n22 Det_n23 rfl rfl rfl ?_
        refine ws_region rfl ?_
        refine wl_op (k := 0) (k' := 1) rfl rfl rfl (wo_run rfl rfl (run_move rfl rfl) ?_)
        obtain ⟨A2, c2, e2, hr2⟩ := S4.lendRd (i := 0) rfl (by show _ * 24 ≤ _; first | omega | (simp only [List.length_set, List.length_append, List.length_replicate, List.length_singleton, List.length_cons, List.length_nil]; omega))
        have hd3 := Rd2.at_ (C := cdTm) (ss := avw3) (xss := nn.flatten) S4 (hd1.mono (Hp.le_un _ _))
        have hcall2 := CF1_3_q nn.flatten hr2 hd3 (fun j hj => hmayf j hj) S4.lend
        refine wl_op (k := 1) (k' := 2) rfl rfl rfl (wo_cq rfl rfl rfl rfl rfl rfl rfl cf71 S4 (Cq.cast (by simp only [e2]) (hcall2)) ?_)
        rintro _ w5 S5 rfl; clear S4
        refine wl_op (k := 2) (k' := 3) rfl rfl rfl (wo_run rfl rfl (run_assign rfl rfl) ?_)
        refine wl_end rfl ?_
        refine nm_sub [(1, _), (24, _)] ⟨rfl, rfl, trivial⟩ ?_
        refine nm_thn ?_
        refine ws_condN Det_n24 Det_n25 rfl rfl rfl rfl (fun hb24 => ?_) (fun hb24 => ?_)
        · refine ws_seqN Det_n26 Det_n27 rfl rfl rfl ?_
          refine ws_region rfl ?_
          refine wl_op (k := 0) (k' := 1) rfl rfl rfl (wo_run rfl rfl (run_assign rfl rfl) ?_)
          refine wl_op (k := 1) (k' := 2) rfl rfl rfl (wo_run rfl rfl (run_assign rfl rfl) ?_)
          refine wl_end rfl ?_
          refine nm_sub [(2, _), (3, _)] ⟨rfl, rfl, trivial⟩ ?_
          refine nm_thn ?_
          refine ws_ret hC [_, _] rfl rfl ⟨rfl, rfl, trivial⟩ ?_
          refine ⟨_, rfl, _, Hp.le_refl _, (S5.pick [] [] (by decide) trivial), ?_⟩
          have e0 : detE nn = 3 := by unfold detE; rw [if_pos (sqB_iff.2 ⟨by omega, hsq2⟩), if_neg (by rw [hmf]; exact Bool.false_ne_true), if_pos (by assumption)]
          exact .inl ⟨by rw [e0]; decide, by rw [e0]; rfl⟩
        · have hbf : nn.flatten.any (fun l => decide (100 < szT l)) = false := by assumption
          refine ws_skip rfl ?_
          refine nm_blk ?_
          refine nm_sub [(1, _)] ⟨rfl, trivial⟩ ?_
          refine nm_thn ?_
          refine ws_seqN Det_n28 Det_n29 rfl rfl rfl ?_
          refine ws_region rfl ?_
          refine wl_op (k := 0) (k' := 1) rfl rfl rfl (wo_run rfl rfl (run_assign rfl rfl) ?_)
          refine wl_end rfl ?_
          refine nm_thn ?_
          refine ws_seqN Det_n30 Det_n31 rfl rfl rfl ?_
          refine ws_seqN Det_n32 Det_n33 rfl rfl rfl ?_
          refine ws_region rfl ?_
          refine wl_op (k := 0) (k' := 1) rfl rfl rfl (wo_run rfl rfl (run_load1 rfl rfl Try.underlying37 rfl (S5.boxc (i := 1) rfl rfl)) ?_)
          refine wl_op (k := 1) (k' := 2) rfl rfl rfl (wo_run rfl rfl (run_len rfl rfl rfl rfl rfl rfl Try.underlying37) ?_)
          refine wl_op (k := 2) (k' := 3) rfl rfl rfl (wo_run rfl rfl (run_move rfl rfl) ?_)
          refine wl_end rfl ?_
          refine nm_sub [(5, _), (27, _), (28, _), (29, _)] ⟨rfl, rfl, rfl, rfl, trivial⟩ ?_
          refine nm_thn ?_
          refine ws_blockN Det_n34 1 rfl rfl rfl ?_
          have S6 := S5.nilrow (cdV 94); clear S5
          refine ws_loopE (fun mx_ ax_ wx_ => ∃ (r : Nat) (wv : List SlV) (wg : List (List (Option Nat))) (wp : List (List (Option Pol))) (vrw : Value) (M1 : Hp), M.le M1 ∧ mx_ = nn.length - r ∧ Env 53 [(5, vrw), (27, .slice nnA nnv.length nnc), (28, .int .i64 (nnv.length : Int)), (29, .int .i64 (r : Int))] ax_ ∧ SH wx_ M1 X [Rs.row (cdV 94) vrw wv] ∧ r ≤ nn.length ∧ wp = (nn.take r).map (fun z => z.map (fun l => some (mk (pr l)))) ∧ Rd2 (cdMap 87) M1 wv wg ∧ WksA (fun _ => 1000) M1 wg wp) rfl ?_ ?_
          · intro ax_ hax_
            refine ⟨_, ⟨0, _, ([]), ([]), _, _, Hp.le_refl _, rfl, hax_.sub ⟨rfl, rfl, rfl, rfl, trivial⟩, S6.pick [0] [_] (by decide) ⟨rfl, trivial⟩, ?hq1f0, ?hq1f1, ?hq1f2, ?hq1f3⟩⟩
            case hq1f0 => omega
            case hq1f1 => rfl
            case hq1f2 => exact Rd2.nil_
            case hq1f3 => exact (WksA.nil_ _ _)
          · rintro m1 a1 w6 ⟨r, wv, wg, wp, vrw, M1, hle1, rfl, he1, S7, hr, hwp, hw2, hw3⟩
            clear S6
            refine ws_in he1 (c := Det_n35) rfl ?_
            clear he1 a1
            replace hnn := hnn.mono hle1
            replace hdnn := hdnn.mono hle1
            replace h3nn := h3nn.mono hle1
            replace hd1 := hd1.mono hle1
            have hw21 := hw2.1
            have hw31 := hw3.1
            have hwl : wp.length = r := by rw [hwp, List.length_map, List.length_take]; omega
            have hs2 := fun h => hsq2 r h
            refine ws_seqN Det_n36 Det_n37 rfl rfl rfl ?_
            refine ws_region rfl ?_
            refine wl_op (k := 0) (k' := 1) rfl rfl rfl (wo_run rfl rfl (run_lss rfl rfl rfl) ?_)
            refine wl_end rfl ?_
            refine nm_thn ?_
            refine ws_seqN Det_n38 Det_n39 rfl rfl rfl ?_
            refine ws_condN Det_n40 Det_n41 rfl rfl rfl rfl (fun hb30 => ?_) (fun hb30 => ?_)
            · have hb30 := of_decide_eq_true hb30
              refine ws_skip rfl ?_
              refine nm_sub [(5, _), (27, _), (28, _), (29, _)] ⟨rfl, rfl, rfl, rfl, trivial⟩ ?_
              refine nm_thn ?_
              refine ws_seqN Det_n42 Det_n43 rfl rfl rfl ?_
              refine ws_blockN Det_n44 2 rfl rfl rfl ?_
              refine ws_seqN Det_n45 Det_n46 rfl rfl rfl ?_
              refine ws_region rfl ?_
              refine wl_op (k := 0) (k' := 1) rfl rfl rfl (wo_run rfl rfl (run_indexM (C := (cdV 43)) r rfl rfl rfl sl37 (by first | rfl | omega) hnn (by first | omega | (simp only [List.length_set, List.length_append, List.length_replicate, List.length_singleton, List.length_cons, List.length_nil]; omega))) ?_)
              obtain ⟨hn1, hr3⟩ := hdnn.2 r (by first | omega | (simp only [List.length_set, List.length_append, List.length_replicate, List.length_singleton, List.length_cons, List.length_nil]; omega))
              have rmhr3 : (ga nns r).length * 24 ≤ 140737488355328 := hr3.room
              have hW1 := h3nn.2 r (by have := h3nn.1; have := hdnn.1; first | omega | (simp_all; omega))
              have hW1l := hW1.1
              refine wl_op (k := 1) (k' := 2) rfl rfl rfl (wo_run rfl rfl (run_load1 rfl rfl Try.underlying43 rfl (hnn.cell S7.m (i := r) (by first | omega | (simp only [List.length_set, List.length_append, List.length_replicate, List.length_singleton, List.length_cons, List.length_nil]; omega)) 0 rfl (congrArg (fun n => some (Value.slice _ n _)) hn1))) ?_)
              refine wl_op (k := 2) (k' := 3) rfl rfl rfl (wo_run rfl rfl (run_assign rfl rfl) ?_)
              refine wl_end rfl ?_
              refine nm_sub [(5, _), (27, _), (28, _), (29, _), (7, _)] ⟨rfl, rfl, rfl, rfl, rfl, trivial⟩ ?_
              refine nm_thn ?_
              refine ws_seqN Det_n47 Det_n48 rfl rfl rfl ?_
              refine ws_region rfl ?_
              refine wl_op (k := 0) (k' := 1) rfl rfl rfl (wo_run rfl rfl (run_assign rfl rfl) ?_)
              refine wl_end rfl ?_
              refine nm_thn ?_
              refine ws_seqN Det_n49 Det_n50 rfl rfl rfl ?_
              refine ws_seqN Det_n51 Det_n52 rfl rfl rfl ?_
              refine ws_region rfl ?_
              refine wl_op (k := 0) (k' := 1) rfl rfl rfl (wo_run rfl rfl (run_move rfl rfl) ?_)
              refine wl_op (k := 1) (k' := 2) rfl rfl rfl (wo_run rfl rfl (run_len rfl rfl rfl rfl rfl rfl Try.underlying43) ?_)
              refine wl_op (k := 2) (k' := 3) rfl rfl rfl (wo_run rfl rfl (run_move rfl rfl) ?_)
              refine wl_end rfl ?_
              refine nm_sub [(5, _), (27, _), (28, _), (29, _), (8, _), (33, _), (34, _), (35, _)] ⟨rfl, rfl, rfl, rfl, rfl, rfl, rfl, rfl, trivial⟩ ?_
              refine nm_thn ?_
              refine ws_blockN Det_n53 3 rfl rfl rfl ?_
              have S8 := S7.nilrow (cdMap 87); clear S7
              refine ws_loopE (fun mx_ ax_ wx_ => ∃ (k : Nat) (lg : List (Option Nat)) (lp : List (Option Pol)) (vrl : Value) (M2 : Hp), M1.le M2 ∧ mx_ = (ga nn r).length - k ∧ Env 53 [(5, vrw), (27, .slice nnA nnv.length nnc), (28, .int .i64 (nnv.length : Int)), (29, .int .i64 (r : Int)), (8, vrl), (33, .slice ((ga nnv r).A) (ga nns r).length ((ga nnv r).c)), (34, .int .i64 ((ga nns r).length : Int)), (35, .int .i64 (k : Int))] ax_ ∧ SH wx_ M2 X [Rs.row (cdMap 87) vrl lg, Rs.row (cdV 94) vrw wv] ∧ k ≤ (ga nn r).length ∧ lp = ((ga nn r).take k).map (fun l => some (mk (pr l))) ∧ Wks (fun _ => 1000) M2 lg lp) rfl ?_ ?_
              · intro ax_ hax_
                refine ⟨_, ⟨0, _, ([]), _, _, Hp.le_refl _, rfl, hax_.sub ⟨rfl, rfl, rfl, rfl, rfl, rfl, rfl, rfl, trivial⟩, S8.pick [0, 1] [_, _] (by decide) ⟨rfl, rfl, trivial⟩, ?hq2f0, ?hq2f1, ?hq2f2⟩⟩
                case hq2f0 => omega
                case hq2f1 => rfl
                case hq2f2 => exact (Wks.nil_ _ _)
              · rintro m2 a2 w7 ⟨k, lg, lp, vrl, M2, hle2, rfl, he2, S9, hk, hlp, hl2⟩
                clear S8
                refine ws_in he2 (c := Det_n54) rfl ?_
                clear he2 a2
                replace hnn := hnn.mono hle2
                replace hdnn := hdnn.mono hle2
                replace h3nn := h3nn.mono hle2
                replace hd1 := hd1.mono hle2
                replace hw2 := hw2.mono hle2
                replace hw3 := hw3.mono hle2
                replace hr3 := hr3.mono hle2
                replace hW1 := hW1.mono hle2
                have hl21 := hl2.1
                have hll : lp.length = k := by rw [hlp, List.length_map, List.length_take]; omega
                have hs3 := hs2 (by omega)
                refine ws_seqN Det_n55 Det_n56 rfl rfl rfl ?_
                refine ws_region rfl ?_
                refine wl_op (k := 0) (k' := 1) rfl rfl rfl (wo_run rfl rfl (run_lss rfl rfl rfl) ?_)
                refine wl_end rfl ?_
                refine nm_thn ?_
                refine ws_seqN Det_n57 Det_n58 rfl rfl rfl ?_
                refine ws_condN Det_n59 Det_n60 rfl rfl rfl rfl (fun hb36 => ?_) (fun hb36 => ?_)
                · have hb36 := of_decide_eq_true hb36
                  refine ws_skip rfl ?_
                  refine nm_sub [(5, _), (27, _), (28, _), (29, _), (8, _), (33, _), (34, _), (35, _)] ⟨rfl, rfl, rfl, rfl, rfl, rfl, rfl, rfl, trivial⟩ ?_
                  refine nm_thn ?_
                  refine ws_seqN Det_n61 Det_n62 rfl rfl rfl ?_
                  refine ws_blockN Det_n63 4 rfl rfl rfl ?_
                  refine ws_seqN Det_n64 Det_n65 rfl rfl rfl ?_
                  refine ws_region rfl ?_
                  refine wl_op (k := 0) (k' := 1) rfl rfl rfl (wo_run rfl rfl (run_indexM (C := (cdV 22)) k rfl rfl rfl sl43 (by first | rfl | omega) hr3 (by first | omega | (simp only [List.length_set, List.length_append, List.length_replicate, List.length_singleton, List.length_cons, List.length_nil]; omega))) ?_)
                  obtain ⟨hn2, hr4⟩ := hW1.2 k (by first | omega | (simp only [List.length_set, List.length_append, List.length_replicate, List.length_singleton, List.length_cons, List.length_nil]; omega))
                  have rmhr4 : (ga (ga nn r) k).length * 16 ≤ 140737488355328 := hr4.room
                  refine wl_op (k := 1) (k' := 2) rfl rfl rfl (wo_run rfl rfl (run_load1 rfl rfl Try.underlying22 rfl (hr3.cell S9.m (i := k) (by first | omega | (simp only [List.length_set, List.length_append, List.length_replicate, List.length_singleton, List.length_cons, List.length_nil]; omega)) 0 rfl (congrArg (fun n => some (Value.slice _ n _)) hn2))) ?_)
                  refine wl_op (k := 2) (k' := 3) rfl rfl rfl (wo_run rfl rfl (run_assign rfl rfl) ?_)
                  refine wl_end rfl ?_
                  refine nm_sub [(5, _), (27, _), (28, _), (29, _), (8, _), (33, _), (34, _), (35, _), (10, _)] ⟨rfl, rfl, rfl, rfl, rfl, rfl, rfl, rfl, rfl, trivial⟩ ?_
                  refine nm_thn ?_
                  refine ws_region rfl ?_
                  refine wl_op (k := 0) (k' := 1) rfl rfl rfl (wo_run rfl rfl (run_move rfl rfl) ?_)
                  refine wl_op (k := 1) (k' := 2) rfl rfl rfl (wo_run rfl rfl (run_move rfl rfl) ?_)
                  refine wl_op (k := 2) (k' := 3) rfl rfl rfl (wo_ct rfl rfl rfl rfl rfl rfl rfl cf75 S9 (Of_t (ga (ga nn r) k) (hr4.mono (Hp.le_un _ _)) 1000 (may_can (hmay r (by omega) k (by omega))).2 S9.lend) ?_)
                  intro vw8 w8 M3 hle3 S10 hRw8; clear S9
                  replace hnn := hnn.mono hle3
                  replace hdnn := hdnn.mono hle3
                  replace h3nn := h3nn.mono hle3
                  replace hd1 := hd1.mono hle3
                  replace hw2 := hw2.mono hle3
                  replace hw3 := hw3.mono hle3
                  replace hr3 := hr3.mono hle3
                  replace hW1 := hW1.mono hle3
                  replace hl2 := hl2.mono hle3
                  replace hr4 := hr4.mono hle3
                  obtain ⟨gw1, rfl, hw1⟩ := hRw8
                  refine wl_op (k := 3) (k' := 4) rfl rfl rfl (wo_buildSlice1 (C := (cdMap 87)) (l := [_]) rfl rfl rfl rfl sl94 rfl rfl rfl rfl S10 ?_)
                  intro gb2 w9 S11; clear S10
                  refine wl_op (k := 4) (k' := 5) rfl rfl rfl (wo_append1 (C := (cdMap 87)) (i := 1) (q := 0) (some gw1) rfl rfl rfl rfl rfl rfl rfl rfl sl94 S11 rfl rfl rfl (by show (_ + 1) * 8 ≤ _; omega) ?_)
                  intro vrl1 w10 S12; clear S11
                  have S13 := S12.pick [1, 2] [_, _] (by decide) ⟨rfl, rfl, trivial⟩; clear S12
                  have hd4 := hl2.snoc (hw1.up (by exact Nat.le_refl _))
                  refine wl_op (k := 5) (k' := 6) rfl rfl rfl (wo_run rfl rfl (run_assign rfl rfl) ?_)
                  refine wl_end rfl ?_
                  refine nm_blk ?_
                  refine nm_sub [(5, _), (27, _), (28, _), (29, _), (8, _), (33, _), (34, _), (35, _)] ⟨rfl, rfl, rfl, rfl, rfl, rfl, rfl, rfl, trivial⟩ ?_
                  refine nm_thn ?_
                  refine ws_region rfl ?_
                  refine wl_op (k := 0) (k' := 1) rfl rfl rfl (wo_run rfl rfl (run_add rfl rfl rfl (by first | omega | (simp only [List.length_set, List.length_append, List.length_replicate, List.length_singleton, List.length_cons, List.length_nil]; omega))) ?_)
                  refine wl_op (k := 1) (k' := 2) rfl rfl rfl (wo_run rfl rfl (run_move rfl rfl) ?_)
                  refine wl_end rfl ?_
                  refine nm_lp ?_
                  intro ax_ hax_
                  refine ⟨_, ?hq3m, ⟨k + 1, _, (lp ++ [some (mk (pr (ga (ga nn r) k)))]), _, _, (hle2.trans hle3), rfl, hax_.sub ⟨rfl, rfl, rfl, rfl, rfl, rfl, rfl, rfl, trivial⟩, S13.pick [0, 1] [_, _] (by decide) ⟨rfl, rfl, trivial⟩, ?hq3f0, ?hq3f1, ?hq3f2⟩⟩
                  case hq3f0 => omega
                  case hq3f1 => (rw [take_ga _ k (by omega), List.map_append, ← hlp]; rfl)
                  case hq3f2 => exact hd4
                  case hq3m => omega
                · have hb36 := of_decide_eq_false hb36
                  refine ws_exit rfl rfl ?_
                  refine nm_sub [(5, _), (27, _), (28, _), (29, _), (8, _)] ⟨rfl, rfl, rfl, rfl, rfl, trivial⟩ ?_
                  refine nm_thn ?_
                  refine ws_region rfl ?_
                  refine wl_op (k := 0) (k' := 1) rfl rfl rfl (wo_run rfl rfl (run_move rfl rfl) ?_)
                  refine wl_op (k := 1) (k' := 2) rfl rfl rfl (wo_run rfl rfl (run_move rfl rfl) ?_)
                  obtain ⟨M4, hle4, S14, ⟨A3, c3, e3, hr5⟩⟩ := S9.pubrow (i := 0) (H' := [_, _]) rfl rfl (by show _ * 8 ≤ _; first | omega | (simp only [List.length_set, List.length_append, List.length_replicate, List.length_singleton, List.length_cons, List.length_nil]; omega))
                  clear S9; subst e3
                  replace hnn := hnn.mono hle4
                  replace hdnn := hdnn.mono hle4
                  replace h3nn := h3nn.mono hle4
                  replace hd1 := hd1.mono hle4
                  replace hw2 := hw2.mono hle4
                  replace hw3 := hw3.mono hle4
                  replace hr3 := hr3.mono hle4
                  replace hW1 := hW1.mono hle4
                  replace hl2 := hl2.mono hle4
                  refine wl_op (k := 2) (k' := 3) rfl rfl rfl (wo_buildSlice1 (C := (cdV 94)) (l := [_]) rfl rfl rfl rfl sl93 rfl rfl rfl rfl S14 ?_)
                  intro gb3 w11 S15; clear S14
                  refine wl_op (k := 3) (k' := 4) rfl rfl rfl (wo_append1 (C := (cdV 94)) (i := 2) (q := 0) (⟨A3, lg.length, c3⟩ : SlV) rfl rfl rfl rfl rfl rfl rfl rfl sl93 S15 rfl rfl rfl (by show (_ + 1) * 24 ≤ _; omega) ?_)
                  intro vrw1 w12 S16; clear S15
                  have S17 := S16.pick [1, 2] [_, _] (by decide) ⟨rfl, rfl, trivial⟩; clear S16
                  have hd5 := hw2.snoc (c := c3) hr5
                  have hd6 := hw3.snoc hl2
                  refine wl_op (k := 4) (k' := 5) rfl rfl rfl (wo_run rfl rfl (run_assign rfl rfl) ?_)
                  refine wl_end rfl ?_
                  refine nm_blk ?_
                  refine nm_sub [(5, _), (27, _), (28, _), (29, _)] ⟨rfl, rfl, rfl, rfl, trivial⟩ ?_
                  refine nm_thn ?_
                  refine ws_region rfl ?_
                  refine wl_op (k := 0) (k' := 1) rfl rfl rfl (wo_run rfl rfl (run_add rfl rfl rfl (by first | omega | (simp only [List.length_set, List.length_append, List.length_replicate, List.length_singleton, List.length_cons, List.length_nil]; omega))) ?_)
                  refine wl_op (k := 1) (k' := 2) rfl rfl rfl (wo_run rfl rfl (run_move rfl rfl) ?_)
                  refine wl_end rfl ?_
                  refine nm_lp ?_
                  intro ax_ hax_
                  refine ⟨_, ?hq4m, ⟨r + 1, _, (wg ++ [lg]), (wp ++ [lp]), _, _, ((hle1.trans hle2).trans hle4), rfl, hax_.sub ⟨rfl, rfl, rfl, rfl, trivial⟩, S17.pick [1] [_] (by decide) ⟨rfl, trivial⟩, ?hq4f0, ?hq4f1, ?hq4f2, ?hq4f3⟩⟩
                  case hq4f0 => omega
                  case hq4f1 => (rw [take_ga nn r (by omega), List.map_append, ← hwp, hlp, show k = (ga nn r).length by omega, List.take_length]; rfl)
                  case hq4f2 => exact hd5
                  case hq4f3 => exact hd6
                  case hq4m => omega
            · have hb30 := of_decide_eq_false hb30
              refine ws_exit rfl rfl ?_
              refine nm_sub [(5, _)] ⟨rfl, trivial⟩ ?_
              refine nm_thn ?_
              refine ws_seqN Det_n66 Det_n67 rfl rfl rfl ?_
              obtain ⟨M5, hle5, S18, ⟨A4, c4, e4, hr6⟩⟩ := S7.pubrow (i := 0) (H' := [_]) rfl rfl (by show _ * 24 ≤ _; have h1 := hw2.1; have h2 := hw3.1; have h3 : wp.length ≤ nn.length := (by rw [hwp, List.length_map, List.length_take]; omega); first | omega | (simp only [List.length_set, List.length_append, List.length_replicate, List.length_singleton, List.length_cons, List.length_nil]; omega))
              clear S7; subst e4
              replace hnn := hnn.mono hle5
              replace hdnn := hdnn.mono hle5
              replace h3nn := h3nn.mono hle5
              replace hd1 := hd1.mono hle5
              replace hw2 := hw2.mono hle5
              replace hw3 := hw3.mono hle5
              obtain rfl : r = nn.length := by omega
              rw [List.take_length] at hwp
              have hgl0 : ∀ i, i < nn.length → (ga wg i).length = nn.length := fun i hi => by
                have h9 := (hw3.2 i (by have := hw3.1; have := hw2.1; omega)).1
                rw [h9, hwp, ga_map _ _ _ hi, List.length_map]; exact hsq2 i hi
              have hpss : ∀ i, i < nn.length → ∀ k, k < nn.length → ga (ga wp i) k = some (mmP nn i k) := fun i hi k hk => by rw [hwp, ga_map _ _ _ hi, ga_map _ _ _ (by rw [hsq2 i hi]; exact hk)]; rfl
              have hmlw : wv.length = nn.length := by have := hw2.1; have := hw3.1; omega
              refine ws_region rfl ?_
              refine wl_op (k := 0) (k' := 1) rfl rfl rfl (wo_run rfl rfl (run_move rfl rfl) ?_)
              refine wl_op (k := 1) (k' := 2) rfl rfl rfl (wo_ct rfl rfl rfl rfl rfl rfl rfl cf76 S18 (Determinant_t wg wp hr6 hw2 hw3 nn.length (mmP nn) (by omega) (by omega) hmlw hgl0 hpss S18.lend) ?_)
              intro vw13 w13 M6 hle6 S19 hRw13; clear S18
              replace hnn := hnn.mono hle6
              replace hdnn := hdnn.mono hle6
              replace h3nn := h3nn.mono hle6
              replace hd1 := hd1.mono hle6
              replace hw2 := hw2.mono hle6
              replace hw3 := hw3.mono hle6
              replace hr6 := hr6.mono hle6
              obtain ⟨gw2, rfl, hw2⟩ := hRw13
              refine wl_op (k := 2) (k' := 3) rfl rfl rfl (wo_ct rfl rfl rfl rfl rfl rfl rfl cf65 S19 (FormW_t hw2 (by omega) S19.lend) ?_)
              intro vw14 w14 M7 hle7 S20 hRw14; clear S19
              replace hnn := hnn.mono hle7
              replace hdnn := hdnn.mono hle7
              replace h3nn := h3nn.mono hle7
              replace hd1 := hd1.mono hle7
              replace hw2 := hw2.mono hle7
              replace hw3 := hw3.mono hle7
              replace hr6 := hr6.mono hle7
              obtain ⟨A5, c5, l1, rfl, hr7, hcan1, hbd1, hmk1⟩ := hRw14
              refine wl_op (k := 3) (k' := 4) rfl rfl rfl (wo_run rfl rfl (run_assign rfl rfl) ?_)
              refine wl_op (k := 4) (k' := 5) rfl rfl rfl (wo_run rfl rfl (run_assign rfl rfl) ?_)
              refine wl_end rfl ?_
              refine nm_sub [(2, _), (3, _)] ⟨rfl, rfl, trivial⟩ ?_
              refine nm_thn ?_
              refine ws_ret hC [_, _] rfl rfl ⟨rfl, rfl, trivial⟩ ?_
              refine ⟨_, rfl, _, ((hle1.trans hle5).trans hle6).trans hle7, (S20.pick [] [] (by decide) trivial), ?_⟩
              have e0 : detE nn = 0 := by unfold detE; rw [if_pos (sqB_iff.2 ⟨by omega, hsq2⟩), if_neg (by rw [hmf]; exact Bool.false_ne_true), if_neg (by rw [hbf]; exact Bool.false_ne_true)]
              exact .inr ⟨e0, _, _, _, rfl, hr7, hcan1, hbd1, hmk1⟩

end Go.Proofs.Ytkcighnochjlgaa
