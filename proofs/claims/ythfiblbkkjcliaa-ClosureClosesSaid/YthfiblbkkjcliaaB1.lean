/- Walks printed by eng.py. -/
import Derived.Test.YthfiblbkkjcliaaE7
import Derived.Test.YthfiblbkkjcliaaCst
import Derived.Test.YthfiblbkkjcliaaSls
set_option linter.unusedSimpArgs false
set_option linter.unusedVariables false
namespace Go.Proofs.Ythfiblbkkjcliaa
open Go.ChangeShapes Go.WideShapes Go.ChangeAt Go.RowKit
/-- The place of the first that is so, or -1. -/
def idxF (p : Int → Bool) (xs : List Int) : Int := match xs.findIdx? p with
  | some i => (i : Int)
  | none => -1
theorem idxF_hit {p : Int → Bool} {xs : List Int} {k : Nat} (hk : k < xs.length) (h : p (ga xs k) = true) (h0 : ∀ j, j < k → p (ga xs j) = false) : idxF p xs = k := by
  have : xs.findIdx? p = some k := by
    rw [List.findIdx?_eq_some_iff_getElem]
    refine ⟨hk, by rw [← ga_eq hk]; exact h, fun j hj => ?_⟩
    rw [← ga_eq (by omega), h0 j hj]; simp
  simp [idxF, this]
theorem idxF_none {p : Int → Bool} {xs : List Int} (h0 : ∀ j, j < xs.length → p (ga xs j) = false) : idxF p xs = -1 := by
  have : xs.findIdx? p = none := by
    rw [List.findIdx?_eq_none_iff]
    intro x hx
    obtain ⟨j, hj, rfl⟩ := List.mem_iff_getElem.1 hx
    rw [← ga_eq hj]; exact h0 j hj
  simp [idxF, this]
theorem idxF_any (p : Int → Bool) (xs : List Int) : decide (0 ≤ idxF p xs) = xs.any p := by
  unfold idxF
  cases h : xs.findIdx? p with
  | some i =>
    rw [List.findIdx?_eq_some_iff_getElem] at h
    obtain ⟨h1, h2, _⟩ := h
    rw [Bool.eq_iff_iff, decide_eq_true_iff, List.any_eq_true]
    exact ⟨fun _ => ⟨xs[i], List.getElem_mem h1, h2⟩, fun _ => by show (0 : Int) ≤ (i : Int); omega⟩
  | none =>
    rw [List.findIdx?_eq_none_iff] at h
    rw [Bool.eq_iff_iff, decide_eq_true_iff, List.any_eq_true]
    constructor
    · intro h1; exact absurd h1 (by decide)
    · rintro ⟨x, hx, hp⟩; rw [h x hx] at hp; cases hp

noncomputable def IndexFuncI_n0 : Code := Try.f48.body.getD .skip
noncomputable def IndexFuncI_n1 : Code := cL IndexFuncI_n0
noncomputable def IndexFuncI_n2 : Code := cR IndexFuncI_n0
noncomputable def IndexFuncI_n3 : Code := cL IndexFuncI_n2
noncomputable def IndexFuncI_n4 : Code := cR IndexFuncI_n2
noncomputable def IndexFuncI_n5 : Code := cL IndexFuncI_n3
noncomputable def IndexFuncI_n6 : Code := cR IndexFuncI_n3
noncomputable def IndexFuncI_n7 : Code := cL IndexFuncI_n6
noncomputable def IndexFuncI_n8 : Code := cL IndexFuncI_n7
noncomputable def IndexFuncI_n9 : Code := cL IndexFuncI_n8
noncomputable def IndexFuncI_n10 : Code := cR IndexFuncI_n8
noncomputable def IndexFuncI_n11 : Code := cL IndexFuncI_n10
noncomputable def IndexFuncI_n12 : Code := cR IndexFuncI_n10
noncomputable def IndexFuncI_n13 : Code := cL IndexFuncI_n11
noncomputable def IndexFuncI_n14 : Code := cR IndexFuncI_n11
noncomputable def IndexFuncI_n15 : Code := cL IndexFuncI_n12
noncomputable def IndexFuncI_n16 : Code := cR IndexFuncI_n12
noncomputable def IndexFuncI_n17 : Code := cL IndexFuncI_n15
noncomputable def IndexFuncI_n18 : Code := cL IndexFuncI_n17
noncomputable def IndexFuncI_n19 : Code := cR IndexFuncI_n17
noncomputable def IndexFuncI_n20 : Code := cL IndexFuncI_n19
noncomputable def IndexFuncI_n21 : Code := cR IndexFuncI_n19
noncomputable def IndexFuncI_n22 : Code := cL IndexFuncI_n21
noncomputable def IndexFuncI_n23 : Code := cR IndexFuncI_n21
noncomputable def IndexFuncI_n24 : Code := cL IndexFuncI_n22
noncomputable def IndexFuncI_n25 : Code := cR IndexFuncI_n22
noncomputable def IndexFuncI_n26 : Code := cL IndexFuncI_n4
noncomputable def IndexFuncI_n27 : Code := cR IndexFuncI_n4
set_option maxRecDepth 10000 in
theorem IndexFuncI_q {w : World} {M : Hp} {X : Fr} (s : List Int) {sA : Option Addr} {sc : Nat} (fv : FuncId) (cap : List Value) (p : Int → Bool) (hs : RdA cdInt (M.un X.h) sA sc s) (hen : ∀ args w, (callFunc fv args).run Try.prog w = .ok (.enter fv args) w) (hf : ∀ (w : World) (Y : Fr), (M.un X.h).le (M.un Y.h) → SH w M Y [] → ∀ x ∈ s, Cq Try.prog fv ([.int .i64 x] ++ cap) w M Y (fun u => u = .bool (p x))) (S : SH w M X []) : Cq Try.prog 48 [.slice sA s.length sc, .func (.func fv) #[] cap.toArray] w M X (fun u => u = .int .i64 (idxF p s)) := by
  unfold Cq
  have rmhs : s.length * 8 ≤ 140737488355328 := hs.room
  have hroom : s.length * 8 ≤ 140737488355328 := hs.room
  refine calls_in (b := IndexFuncI_n0) Try.func48 rfl Try.ntmps48 rfl (fun C hC => ?_)
  refine ws_sub [(0, _), (1, _)] ⟨rfl, rfl, trivial⟩ ?_
  refine ws_seqN IndexFuncI_n1 IndexFuncI_n2 rfl rfl rfl ?_
  refine ws_region rfl ?_
  refine wl_op (k := 0) (k' := 1) rfl rfl rfl (wo_run rfl rfl (run_assign rfl rfl) ?_)
  refine wl_end rfl ?_
  refine nm_sub [(0, _), (1, _)] ⟨rfl, rfl, trivial⟩ ?_
  refine nm_thn ?_
  refine ws_seqN IndexFuncI_n3 IndexFuncI_n4 rfl rfl rfl ?_
  refine ws_seqN IndexFuncI_n5 IndexFuncI_n6 rfl rfl rfl ?_
  refine ws_region rfl ?_
  refine wl_op (k := 0) (k' := 1) rfl rfl rfl (wo_run rfl rfl (run_move rfl rfl) ?_)
  refine wl_op (k := 1) (k' := 2) rfl rfl rfl (wo_run rfl rfl (run_len rfl rfl rfl rfl rfl rfl Try.underlying22) ?_)
  refine wl_op (k := 2) (k' := 3) rfl rfl rfl (wo_run rfl rfl (run_move rfl rfl) ?_)
  refine wl_end rfl ?_
  refine nm_sub [(0, _), (1, _), (7, _), (8, _)] ⟨rfl, rfl, rfl, rfl, trivial⟩ ?_
  refine nm_thn ?_
  refine ws_blockN IndexFuncI_n7 0 rfl rfl rfl ?_
  refine ws_loopE (fun mx_ ax_ wx_ => ∃ (k : Nat), mx_ = s.length - k ∧ Env 19 [(0, .slice sA s.length sc), (1, .func (.func fv) #[] cap.toArray), (7, .int .i64 (s.length : Int)), (8, .int .i64 (k : Int))] ax_ ∧ SH wx_ M X [] ∧ k ≤ s.length ∧ (∀ j, j < k → p (ga s j) = false)) rfl ?_ ?_
  · intro ax_ hax_
    refine ⟨_, ⟨0, rfl, hax_.sub ⟨rfl, rfl, rfl, rfl, trivial⟩, S.pick [] [] (by decide) trivial, ?hq1f0, ?hq1f1⟩⟩
    case hq1f0 => omega
    case hq1f1 => (intro j hj; omega)
  · rintro m1 a1 w1 ⟨k, rfl, he1, S1, hk, hno⟩
    clear S
    refine ws_in he1 (c := IndexFuncI_n8) rfl ?_
    clear he1 a1
    refine ws_seqN IndexFuncI_n9 IndexFuncI_n10 rfl rfl rfl ?_
    refine ws_region rfl ?_
    refine wl_op (k := 0) (k' := 1) rfl rfl rfl (wo_run rfl rfl (run_lss rfl rfl rfl) ?_)
    refine wl_end rfl ?_
    refine nm_thn ?_
    refine ws_seqN IndexFuncI_n11 IndexFuncI_n12 rfl rfl rfl ?_
    refine ws_condN IndexFuncI_n13 IndexFuncI_n14 rfl rfl rfl rfl (fun hb9 => ?_) (fun hb9 => ?_)
    · have hb9 := of_decide_eq_true hb9
      refine ws_skip rfl ?_
      refine nm_sub [(0, _), (1, _), (7, _), (8, _)] ⟨rfl, rfl, rfl, rfl, trivial⟩ ?_
      refine nm_thn ?_
      refine ws_seqN IndexFuncI_n15 IndexFuncI_n16 rfl rfl rfl ?_
      refine ws_blockN IndexFuncI_n17 1 rfl rfl rfl ?_
      refine ws_seqN IndexFuncI_n18 IndexFuncI_n19 rfl rfl rfl ?_
      refine ws_region rfl ?_
      refine wl_op (k := 0) (k' := 1) rfl rfl rfl (wo_run rfl rfl (run_move rfl rfl) ?_)
      refine wl_op (k := 1) (k' := 2) rfl rfl rfl (wo_run rfl rfl (run_assign rfl rfl) ?_)
      refine wl_end rfl ?_
      refine nm_sub [(0, _), (1, _), (7, _), (8, _), (5, _)] ⟨rfl, rfl, rfl, rfl, rfl, trivial⟩ ?_
      refine nm_thn ?_
      refine ws_seqN IndexFuncI_n20 IndexFuncI_n21 rfl rfl rfl ?_
      refine ws_region rfl ?_
      refine wl_op (k := 0) (k' := 1) rfl rfl rfl (wo_run rfl rfl (run_move rfl rfl) ?_)
      refine wl_op (k := 1) (k' := 2) rfl rfl rfl (wo_run rfl rfl (run_move rfl rfl) ?_)
      refine wl_op (k := 2) (k' := 3) rfl rfl rfl (wo_run rfl rfl (run_move rfl rfl) ?_)
      refine wl_op (k := 3) (k' := 4) rfl rfl rfl (wo_run rfl rfl (run_indexM (C := cdInt) k rfl rfl rfl sl22 (by first | rfl | omega) hs (by first | omega | (simp only [List.length_set, List.length_append, List.length_replicate, List.length_singleton, List.length_cons, List.length_nil]; omega))) ?_)
      refine wl_op (k := 4) (k' := 5) rfl rfl rfl (wo_run rfl rfl (run_load1 rfl rfl Try.underlying3 rfl (hs.cell S1.um (i := k) (by first | omega | (simp only [List.length_set, List.length_append, List.length_replicate, List.length_singleton, List.length_cons, List.length_nil]; omega)) 0 rfl rfl)) ?_)
      refine wl_op (k := 5) (k' := 6) rfl rfl rfl (wo_cqF rfl rfl rfl rfl rfl rfl rfl hen S1 (hf _ _ S1.un_XH S1.lend _ (ga_mem (by omega))) ?_)
      rintro _ w2 S2 rfl; clear S1
      refine wl_end rfl ?_
      refine nm_sub [(0, _), (1, _), (7, _), (8, _), (5, _), (16, _)] ⟨rfl, rfl, rfl, rfl, rfl, rfl, trivial⟩ ?_
      refine nm_thn ?_
      refine ws_condN IndexFuncI_n22 IndexFuncI_n23 rfl rfl rfl rfl (fun hb16 => ?_) (fun hb16 => ?_)
      · refine ws_seqN IndexFuncI_n24 IndexFuncI_n25 rfl rfl rfl ?_
        refine ws_region rfl ?_
        refine wl_op (k := 0) (k' := 1) rfl rfl rfl (wo_run rfl rfl (run_move rfl rfl) ?_)
        refine wl_op (k := 1) (k' := 2) rfl rfl rfl (wo_run rfl rfl (run_assign rfl rfl) ?_)
        refine wl_end rfl ?_
        refine nm_sub [(4, _)] ⟨rfl, trivial⟩ ?_
        refine nm_thn ?_
        refine ws_ret hC [_] rfl rfl ⟨rfl, trivial⟩ ?_
        exact ⟨_, rfl, (S2.pick [] [] (by decide) trivial), (by rw [idxF_hit (by omega) hb16 hno]; rfl)⟩
      · refine ws_skip rfl ?_
        refine nm_blk ?_
        refine nm_sub [(0, _), (1, _), (7, _), (8, _)] ⟨rfl, rfl, rfl, rfl, trivial⟩ ?_
        refine nm_thn ?_
        refine ws_region rfl ?_
        refine wl_op (k := 0) (k' := 1) rfl rfl rfl (wo_run rfl rfl (run_add rfl rfl rfl (by first | omega | (simp only [List.length_set, List.length_append, List.length_replicate, List.length_singleton, List.length_cons, List.length_nil]; omega))) ?_)
        refine wl_op (k := 1) (k' := 2) rfl rfl rfl (wo_run rfl rfl (run_move rfl rfl) ?_)
        refine wl_end rfl ?_
        refine nm_lp ?_
        intro ax_ hax_
        refine ⟨_, ?hq2m, ⟨k + 1, rfl, hax_.sub ⟨rfl, rfl, rfl, rfl, trivial⟩, S2.pick [] [] (by decide) trivial, ?hq2f0, ?hq2f1⟩⟩
        case hq2f0 => first | assumption | omega
        case hq2f1 => (intro j hj; by_cases h : j = k; (subst h; exact hb16); exact hno j (by omega))
        case hq2m => omega
    · have hb9 := of_decide_eq_false hb9
      refine ws_exit rfl rfl ?_
      refine nm_sub [] trivial ?_
      refine nm_thn ?_
      refine ws_seqN IndexFuncI_n26 IndexFuncI_n27 rfl rfl rfl ?_
      refine ws_region rfl ?_
      refine wl_op (k := 0) (k' := 1) rfl rfl rfl (wo_run rfl rfl (run_assign rfl rfl) ?_)
      refine wl_end rfl ?_
      refine nm_thn ?_
      refine ws_ret hC [_] rfl rfl ⟨rfl, trivial⟩ ?_
      exact ⟨_, rfl, (S1.pick [] [] (by decide) trivial), (by rw [idxF_none (fun j hj => hno j (by omega))]; rfl)⟩

def wrongB (n a : Int) : Bool := decide (a = 0 ∨ n ≤ a ∨ a ≤ -n)
def checkI (n : Int) (xss : List (List Int)) : Int := if n < 2 ∨ 6 < n then 3 else if xss.any (fun w => w.any (wrongB n)) then 3 else if xss.any (fun w => decide (20 < w.length)) then 2 else 0

noncomputable def ContainsFuncI_n0 : Code := Try.f40.body.getD .skip
noncomputable def ContainsFuncI_n1 : Code := cL ContainsFuncI_n0
noncomputable def ContainsFuncI_n2 : Code := cR ContainsFuncI_n0
noncomputable def ContainsFuncI_n3 : Code := cL ContainsFuncI_n2
noncomputable def ContainsFuncI_n4 : Code := cR ContainsFuncI_n2
set_option maxRecDepth 10000 in
theorem ContainsFuncI_q {w : World} {M : Hp} {X : Fr} (s : List Int) {sA : Option Addr} {sc : Nat} (fv : FuncId) (cap : List Value) (p : Int → Bool) (hs : RdA cdInt (M.un X.h) sA sc s) (hen : ∀ args w, (callFunc fv args).run Try.prog w = .ok (.enter fv args) w) (hf : ∀ (w : World) (Y : Fr), (M.un X.h).le (M.un Y.h) → SH w M Y [] → ∀ x ∈ s, Cq Try.prog fv ([.int .i64 x] ++ cap) w M Y (fun u => u = .bool (p x))) (S : SH w M X []) : Cq Try.prog 40 [.slice sA s.length sc, .func (.func fv) #[] cap.toArray] w M X (fun u => u = .bool (s.any p)) := by
  unfold Cq
  have rmhs : s.length * 8 ≤ 140737488355328 := hs.room
  refine calls_in (b := ContainsFuncI_n0) Try.func40 rfl Try.ntmps40 rfl (fun C hC => ?_)
  refine ws_sub [(0, _), (1, _)] ⟨rfl, rfl, trivial⟩ ?_
  refine ws_seqN ContainsFuncI_n1 ContainsFuncI_n2 rfl rfl rfl ?_
  refine ws_region rfl ?_
  refine wl_op (k := 0) (k' := 1) rfl rfl rfl (wo_run rfl rfl (run_assign rfl rfl) ?_)
  refine wl_end rfl ?_
  refine nm_sub [(0, _), (1, _)] ⟨rfl, rfl, trivial⟩ ?_
  refine nm_thn ?_
  refine ws_seqN ContainsFuncI_n3 ContainsFuncI_n4 rfl rfl rfl ?_
  refine ws_region rfl ?_
  refine wl_op (k := 0) (k' := 1) rfl rfl rfl (wo_run rfl rfl (run_move rfl rfl) ?_)
  refine wl_op (k := 1) (k' := 2) rfl rfl rfl (wo_run rfl rfl (run_move rfl rfl) ?_)
  refine wl_op (k := 2) (k' := 3) rfl rfl rfl (wo_cq rfl rfl rfl rfl rfl rfl rfl cf48 S (IndexFuncI_q s fv cap p (hs.mono S.un_XH) hen (fun w Y hl S9 => hf w Y (S.un_XH.trans hl) S9) S.lend) ?_)
  rintro _ w1 S1 rfl; clear S
  refine wl_op (k := 3) (k' := 4) rfl rfl rfl (wo_run rfl rfl (run_geq rfl rfl rfl) ?_)
  refine wl_op (k := 4) (k' := 5) rfl rfl rfl (wo_run rfl rfl (run_assign rfl rfl) ?_)
  refine wl_end rfl ?_
  refine nm_sub [(4, _)] ⟨rfl, trivial⟩ ?_
  refine nm_thn ?_
  refine ws_ret hC [_] rfl rfl ⟨rfl, trivial⟩ ?_
  exact ⟨_, rfl, (S1.pick [] [] (by decide) trivial), (by rw [← idxF_any]; rfl)⟩

noncomputable def Check1_n0 : Code := Try.f39.body.getD .skip
noncomputable def Check1_n1 : Code := cL Check1_n0
noncomputable def Check1_n2 : Code := cR Check1_n0
noncomputable def Check1_n3 : Code := cL Check1_n2
noncomputable def Check1_n4 : Code := cR Check1_n2
set_option maxRecDepth 10000 in
theorem Check1_q {w : World} {M : Hp} {X : Fr} (a : Int) (n : Int) {g : Nat} (hb : BxM (M.un X.h) g 3 [.int .i64 n]) (hn : 0 ≤ n ∧ n ≤ 6) (S : SH w M X []) : Cq Try.prog 39 [.int .i64 a, .pointer (some ⟨g, 0, none⟩)] w M X (fun u => u = .bool (wrongB n a)) := by
  unfold Cq
  refine calls_in (b := Check1_n0) Try.func39 rfl Try.ntmps39 rfl (fun C hC => ?_)
  refine ws_sub [(0, _), (1, _)] ⟨rfl, rfl, trivial⟩ ?_
  refine ws_seqN Check1_n1 Check1_n2 rfl rfl rfl ?_
  refine ws_region rfl ?_
  refine wl_op (k := 0) (k' := 1) rfl rfl rfl (wo_run rfl rfl (run_assign rfl rfl) ?_)
  refine wl_end rfl ?_
  refine nm_sub [(0, _), (1, _)] ⟨rfl, rfl, trivial⟩ ?_
  refine nm_thn ?_
  refine ws_seqN Check1_n3 Check1_n4 rfl rfl rfl ?_
  refine ws_region rfl ?_
  refine wl_op (k := 0) (k' := 1) rfl rfl rfl (wo_run rfl rfl (run_move rfl rfl) ?_)
  refine wl_op (k := 1) (k' := 2) rfl rfl rfl (wo_run rfl rfl (run_eql rfl rfl rfl) ?_)
  refine wl_op (k := 2) (k' := 3) rfl rfl rfl (wo_run rfl rfl (run_move rfl rfl) ?_)
  refine wl_split (t := 6) rfl (fun hg6 => ?_) (fun hg6 => ?_)
  · have hg6 := of_decide_eq_true hg6
    refine wl_no (k := 3) (k' := 4) (d := 7) rfl rfl ⟨_, _, _, rfl, rfl, rfl, rfl⟩ rfl rfl ?_
    refine wl_no (k := 4) (k' := 5) (d := 8) rfl rfl ⟨_, _, _, rfl, rfl, rfl, rfl⟩ rfl rfl ?_
    refine wl_no (k := 5) (k' := 6) (d := 9) rfl rfl ⟨_, _, _, rfl, rfl, rfl, rfl⟩ rfl rfl ?_
    refine wl_op (k := 6) (k' := 7) rfl rfl rfl (wo_run rfl rfl (run_pickT rfl rfl rfl) ?_)
    refine wl_op (k := 7) (k' := 8) rfl rfl rfl (wo_run rfl rfl (run_move rfl rfl) ?_)
    refine wl_no (k := 8) (k' := 9) (d := 12) rfl rfl ⟨_, _, _, rfl, rfl, rfl, rfl⟩ rfl rfl ?_
    refine wl_no (k := 9) (k' := 10) (d := 13) rfl rfl ⟨_, _, _, rfl, rfl, rfl, rfl⟩ rfl rfl ?_
    refine wl_no (k := 10) (k' := 11) (d := 14) rfl rfl ⟨_, _, _, rfl, rfl, rfl, rfl⟩ rfl rfl ?_
    refine wl_no (k := 11) (k' := 12) (d := 15) rfl rfl ⟨_, _, _, rfl, rfl, rfl, rfl⟩ rfl rfl ?_
    refine wl_op (k := 12) (k' := 13) rfl rfl rfl (wo_run rfl rfl (run_pickT rfl rfl rfl) ?_)
    refine wl_op (k := 13) (k' := 14) rfl rfl rfl (wo_run rfl rfl (run_assign rfl rfl) ?_)
    refine wl_end rfl ?_
    refine nm_sub [(3, _)] ⟨rfl, trivial⟩ ?_
    refine nm_thn ?_
    refine ws_ret hC [_] rfl rfl ⟨rfl, trivial⟩ ?_
    exact ⟨_, rfl, (S.pick [] [] (by decide) trivial), (by show Value.bool _ = Value.bool _; refine congrArg Value.bool ?_; unfold wrongB; first | (symm; rw [decide_eq_true_iff]; omega) | (rw [decide_eq_decide]; omega))⟩
  · have hg6 := of_decide_eq_false hg6
    refine wl_opG (k := 3) (k' := 4) rfl rfl ⟨_, _, _, rfl, rfl, rfl, rfl⟩ rfl (wo_run rfl rfl (run_move rfl rfl) ?_)
    refine wl_opG (k := 4) (k' := 5) rfl rfl ⟨_, _, _, rfl, rfl, rfl, rfl⟩ rfl (wo_run rfl rfl (run_load1 rfl rfl Try.underlying3 rfl (hb.cell S.um rfl)) ?_)
    refine wl_opG (k := 5) (k' := 6) rfl rfl ⟨_, _, _, rfl, rfl, rfl, rfl⟩ rfl (wo_run rfl rfl (run_geq rfl rfl rfl) ?_)
    refine wl_op (k := 6) (k' := 7) rfl rfl rfl (wo_run rfl rfl (run_pickF rfl rfl rfl) ?_)
    refine wl_op (k := 7) (k' := 8) rfl rfl rfl (wo_run rfl rfl (run_move rfl rfl) ?_)
    refine wl_split (t := 11) rfl (fun hg11 => ?_) (fun hg11 => ?_)
    · have hg11 := of_decide_eq_true hg11
      refine wl_no (k := 8) (k' := 9) (d := 12) rfl rfl ⟨_, _, _, rfl, rfl, rfl, rfl⟩ rfl rfl ?_
      refine wl_no (k := 9) (k' := 10) (d := 13) rfl rfl ⟨_, _, _, rfl, rfl, rfl, rfl⟩ rfl rfl ?_
      refine wl_no (k := 10) (k' := 11) (d := 14) rfl rfl ⟨_, _, _, rfl, rfl, rfl, rfl⟩ rfl rfl ?_
      refine wl_no (k := 11) (k' := 12) (d := 15) rfl rfl ⟨_, _, _, rfl, rfl, rfl, rfl⟩ rfl rfl ?_
      refine wl_op (k := 12) (k' := 13) rfl rfl rfl (wo_run rfl rfl (run_pickT rfl rfl rfl) ?_)
      refine wl_op (k := 13) (k' := 14) rfl rfl rfl (wo_run rfl rfl (run_assign rfl rfl) ?_)
      refine wl_end rfl ?_
      refine nm_sub [(3, _)] ⟨rfl, trivial⟩ ?_
      refine nm_thn ?_
      refine ws_ret hC [_] rfl rfl ⟨rfl, trivial⟩ ?_
      exact ⟨_, rfl, (S.pick [] [] (by decide) trivial), (by show Value.bool _ = Value.bool _; refine congrArg Value.bool ?_; unfold wrongB; first | (symm; rw [decide_eq_true_iff]; omega) | (rw [decide_eq_decide]; omega))⟩
    · have hg11 := of_decide_eq_false hg11
      refine wl_opG (k := 8) (k' := 9) rfl rfl ⟨_, _, _, rfl, rfl, rfl, rfl⟩ rfl (wo_run rfl rfl (run_move rfl rfl) ?_)
      refine wl_opG (k := 9) (k' := 10) rfl rfl ⟨_, _, _, rfl, rfl, rfl, rfl⟩ rfl (wo_run rfl rfl (run_load1 rfl rfl Try.underlying3 rfl (hb.cell S.um rfl)) ?_)
      refine wl_opG (k := 10) (k' := 11) rfl rfl ⟨_, _, _, rfl, rfl, rfl, rfl⟩ rfl (wo_run rfl rfl (run_neg rfl rfl (by first | omega | (simp only [List.length_set, List.length_append, List.length_replicate, List.length_singleton, List.length_cons, List.length_nil]; omega))) ?_)
      refine wl_opG (k := 11) (k' := 12) rfl rfl ⟨_, _, _, rfl, rfl, rfl, rfl⟩ rfl (wo_run rfl rfl (run_leq rfl rfl rfl) ?_)
      refine wl_op (k := 12) (k' := 13) rfl rfl rfl (wo_run rfl rfl (run_pickF rfl rfl rfl) ?_)
      refine wl_op (k := 13) (k' := 14) rfl rfl rfl (wo_run rfl rfl (run_assign rfl rfl) ?_)
      refine wl_end rfl ?_
      refine nm_sub [(3, _)] ⟨rfl, trivial⟩ ?_
      refine nm_thn ?_
      refine ws_ret hC [_] rfl rfl ⟨rfl, trivial⟩ ?_
      exact ⟨_, rfl, (S.pick [] [] (by decide) trivial), (by show Value.bool _ = Value.bool _; refine congrArg Value.bool ?_; unfold wrongB; first | (symm; rw [decide_eq_true_iff]; omega) | (rw [decide_eq_decide]; omega))⟩

theorem anyF {α : Type} [Inhabited α] {p : α → Bool} {xs : List α} (h : ∀ j, j < xs.length → p (ga xs j) = false) : xs.any p = false := by
  rw [List.any_eq_false]
  intro x hx
  obtain ⟨j, hj, rfl⟩ := List.mem_iff_getElem.1 hx
  rw [← ga_eq hj, h j hj]; simp
noncomputable def Check_n0 : Code := Try.f22.body.getD .skip
noncomputable def Check_n1 : Code := cL Check_n0
noncomputable def Check_n2 : Code := cR Check_n0
noncomputable def Check_n3 : Code := cL Check_n2
noncomputable def Check_n4 : Code := cR Check_n2
noncomputable def Check_n5 : Code := cL Check_n3
noncomputable def Check_n6 : Code := cR Check_n3
noncomputable def Check_n7 : Code := cL Check_n6
noncomputable def Check_n8 : Code := cR Check_n6
noncomputable def Check_n9 : Code := cL Check_n7
noncomputable def Check_n10 : Code := cR Check_n7
noncomputable def Check_n11 : Code := cL Check_n4
noncomputable def Check_n12 : Code := cR Check_n4
noncomputable def Check_n13 : Code := cL Check_n12
noncomputable def Check_n14 : Code := cR Check_n12
noncomputable def Check_n15 : Code := cL Check_n13
noncomputable def Check_n16 : Code := cR Check_n13
noncomputable def Check_n17 : Code := cL Check_n16
noncomputable def Check_n18 : Code := cL Check_n17
noncomputable def Check_n19 : Code := cL Check_n18
noncomputable def Check_n20 : Code := cR Check_n18
noncomputable def Check_n21 : Code := cL Check_n20
noncomputable def Check_n22 : Code := cR Check_n20
noncomputable def Check_n23 : Code := cL Check_n21
noncomputable def Check_n24 : Code := cR Check_n21
noncomputable def Check_n25 : Code := cL Check_n22
noncomputable def Check_n26 : Code := cR Check_n22
noncomputable def Check_n27 : Code := cL Check_n25
noncomputable def Check_n28 : Code := cL Check_n27
noncomputable def Check_n29 : Code := cR Check_n27
noncomputable def Check_n30 : Code := cL Check_n29
noncomputable def Check_n31 : Code := cR Check_n29
noncomputable def Check_n32 : Code := cL Check_n31
noncomputable def Check_n33 : Code := cR Check_n31
noncomputable def Check_n34 : Code := cL Check_n32
noncomputable def Check_n35 : Code := cR Check_n32
noncomputable def Check_n36 : Code := cL Check_n14
noncomputable def Check_n37 : Code := cR Check_n14
noncomputable def Check_n38 : Code := cL Check_n36
noncomputable def Check_n39 : Code := cR Check_n36
noncomputable def Check_n40 : Code := cL Check_n39
noncomputable def Check_n41 : Code := cL Check_n40
noncomputable def Check_n42 : Code := cL Check_n41
noncomputable def Check_n43 : Code := cR Check_n41
noncomputable def Check_n44 : Code := cL Check_n43
noncomputable def Check_n45 : Code := cR Check_n43
noncomputable def Check_n46 : Code := cL Check_n44
noncomputable def Check_n47 : Code := cR Check_n44
noncomputable def Check_n48 : Code := cL Check_n45
noncomputable def Check_n49 : Code := cR Check_n45
noncomputable def Check_n50 : Code := cL Check_n48
noncomputable def Check_n51 : Code := cL Check_n50
noncomputable def Check_n52 : Code := cR Check_n50
noncomputable def Check_n53 : Code := cL Check_n52
noncomputable def Check_n54 : Code := cR Check_n52
noncomputable def Check_n55 : Code := cL Check_n54
noncomputable def Check_n56 : Code := cR Check_n54
noncomputable def Check_n57 : Code := cL Check_n55
noncomputable def Check_n58 : Code := cR Check_n55
noncomputable def Check_n59 : Code := cL Check_n37
noncomputable def Check_n60 : Code := cR Check_n37
set_option maxRecDepth 10000 in
theorem Check_q {w : World} {M : Hp} {X : Fr} (n : Int) (ws : List (List Int)) {wsA : Option Addr} {wsc : Nat} {wsv : List SlV} (hws : RdA (cdV 22) (M.un X.h) wsA wsc wsv) (hdws : Rd2 cdInt (M.un X.h) wsv ws) (S : SH w M X []) : Cq Try.prog 22 [.int .i64 n, .slice wsA wsv.length wsc] w M X (fun u => u = .int .i64 (checkI n ws)) := by
  unfold Cq
  have rmhws : wsv.length * 24 ≤ 140737488355328 := hws.room
  refine calls_in (b := Check_n0) Try.func22 rfl Try.ntmps22 rfl (fun C hC => ?_)
  refine ws_sub [(0, _), (1, _)] ⟨rfl, rfl, trivial⟩ ?_
  refine ws_seqN Check_n1 Check_n2 rfl rfl rfl ?_
  refine ws_region rfl ?_
  refine wl_op (k := 0) (k' := 1) rfl rfl rfl (wo_box (l := [_]) rfl rfl rfl rfl rfl S ?_)
  intro gb1 w1 S1; clear S
  refine wl_op (k := 1) (k' := 2) rfl rfl rfl (wo_run rfl rfl (run_assign rfl rfl) ?_)
  refine wl_end rfl ?_
  refine nm_sub [(1, _), (2, _)] ⟨rfl, rfl, trivial⟩ ?_
  refine nm_thn ?_
  refine ws_seqN Check_n3 Check_n4 rfl rfl rfl ?_
  refine ws_seqN Check_n5 Check_n6 rfl rfl rfl ?_
  refine ws_region rfl ?_
  refine wl_op (k := 0) (k' := 1) rfl rfl rfl (wo_run rfl rfl (run_load1 rfl rfl Try.underlying3 rfl (S1.boxc (i := 0) rfl rfl)) ?_)
  refine wl_op (k := 1) (k' := 2) rfl rfl rfl (wo_run rfl rfl (run_lss rfl rfl rfl) ?_)
  refine wl_op (k := 2) (k' := 3) rfl rfl rfl (wo_run rfl rfl (run_move rfl rfl) ?_)
  refine wl_split (t := 12) rfl (fun hg12 => ?_) (fun hg12 => ?_)
  · have hg12 := of_decide_eq_true hg12
    refine wl_no (k := 3) (k' := 4) (d := 13) rfl rfl ⟨_, _, _, rfl, rfl, rfl, rfl⟩ rfl rfl ?_
    refine wl_no (k := 4) (k' := 5) (d := 14) rfl rfl ⟨_, _, _, rfl, rfl, rfl, rfl⟩ rfl rfl ?_
    refine wl_op (k := 5) (k' := 6) rfl rfl rfl (wo_run rfl rfl (run_pickT rfl rfl rfl) ?_)
    refine wl_end rfl ?_
    refine nm_sub [(1, _), (2, _), (15, _)] ⟨rfl, rfl, rfl, trivial⟩ ?_
    refine nm_thn ?_
    refine ws_condTN Check_n7 rfl rfl rfl ?_
    refine ws_seqN Check_n9 Check_n10 rfl rfl rfl ?_
    refine ws_region rfl ?_
    refine wl_op (k := 0) (k' := 1) rfl rfl rfl (wo_run rfl rfl (run_assign rfl rfl) ?_)
    refine wl_end rfl ?_
    refine nm_sub [(4, _)] ⟨rfl, trivial⟩ ?_
    refine nm_thn ?_
    refine ws_ret hC [_] rfl rfl ⟨rfl, trivial⟩ ?_
    exact ⟨_, rfl, (S1.pick [] [] (by decide) trivial), (by show Value.int _ _ = _; unfold checkI; first | rw [if_pos (by omega)] | rw [if_neg (by omega), if_pos (by rw [List.any_eq_true]; exact ⟨ga ws k, ga_mem (by omega), hb25⟩)])⟩
  · have hg12 := of_decide_eq_false hg12
    refine wl_opG (k := 3) (k' := 4) rfl rfl ⟨_, _, _, rfl, rfl, rfl, rfl⟩ rfl (wo_run rfl rfl (run_load1 rfl rfl Try.underlying3 rfl (S1.boxc (i := 0) rfl rfl)) ?_)
    refine wl_opG (k := 4) (k' := 5) rfl rfl ⟨_, _, _, rfl, rfl, rfl, rfl⟩ rfl (wo_run rfl rfl (run_gtr rfl rfl rfl) ?_)
    refine wl_op (k := 5) (k' := 6) rfl rfl rfl (wo_run rfl rfl (run_pickF rfl rfl rfl) ?_)
    refine wl_end rfl ?_
    refine nm_sub [(1, _), (2, _), (15, _)] ⟨rfl, rfl, rfl, trivial⟩ ?_
    refine nm_thn ?_
    refine ws_condN Check_n7 Check_n8 rfl rfl rfl rfl (fun hb15 => ?_) (fun hb15 => ?_)
    · have hb15 := of_decide_eq_true hb15
      refine ws_seqN Check_n9 Check_n10 rfl rfl rfl ?_
      refine ws_region rfl ?_
      refine wl_op (k := 0) (k' := 1) rfl rfl rfl (wo_run rfl rfl (run_assign rfl rfl) ?_)
      refine wl_end rfl ?_
      refine nm_sub [(4, _)] ⟨rfl, trivial⟩ ?_
      refine nm_thn ?_
      refine ws_ret hC [_] rfl rfl ⟨rfl, trivial⟩ ?_
      exact ⟨_, rfl, (S1.pick [] [] (by decide) trivial), (by show Value.int _ _ = _; unfold checkI; first | rw [if_pos (by omega)] | rw [if_neg (by omega), if_pos (by rw [List.any_eq_true]; exact ⟨ga ws k, ga_mem (by omega), hb25⟩)])⟩
    · have hb15 := of_decide_eq_false hb15
      refine ws_skip rfl ?_
      refine nm_sub [(1, _), (2, _)] ⟨rfl, rfl, trivial⟩ ?_
      refine nm_thn ?_
      refine ws_seqN Check_n11 Check_n12 rfl rfl rfl ?_
      refine ws_region rfl ?_
      refine wl_op (k := 0) (k' := 1) rfl rfl rfl (wo_run rfl rfl (run_makeFunc (vs := [_]) rfl rfl rfl rfl) ?_)
      refine wl_op (k := 1) (k' := 2) rfl rfl rfl (wo_run rfl rfl (run_assign rfl rfl) ?_)
      refine wl_end rfl ?_
      refine nm_sub [(1, _), (5, _)] ⟨rfl, rfl, trivial⟩ ?_
      refine nm_thn ?_
      refine ws_seqN Check_n13 Check_n14 rfl rfl rfl ?_
      refine ws_seqN Check_n15 Check_n16 rfl rfl rfl ?_
      refine ws_region rfl ?_
      refine wl_op (k := 0) (k' := 1) rfl rfl rfl (wo_run rfl rfl (run_move rfl rfl) ?_)
      refine wl_op (k := 1) (k' := 2) rfl rfl rfl (wo_run rfl rfl (run_len rfl rfl rfl rfl rfl rfl Try.underlying27) ?_)
      refine wl_op (k := 2) (k' := 3) rfl rfl rfl (wo_run rfl rfl (run_move rfl rfl) ?_)
      refine wl_end rfl ?_
      refine nm_thn ?_
      refine ws_blockN Check_n17 0 rfl rfl rfl ?_
      refine ws_loopE (fun mx_ ax_ wx_ => ∃ (k : Nat), mx_ = wsv.length - k ∧ Env 37 [(1, .slice wsA wsv.length wsc), (5, .func (.func 39) #[] [.pointer (some ⟨gb1, 0, none⟩)].toArray), (17, .slice wsA wsv.length wsc), (18, .int .i64 (wsv.length : Int)), (19, .int .i64 (k : Int))] ax_ ∧ SH wx_ M X [Rs.box gb1 3 [.int .i64 n]] ∧ k ≤ wsv.length ∧ (∀ j, j < k → (ga ws j).any (wrongB n) = false)) rfl ?_ ?_
      · intro ax_ hax_
        refine ⟨_, ⟨0, rfl, hax_.sub ⟨rfl, rfl, rfl, rfl, rfl, trivial⟩, S1.pick [0] [_] (by decide) ⟨rfl, trivial⟩, ?hq1f0, ?hq1f1⟩⟩
        case hq1f0 => omega
        case hq1f1 => (intro j hj; omega)
      · rintro m1 a1 w2 ⟨k, rfl, he1, S2, hk, hno⟩
        clear S1
        refine ws_in he1 (c := Check_n18) rfl ?_
        clear he1 a1
        have hwl := hdws.1
        refine ws_seqN Check_n19 Check_n20 rfl rfl rfl ?_
        refine ws_region rfl ?_
        refine wl_op (k := 0) (k' := 1) rfl rfl rfl (wo_run rfl rfl (run_lss rfl rfl rfl) ?_)
        refine wl_end rfl ?_
        refine nm_thn ?_
        refine ws_seqN Check_n21 Check_n22 rfl rfl rfl ?_
        refine ws_condN Check_n23 Check_n24 rfl rfl rfl rfl (fun hb20 => ?_) (fun hb20 => ?_)
        · have hb20 := of_decide_eq_true hb20
          refine ws_skip rfl ?_
          refine nm_sub [(1, _), (5, _), (17, _), (18, _), (19, _)] ⟨rfl, rfl, rfl, rfl, rfl, trivial⟩ ?_
          refine nm_thn ?_
          refine ws_seqN Check_n25 Check_n26 rfl rfl rfl ?_
          refine ws_blockN Check_n27 1 rfl rfl rfl ?_
          refine ws_seqN Check_n28 Check_n29 rfl rfl rfl ?_
          refine ws_region rfl ?_
          refine wl_op (k := 0) (k' := 1) rfl rfl rfl (wo_run rfl rfl (run_indexM (C := (cdV 22)) k rfl rfl rfl sl27 (by first | rfl | omega) hws (by first | omega | (simp only [List.length_set, List.length_append, List.length_replicate, List.length_singleton, List.length_cons, List.length_nil]; omega))) ?_)
          obtain ⟨hn1, hr1⟩ := hdws.2 k (by first | omega | (simp only [List.length_set, List.length_append, List.length_replicate, List.length_singleton, List.length_cons, List.length_nil]; omega))
          refine wl_op (k := 1) (k' := 2) rfl rfl rfl (wo_run rfl rfl (run_load1 rfl rfl Try.underlying22 rfl (hws.cell S2.um (i := k) (by first | omega | (simp only [List.length_set, List.length_append, List.length_replicate, List.length_singleton, List.length_cons, List.length_nil]; omega)) 0 rfl (congrArg (fun n => some (Value.slice _ n _)) hn1))) ?_)
          refine wl_op (k := 2) (k' := 3) rfl rfl rfl (wo_run rfl rfl (run_assign rfl rfl) ?_)
          refine wl_end rfl ?_
          refine nm_sub [(1, _), (5, _), (17, _), (18, _), (19, _), (7, _)] ⟨rfl, rfl, rfl, rfl, rfl, rfl, trivial⟩ ?_
          refine nm_thn ?_
          refine ws_seqN Check_n30 Check_n31 rfl rfl rfl ?_
          refine ws_region rfl ?_
          refine wl_op (k := 0) (k' := 1) rfl rfl rfl (wo_run rfl rfl (run_move rfl rfl) ?_)
          refine wl_op (k := 1) (k' := 2) rfl rfl rfl (wo_run rfl rfl (run_move rfl rfl) ?_)
          refine wl_op (k := 2) (k' := 3) rfl rfl rfl (wo_cq rfl rfl rfl rfl rfl rfl rfl cf40 S2 (ContainsFuncI_q (ga ws k) 39 _ (wrongB n) (hr1.mono S2.un_XH) cf39 (fun w9 Y9 hl9 S9 x9 _ => Check1_q x9 n ((S2.boxM (i := 0) rfl).mono hl9) (by omega) S9) S2.lend) ?_)
          rintro _ w3 S3 rfl; clear S2
          refine wl_end rfl ?_
          refine nm_sub [(1, _), (5, _), (17, _), (18, _), (19, _), (25, _)] ⟨rfl, rfl, rfl, rfl, rfl, rfl, trivial⟩ ?_
          refine nm_thn ?_
          refine ws_condN Check_n32 Check_n33 rfl rfl rfl rfl (fun hb25 => ?_) (fun hb25 => ?_)
          · refine ws_seqN Check_n34 Check_n35 rfl rfl rfl ?_
            refine ws_region rfl ?_
            refine wl_op (k := 0) (k' := 1) rfl rfl rfl (wo_run rfl rfl (run_assign rfl rfl) ?_)
            refine wl_end rfl ?_
            refine nm_sub [(4, _)] ⟨rfl, trivial⟩ ?_
            refine nm_thn ?_
            refine ws_ret hC [_] rfl rfl ⟨rfl, trivial⟩ ?_
            exact ⟨_, rfl, (S3.pick [] [] (by decide) trivial), (by show Value.int _ _ = _; unfold checkI; first | rw [if_pos (by omega)] | rw [if_neg (by omega), if_pos (by rw [List.any_eq_true]; exact ⟨ga ws k, ga_mem (by omega), hb25⟩)])⟩
          · refine ws_skip rfl ?_
            refine nm_blk ?_
            refine nm_sub [(1, _), (5, _), (17, _), (18, _), (19, _)] ⟨rfl, rfl, rfl, rfl, rfl, trivial⟩ ?_
            refine nm_thn ?_
            refine ws_region rfl ?_
            refine wl_op (k := 0) (k' := 1) rfl rfl rfl (wo_run rfl rfl (run_add rfl rfl rfl (by first | omega | (simp only [List.length_set, List.length_append, List.length_replicate, List.length_singleton, List.length_cons, List.length_nil]; omega))) ?_)
            refine wl_op (k := 1) (k' := 2) rfl rfl rfl (wo_run rfl rfl (run_move rfl rfl) ?_)
            refine wl_end rfl ?_
            refine nm_lp ?_
            intro ax_ hax_
            refine ⟨_, ?hq2m, ⟨k + 1, rfl, hax_.sub ⟨rfl, rfl, rfl, rfl, rfl, trivial⟩, S3.pick [0] [_] (by decide) ⟨rfl, trivial⟩, ?hq2f0, ?hq2f1⟩⟩
            case hq2f0 => first | assumption | omega
            case hq2f1 => (intro j hj; by_cases h : j = k; (subst h; exact hb25); exact hno j (by omega))
            case hq2m => omega
        · have hb20 := of_decide_eq_false hb20
          refine ws_exit rfl rfl ?_
          refine nm_sub [(1, _)] ⟨rfl, trivial⟩ ?_
          refine nm_thn ?_
          refine ws_seqN Check_n36 Check_n37 rfl rfl rfl ?_
          refine ws_seqN Check_n38 Check_n39 rfl rfl rfl ?_
          refine ws_region rfl ?_
          refine wl_op (k := 0) (k' := 1) rfl rfl rfl (wo_run rfl rfl (run_move rfl rfl) ?_)
          refine wl_op (k := 1) (k' := 2) rfl rfl rfl (wo_run rfl rfl (run_len rfl rfl rfl rfl rfl rfl Try.underlying27) ?_)
          refine wl_op (k := 2) (k' := 3) rfl rfl rfl (wo_run rfl rfl (run_move rfl rfl) ?_)
          refine wl_end rfl ?_
          refine nm_sub [(27, _), (28, _), (29, _)] ⟨rfl, rfl, rfl, trivial⟩ ?_
          refine nm_thn ?_
          refine ws_blockN Check_n40 2 rfl rfl rfl ?_
          refine ws_loopE (fun mx_ ax_ wx_ => ∃ (k2 : Nat), mx_ = wsv.length - k2 ∧ Env 37 [(27, .slice wsA wsv.length wsc), (28, .int .i64 (wsv.length : Int)), (29, .int .i64 (k2 : Int))] ax_ ∧ SH wx_ M X [] ∧ k2 ≤ wsv.length ∧ (∀ j, j < k2 → ¬ 20 < (ga ws j).length)) rfl ?_ ?_
          · intro ax_ hax_
            refine ⟨_, ⟨0, rfl, hax_.sub ⟨rfl, rfl, rfl, trivial⟩, S2.pick [] [] (by decide) trivial, ?hq3f0, ?hq3f1⟩⟩
            case hq3f0 => omega
            case hq3f1 => (intro j hj; omega)
          · rintro m2 a2 w4 ⟨k2, rfl, he2, S4, hk2, hno2⟩
            clear S2
            refine ws_in he2 (c := Check_n41) rfl ?_
            clear he2 a2
            refine ws_seqN Check_n42 Check_n43 rfl rfl rfl ?_
            refine ws_region rfl ?_
            refine wl_op (k := 0) (k' := 1) rfl rfl rfl (wo_run rfl rfl (run_lss rfl rfl rfl) ?_)
            refine wl_end rfl ?_
            refine nm_thn ?_
            refine ws_seqN Check_n44 Check_n45 rfl rfl rfl ?_
            refine ws_condN Check_n46 Check_n47 rfl rfl rfl rfl (fun hb30 => ?_) (fun hb30 => ?_)
            · have hb30 := of_decide_eq_true hb30
              refine ws_skip rfl ?_
              refine nm_sub [(27, _), (28, _), (29, _)] ⟨rfl, rfl, rfl, trivial⟩ ?_
              refine nm_thn ?_
              refine ws_seqN Check_n48 Check_n49 rfl rfl rfl ?_
              refine ws_blockN Check_n50 3 rfl rfl rfl ?_
              refine ws_seqN Check_n51 Check_n52 rfl rfl rfl ?_
              refine ws_region rfl ?_
              refine wl_op (k := 0) (k' := 1) rfl rfl rfl (wo_run rfl rfl (run_indexM (C := (cdV 22)) k2 rfl rfl rfl sl27 (by first | rfl | omega) hws (by first | omega | (simp only [List.length_set, List.length_append, List.length_replicate, List.length_singleton, List.length_cons, List.length_nil]; omega))) ?_)
              obtain ⟨hn2, hr2⟩ := hdws.2 k2 (by first | omega | (simp only [List.length_set, List.length_append, List.length_replicate, List.length_singleton, List.length_cons, List.length_nil]; omega))
              refine wl_op (k := 1) (k' := 2) rfl rfl rfl (wo_run rfl rfl (run_load1 rfl rfl Try.underlying22 rfl (hws.cell S4.um (i := k2) (by first | omega | (simp only [List.length_set, List.length_append, List.length_replicate, List.length_singleton, List.length_cons, List.length_nil]; omega)) 0 rfl (congrArg (fun n => some (Value.slice _ n _)) hn2))) ?_)
              refine wl_op (k := 2) (k' := 3) rfl rfl rfl (wo_run rfl rfl (run_assign rfl rfl) ?_)
              refine wl_end rfl ?_
              refine nm_sub [(27, _), (28, _), (29, _), (9, _)] ⟨rfl, rfl, rfl, rfl, trivial⟩ ?_
              refine nm_thn ?_
              refine ws_seqN Check_n53 Check_n54 rfl rfl rfl ?_
              refine ws_region rfl ?_
              refine wl_op (k := 0) (k' := 1) rfl rfl rfl (wo_run rfl rfl (run_move rfl rfl) ?_)
              refine wl_op (k := 1) (k' := 2) rfl rfl rfl (wo_run rfl rfl (run_len rfl rfl rfl rfl rfl rfl Try.underlying22) ?_)
              refine wl_op (k := 2) (k' := 3) rfl rfl rfl (wo_run rfl rfl (run_gtr rfl rfl rfl) ?_)
              refine wl_end rfl ?_
              refine nm_sub [(27, _), (28, _), (29, _), (35, _)] ⟨rfl, rfl, rfl, rfl, trivial⟩ ?_
              refine nm_thn ?_
              refine ws_condN Check_n55 Check_n56 rfl rfl rfl rfl (fun hb35 => ?_) (fun hb35 => ?_)
              · have hb35 := of_decide_eq_true hb35
                refine ws_seqN Check_n57 Check_n58 rfl rfl rfl ?_
                refine ws_region rfl ?_
                refine wl_op (k := 0) (k' := 1) rfl rfl rfl (wo_run rfl rfl (run_assign rfl rfl) ?_)
                refine wl_end rfl ?_
                refine nm_sub [(4, _)] ⟨rfl, trivial⟩ ?_
                refine nm_thn ?_
                refine ws_ret hC [_] rfl rfl ⟨rfl, trivial⟩ ?_
                exact ⟨_, rfl, (S4.pick [] [] (by decide) trivial), (by show Value.int _ _ = _; unfold checkI; rw [if_neg (by omega), if_neg (by rw [anyF (fun j hj => hno j (by omega))]; exact Bool.false_ne_true), if_pos (by rw [List.any_eq_true]; exact ⟨ga ws k2, ga_mem (by omega), by rw [decide_eq_true_iff]; omega⟩)])⟩
              · have hb35 := of_decide_eq_false hb35
                refine ws_skip rfl ?_
                refine nm_blk ?_
                refine nm_sub [(27, _), (28, _), (29, _)] ⟨rfl, rfl, rfl, trivial⟩ ?_
                refine nm_thn ?_
                refine ws_region rfl ?_
                refine wl_op (k := 0) (k' := 1) rfl rfl rfl (wo_run rfl rfl (run_add rfl rfl rfl (by first | omega | (simp only [List.length_set, List.length_append, List.length_replicate, List.length_singleton, List.length_cons, List.length_nil]; omega))) ?_)
                refine wl_op (k := 1) (k' := 2) rfl rfl rfl (wo_run rfl rfl (run_move rfl rfl) ?_)
                refine wl_end rfl ?_
                refine nm_lp ?_
                intro ax_ hax_
                refine ⟨_, ?hq4m, ⟨k2 + 1, rfl, hax_.sub ⟨rfl, rfl, rfl, trivial⟩, S4.pick [] [] (by decide) trivial, ?hq4f0, ?hq4f1⟩⟩
                case hq4f0 => first | assumption | omega
                case hq4f1 => (intro j hj; by_cases h : j = k2; (subst h; omega); exact hno2 j (by omega))
                case hq4m => omega
            · have hb30 := of_decide_eq_false hb30
              refine ws_exit rfl rfl ?_
              refine nm_sub [] trivial ?_
              refine nm_thn ?_
              refine ws_seqN Check_n59 Check_n60 rfl rfl rfl ?_
              refine ws_region rfl ?_
              refine wl_op (k := 0) (k' := 1) rfl rfl rfl (wo_run rfl rfl (run_assign rfl rfl) ?_)
              refine wl_end rfl ?_
              refine nm_thn ?_
              refine ws_ret hC [_] rfl rfl ⟨rfl, trivial⟩ ?_
              exact ⟨_, rfl, (S4.pick [] [] (by decide) trivial), (by show Value.int _ _ = _; unfold checkI; rw [if_neg (by omega), if_neg (by rw [anyF (fun j hj => hno j (by omega))]; exact Bool.false_ne_true), if_neg (by rw [anyF (p := fun w : List Int => decide (20 < w.length)) (fun j hj => decide_eq_false (hno2 j (by omega)))]; exact Bool.false_ne_true)])⟩

end Go.Proofs.Ythfiblbkkjcliaa
