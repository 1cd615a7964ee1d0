/- Part 4 of the proof of the law CodeReads: the walks through its functions and the plain laws that they need. -/
import Derived.Test.YtklcecpjgingpaaDoorCdZ3
set_option linter.unusedSimpArgs false
set_option linter.unusedVariables false
namespace Go.Proofs.YtklcecpjgingpaaDoor
open Go.ChangeShapes Go.WideShapes Go.ChangeAt Go.RowKit
def cI (s : List UInt8) (k : Nat) : Nat → Option (List Int × Nat)
 | 0 => if hdI s k then some ([], k + 3) else none
 | j + 1 => match cI s k j with
  | none => none
  | some p => match stp s p.2 (if j = 3 then 93 else 44) with
   | none => none
   | some q => some (p.1 ++ [(q.1 : Int)], q.2)
theorem cI_none {s : List UInt8} {k j : Nat} (h : cI s k j = none) : ∀ m, cI s k (j + m) = none
 | 0 => h
 | m + 1 => by
  show (match cI s k (j + m) with | none => none | some p => _) = none
  rw [cI_none h m]
theorem crossI_cI (s : List UInt8) (k : Nat) : crossI s k = match cI s k 4 with
  | none => none
  | some p => some (⟨ga p.1 0, ga p.1 1, ga p.1 2, ga p.1 3, decide (ga s (k + 1) = 43)⟩, p.2) := by
 unfold crossI cI cI cI cI cI
 by_cases h : hdI s k
 ·simp only [if_pos h]
  cases h1 : stp s (k + 3) 44 with
  | none => simp [h1]
  | some q1 =>
   cases h2 : stp s q1.2 44 with
   | none => simp [h1, h2]
   | some q2 =>
    cases h3 : stp s q2.2 44 with
    | none => simp [h1, h2, h3]
    | some q3 =>
     cases h4 : stp s q3.2 93 with
     | none => simp [h1, h2, h3, h4]
     | some q4 => simp [h1, h2, h3, h4]; exact ⟨rfl, rfl, rfl, rfl⟩
 ·simp only [if_neg h]
def crR (s : List UInt8) (k : Nat) : Cr × Nat := match crossI s k with
 | none => (⟨0, 0, 0, 0, false⟩, k)
 | some q => q
theorem crR_no {s : List UInt8} {k : Nat} (j : Nat) (hj : j ≤ 4) (h : cI s k j = none) : crR s k = (⟨0, 0, 0, 0, false⟩, k) := by
 have h4 := cI_none h (4 - j)
 rw [show j + (4 - j) = 4 by omega] at h4
 unfold crR
 rw [crossI_cI, h4]
theorem crR_ok {s : List UInt8} {k e : Nat} {l : List Int} (h : cI s k 4 = some (l, e)) : crR s k = (⟨ga l 0, ga l 1, ga l 2, ga l 3, decide (ga s (k + 1) = 43)⟩, e) := by
 unfold crR
 rw [crossI_cI, h]
theorem cI_zero {s : List UInt8} {k : Nat} (h : hdI s k) : cI s k 0 = some ([], k + 3) := by unfold cI; rw [if_pos h]
theorem cI_go {s : List UInt8} {k j i x e : Nat} {l : List Int} {c : UInt8} (h : cI s k j = some (l, i)) (hc : (if j = 3 then 93 else 44) = c) (hq : whA s 3 i 0 = (x, e)) (h1 : ¬ e = i) (h2 : e < s.length) (h3 : ga s e = c) : cI s k (j + 1) = some (l ++ [(x : Int)], e + 1) := by
 unfold cI
 rw [h]
 dsimp only
 unfold stp
 rw [hc, hq, if_neg]
 rintro (e1 | e1 | e1)
 ·exact h1 e1
 ·exact absurd e1 (by dsimp only; omega)
 ·exact e1 h3
theorem cI_stop {s : List UInt8} {k j i x e : Nat} {l : List Int} {c : UInt8} (h : cI s k j = some (l, i)) (hc : (if j = 3 then 93 else 44) = c) (hq : whA s 3 i 0 = (x, e)) (h1 : e = i ∨ s.length ≤ e ∨ ¬ ga s e = c) : cI s k (j + 1) = none := by
 unfold cI
 rw [h]
 dsimp only
 unfold stp
 rw [hc, hq, if_pos h1]
theorem pow_lt3 {n f : Nat} (h : (n + 1) * 10 ^ f ≤ 1000) : n < 1000 := by
 have : 0 < 10 ^ f := Nat.pow_pos (by decide)
 have := Nat.le_mul_of_pos_right (n + 1) this
 omega
theorem pow_step3 {n f d : Nat} (hf : 1 ≤ f) (hd : d ≤ 9) (h : (n + 1) * 10 ^ f ≤ 1000) : (10 * n + d + 1) * 10 ^ (f - 1) ≤ 1000 := by
 obtain ⟨g, rfl⟩ : ∃ g, f = g + 1 := ⟨f - 1, by omega⟩
 rw [Nat.pow_succ, Nat.mul_comm (10 ^ g) 10, ← Nat.mul_assoc] at h
 exact Nat.le_trans (Nat.mul_le_mul_right _ (by omega)) h
theorem hd_n {s : List UInt8} {k : Nat} (h : s.length < k + 3 ∨ ¬ ga s k = 88 ∨ (¬ ga s (k + 1) = 43 ∧ ¬ ga s (k + 1) = 45) ∨ ¬ ga s (k + 2) = 91) : cI s k 0 = none := by
 unfold cI
 rw [if_neg]
 rintro ⟨a, b, c, d⟩
 rcases h with h | h | h | h
 ·omega
 ·exact h b
 ·rcases c with c | c
  ·exact h.1 c
  ·exact h.2 c
 ·exact h d
theorem bl_1 {s : List UInt8} {k : Nat} (h : s.length ≤ k) : blA s k = true := by unfold blA; rw [decide_eq_true h]; rfl
theorem bl_2 {s : List UInt8} {k : Nat} (h : ga s k = 9 ∨ ga s k = 10 ∨ ga s k = 13 ∨ ga s k = 32) : blA s k = true := by unfold blA isBl; rcases h with h | h | h | h <;> rw [h] <;> simp
theorem bl_3 {s : List UInt8} {k : Nat} (h : ¬ s.length ≤ k) (h1 : ¬ ga s k = 9) (h2 : ¬ ga s k = 10) (h3 : ¬ ga s k = 13) : blA s k = decide (ga s k = 32) := by unfold blA isBl; rw [decide_eq_false h, decide_eq_false h1, decide_eq_false h2, decide_eq_false h3]; rfl
noncomputable def blankAt_n0 : Code := Tryd.f23.body.getD .skip
noncomputable def blankAt_n1 : Code := cL blankAt_n0
noncomputable def blankAt_n2 : Code := cR blankAt_n0
noncomputable def blankAt_n3 : Code := cL blankAt_n2
noncomputable def blankAt_n4 : Code := cR blankAt_n2
set_option maxRecDepth 10000 in
theorem blankAt_q {w : World} {M : Hp} {X : Fr} (s : List UInt8) (k : Nat) (S : SH w M X []) : Cq Tryd.prog 23 [.string (sB s), .int .i64 (k : Int)] w M X (fun u => u = .bool (blA s k)) := by
 unfold Cq
 refine calls_in (b := blankAt_n0) Tryd.func23 rfl Tryd.ntmps23 rfl (fun C hC => ?_)
 refine ws_sub [(0, _), (1, _)] ⟨rfl, rfl, trivial⟩ ?_
 refine ws_seqN blankAt_n1 blankAt_n2 rfl rfl rfl ?_
 refine ws_region rfl ?_
 refine wla 0 1 rfl rfl rfl rfl rfl rfl rfl ?_
 refine wl_end rfl ?_
 refine nm_sub [(0, _), (1, _)] ⟨rfl, rfl, trivial⟩ ?_
 refine nm_thn ?_
 refine ws_seqN blankAt_n3 blankAt_n4 rfl rfl rfl ?_
 refine ws_region rfl ?_
 refine wlm 0 1 rfl rfl rfl rfl rfl rfl rfl ?_
 refine wlm 1 2 rfl rfl rfl rfl rfl rfl rfl ?_
 refine wlo 2 3 rfl rfl rfl (wo_run rfl rfl (run_lenS rfl rfl rfl rfl rfl rfl Tryd.underlying9) ?_)
 refine wlo 3 4 rfl rfl rfl (wo_run rfl rfl (run_geq rfl rfl rfl) ?_)
 refine wlm 4 5 rfl rfl rfl rfl rfl rfl rfl ?_
 refine wl_split (t := 9) rfl (fun hg9 => ?_) (fun hg9 => ?_)
 ·replace hg9 := of_decide_eq_true hg9
  refine wl_no (k := 5) (k' := 6) (d := 10) rfl rfl ⟨_, _, _, rfl, rfl, rfl, rfl⟩ rfl rfl ?_
  refine wl_no (k := 6) (k' := 7) (d := 11) rfl rfl ⟨_, _, _, rfl, rfl, rfl, rfl⟩ rfl rfl ?_
  refine wl_no (k := 7) (k' := 8) (d := 12) rfl rfl ⟨_, _, _, rfl, rfl, rfl, rfl⟩ rfl rfl ?_
  refine wl_no (k := 8) (k' := 9) (d := 13) rfl rfl ⟨_, _, _, rfl, rfl, rfl, rfl⟩ rfl rfl ?_
  refine wlo 9 10 rfl rfl rfl (wo_run rfl rfl (run_pickT rfl rfl rfl) ?_)
  refine wlm 10 11 rfl rfl rfl rfl rfl rfl rfl ?_
  refine wl_no (k := 11) (k' := 12) (d := 16) rfl rfl ⟨_, _, _, rfl, rfl, rfl, rfl⟩ rfl rfl ?_
  refine wl_no (k := 12) (k' := 13) (d := 17) rfl rfl ⟨_, _, _, rfl, rfl, rfl, rfl⟩ rfl rfl ?_
  refine wl_no (k := 13) (k' := 14) (d := 18) rfl rfl ⟨_, _, _, rfl, rfl, rfl, rfl⟩ rfl rfl ?_
  refine wl_no (k := 14) (k' := 15) (d := 19) rfl rfl ⟨_, _, _, rfl, rfl, rfl, rfl⟩ rfl rfl ?_
  refine wlo 15 16 rfl rfl rfl (wo_run rfl rfl (run_pickT rfl rfl rfl) ?_)
  refine wlm 16 17 rfl rfl rfl rfl rfl rfl rfl ?_
  refine wl_no (k := 17) (k' := 18) (d := 22) rfl rfl ⟨_, _, _, rfl, rfl, rfl, rfl⟩ rfl rfl ?_
  refine wl_no (k := 18) (k' := 19) (d := 23) rfl rfl ⟨_, _, _, rfl, rfl, rfl, rfl⟩ rfl rfl ?_
  refine wl_no (k := 19) (k' := 20) (d := 24) rfl rfl ⟨_, _, _, rfl, rfl, rfl, rfl⟩ rfl rfl ?_
  refine wl_no (k := 20) (k' := 21) (d := 25) rfl rfl ⟨_, _, _, rfl, rfl, rfl, rfl⟩ rfl rfl ?_
  refine wlo 21 22 rfl rfl rfl (wo_run rfl rfl (run_pickT rfl rfl rfl) ?_)
  refine wlm 22 23 rfl rfl rfl rfl rfl rfl rfl ?_
  refine wl_no (k := 23) (k' := 24) (d := 28) rfl rfl ⟨_, _, _, rfl, rfl, rfl, rfl⟩ rfl rfl ?_
  refine wl_no (k := 24) (k' := 25) (d := 29) rfl rfl ⟨_, _, _, rfl, rfl, rfl, rfl⟩ rfl rfl ?_
  refine wl_no (k := 25) (k' := 26) (d := 30) rfl rfl ⟨_, _, _, rfl, rfl, rfl, rfl⟩ rfl rfl ?_
  refine wl_no (k := 26) (k' := 27) (d := 31) rfl rfl ⟨_, _, _, rfl, rfl, rfl, rfl⟩ rfl rfl ?_
  refine wlo 27 28 rfl rfl rfl (wo_run rfl rfl (run_pickT rfl rfl rfl) ?_)
  refine wla 28 29 rfl rfl rfl rfl rfl rfl rfl ?_
  refine wl_end rfl ?_
  refine nm_sub [(4, _)] ⟨rfl, trivial⟩ ?_
  refine nm_thn ?_
  refine ws_ret hC [_] rfl rfl ⟨rfl, trivial⟩ ?_
  exact ⟨_, rfl, (S.pick [] [] (by decide) trivial), (congrArg Value.bool (by first | exact (bl_1 (by omega)).symm | exact (bl_2 (.inl (by assumption))).symm | exact (bl_2 (.inr (.inl (by assumption)))).symm | exact (bl_2 (.inr (.inr (.inl (by assumption))))).symm | exact (bl_3 (by omega) (by assumption) (by assumption) (by assumption)).symm))⟩
 ·replace hg9 := of_decide_eq_false hg9
  refine wl_opG (k := 5) (k' := 6) rfl rfl ⟨_, _, _, rfl, rfl, rfl, rfl⟩ rfl (wo_run rfl rfl (run_move rfl rfl) ?_)
  refine wl_opG (k := 6) (k' := 7) rfl rfl ⟨_, _, _, rfl, rfl, rfl, rfl⟩ rfl (wo_run rfl rfl (run_move rfl rfl) ?_)
  refine wl_opG (k := 7) (k' := 8) rfl rfl ⟨_, _, _, rfl, rfl, rfl, rfl⟩ rfl (wo_run rfl rfl (run_indexS k rfl rfl rfl Tryd.underlying9 ((by first | omega | (simp only [lens]; omega)))) ?_)
  refine wl_opG (k := 8) (k' := 9) rfl rfl ⟨_, _, _, rfl, rfl, rfl, rfl⟩ rfl (wo_run rfl rfl (run_eqlB (p := (ga s k)) (q := 9) rfl rfl rfl) ?_)
  refine wlo 9 10 rfl rfl rfl (wo_run rfl rfl (run_pickF rfl rfl rfl) ?_)
  refine wlm 10 11 rfl rfl rfl rfl rfl rfl rfl ?_
  refine wl_split (t := 15) rfl (fun hg15 => ?_) (fun hg15 => ?_)
  ·replace hg15 := of_decide_eq_true hg15
   refine wl_no (k := 11) (k' := 12) (d := 16) rfl rfl ⟨_, _, _, rfl, rfl, rfl, rfl⟩ rfl rfl ?_
   refine wl_no (k := 12) (k' := 13) (d := 17) rfl rfl ⟨_, _, _, rfl, rfl, rfl, rfl⟩ rfl rfl ?_
   refine wl_no (k := 13) (k' := 14) (d := 18) rfl rfl ⟨_, _, _, rfl, rfl, rfl, rfl⟩ rfl rfl ?_
   refine wl_no (k := 14) (k' := 15) (d := 19) rfl rfl ⟨_, _, _, rfl, rfl, rfl, rfl⟩ rfl rfl ?_
   refine wlo 15 16 rfl rfl rfl (wo_run rfl rfl (run_pickT rfl rfl rfl) ?_)
   refine wlm 16 17 rfl rfl rfl rfl rfl rfl rfl ?_
   refine wl_no (k := 17) (k' := 18) (d := 22) rfl rfl ⟨_, _, _, rfl, rfl, rfl, rfl⟩ rfl rfl ?_
   refine wl_no (k := 18) (k' := 19) (d := 23) rfl rfl ⟨_, _, _, rfl, rfl, rfl, rfl⟩ rfl rfl ?_
   refine wl_no (k := 19) (k' := 20) (d := 24) rfl rfl ⟨_, _, _, rfl, rfl, rfl, rfl⟩ rfl rfl ?_
   refine wl_no (k := 20) (k' := 21) (d := 25) rfl rfl ⟨_, _, _, rfl, rfl, rfl, rfl⟩ rfl rfl ?_
   refine wlo 21 22 rfl rfl rfl (wo_run rfl rfl (run_pickT rfl rfl rfl) ?_)
   refine wlm 22 23 rfl rfl rfl rfl rfl rfl rfl ?_
   refine wl_no (k := 23) (k' := 24) (d := 28) rfl rfl ⟨_, _, _, rfl, rfl, rfl, rfl⟩ rfl rfl ?_
   refine wl_no (k := 24) (k' := 25) (d := 29) rfl rfl ⟨_, _, _, rfl, rfl, rfl, rfl⟩ rfl rfl ?_
   refine wl_no (k := 25) (k' := 26) (d := 30) rfl rfl ⟨_, _, _, rfl, rfl, rfl, rfl⟩ rfl rfl ?_
   refine wl_no (k := 26) (k' := 27) (d := 31) rfl rfl ⟨_, _, _, rfl, rfl, rfl, rfl⟩ rfl rfl ?_
   refine wlo 27 28 rfl rfl rfl (wo_run rfl rfl (run_pickT rfl rfl rfl) ?_)
   refine wla 28 29 rfl rfl rfl rfl rfl rfl rfl ?_
   refine wl_end rfl ?_
   refine nm_sub [(4, _)] ⟨rfl, trivial⟩ ?_
   refine nm_thn ?_
   refine ws_ret hC [_] rfl rfl ⟨rfl, trivial⟩ ?_
   exact ⟨_, rfl, (S.pick [] [] (by decide) trivial), (congrArg Value.bool (by first | exact (bl_1 (by omega)).symm | exact (bl_2 (.inl (by assumption))).symm | exact (bl_2 (.inr (.inl (by assumption)))).symm | exact (bl_2 (.inr (.inr (.inl (by assumption))))).symm | exact (bl_3 (by omega) (by assumption) (by assumption) (by assumption)).symm))⟩
  ·replace hg15 := of_decide_eq_false hg15
   refine wl_opG (k := 11) (k' := 12) rfl rfl ⟨_, _, _, rfl, rfl, rfl, rfl⟩ rfl (wo_run rfl rfl (run_move rfl rfl) ?_)
   refine wl_opG (k := 12) (k' := 13) rfl rfl ⟨_, _, _, rfl, rfl, rfl, rfl⟩ rfl (wo_run rfl rfl (run_move rfl rfl) ?_)
   refine wl_opG (k := 13) (k' := 14) rfl rfl ⟨_, _, _, rfl, rfl, rfl, rfl⟩ rfl (wo_run rfl rfl (run_indexS k rfl rfl rfl Tryd.underlying9 ((by first | omega | (simp only [lens]; omega)))) ?_)
   refine wl_opG (k := 14) (k' := 15) rfl rfl ⟨_, _, _, rfl, rfl, rfl, rfl⟩ rfl (wo_run rfl rfl (run_eqlB (p := (ga s k)) (q := 10) rfl rfl rfl) ?_)
   refine wlo 15 16 rfl rfl rfl (wo_run rfl rfl (run_pickF rfl rfl rfl) ?_)
   refine wlm 16 17 rfl rfl rfl rfl rfl rfl rfl ?_
   refine wl_split (t := 21) rfl (fun hg21 => ?_) (fun hg21 => ?_)
   ·replace hg21 := of_decide_eq_true hg21
    refine wl_no (k := 17) (k' := 18) (d := 22) rfl rfl ⟨_, _, _, rfl, rfl, rfl, rfl⟩ rfl rfl ?_
    refine wl_no (k := 18) (k' := 19) (d := 23) rfl rfl ⟨_, _, _, rfl, rfl, rfl, rfl⟩ rfl rfl ?_
    refine wl_no (k := 19) (k' := 20) (d := 24) rfl rfl ⟨_, _, _, rfl, rfl, rfl, rfl⟩ rfl rfl ?_
    refine wl_no (k := 20) (k' := 21) (d := 25) rfl rfl ⟨_, _, _, rfl, rfl, rfl, rfl⟩ rfl rfl ?_
    refine wlo 21 22 rfl rfl rfl (wo_run rfl rfl (run_pickT rfl rfl rfl) ?_)
    refine wlm 22 23 rfl rfl rfl rfl rfl rfl rfl ?_
    refine wl_no (k := 23) (k' := 24) (d := 28) rfl rfl ⟨_, _, _, rfl, rfl, rfl, rfl⟩ rfl rfl ?_
    refine wl_no (k := 24) (k' := 25) (d := 29) rfl rfl ⟨_, _, _, rfl, rfl, rfl, rfl⟩ rfl rfl ?_
    refine wl_no (k := 25) (k' := 26) (d := 30) rfl rfl ⟨_, _, _, rfl, rfl, rfl, rfl⟩ rfl rfl ?_
    refine wl_no (k := 26) (k' := 27) (d := 31) rfl rfl ⟨_, _, _, rfl, rfl, rfl, rfl⟩ rfl rfl ?_
    refine wlo 27 28 rfl rfl rfl (wo_run rfl rfl (run_pickT rfl rfl rfl) ?_)
    refine wla 28 29 rfl rfl rfl rfl rfl rfl rfl ?_
    refine wl_end rfl ?_
    refine nm_sub [(4, _)] ⟨rfl, trivial⟩ ?_
    refine nm_thn ?_
    refine ws_ret hC [_] rfl rfl ⟨rfl, trivial⟩ ?_
    exact ⟨_, rfl, (S.pick [] [] (by decide) trivial), (congrArg Value.bool (by first | exact (bl_1 (by omega)).symm | exact (bl_2 (.inl (by assumption))).symm | exact (bl_2 (.inr (.inl (by assumption)))).symm | exact (bl_2 (.inr (.inr (.inl (by assumption))))).symm | exact (bl_3 (by omega) (by assumption) (by assumption) (by assumption)).symm))⟩
   ·replace hg21 := of_decide_eq_false hg21
    refine wl_opG (k := 17) (k' := 18) rfl rfl ⟨_, _, _, rfl, rfl, rfl, rfl⟩ rfl (wo_run rfl rfl (run_move rfl rfl) ?_)
    refine wl_opG (k := 18) (k' := 19) rfl rfl ⟨_, _, _, rfl, rfl, rfl, rfl⟩ rfl (wo_run rfl rfl (run_move rfl rfl) ?_)
    refine wl_opG (k := 19) (k' := 20) rfl rfl ⟨_, _, _, rfl, rfl, rfl, rfl⟩ rfl (wo_run rfl rfl (run_indexS k rfl rfl rfl Tryd.underlying9 ((by first | omega | (simp only [lens]; omega)))) ?_)
    refine wl_opG (k := 20) (k' := 21) rfl rfl ⟨_, _, _, rfl, rfl, rfl, rfl⟩ rfl (wo_run rfl rfl (run_eqlB (p := (ga s k)) (q := 13) rfl rfl rfl) ?_)
    refine wlo 21 22 rfl rfl rfl (wo_run rfl rfl (run_pickF rfl rfl rfl) ?_)
    refine wlm 22 23 rfl rfl rfl rfl rfl rfl rfl ?_
    refine wl_split (t := 27) rfl (fun hg27 => ?_) (fun hg27 => ?_)
    ·replace hg27 := of_decide_eq_true hg27
     refine wl_no (k := 23) (k' := 24) (d := 28) rfl rfl ⟨_, _, _, rfl, rfl, rfl, rfl⟩ rfl rfl ?_
     refine wl_no (k := 24) (k' := 25) (d := 29) rfl rfl ⟨_, _, _, rfl, rfl, rfl, rfl⟩ rfl rfl ?_
     refine wl_no (k := 25) (k' := 26) (d := 30) rfl rfl ⟨_, _, _, rfl, rfl, rfl, rfl⟩ rfl rfl ?_
     refine wl_no (k := 26) (k' := 27) (d := 31) rfl rfl ⟨_, _, _, rfl, rfl, rfl, rfl⟩ rfl rfl ?_
     refine wlo 27 28 rfl rfl rfl (wo_run rfl rfl (run_pickT rfl rfl rfl) ?_)
     refine wla 28 29 rfl rfl rfl rfl rfl rfl rfl ?_
     refine wl_end rfl ?_
     refine nm_sub [(4, _)] ⟨rfl, trivial⟩ ?_
     refine nm_thn ?_
     refine ws_ret hC [_] rfl rfl ⟨rfl, trivial⟩ ?_
     exact ⟨_, rfl, (S.pick [] [] (by decide) trivial), (congrArg Value.bool (by first | exact (bl_1 (by omega)).symm | exact (bl_2 (.inl (by assumption))).symm | exact (bl_2 (.inr (.inl (by assumption)))).symm | exact (bl_2 (.inr (.inr (.inl (by assumption))))).symm | exact (bl_3 (by omega) (by assumption) (by assumption) (by assumption)).symm))⟩
    ·replace hg27 := of_decide_eq_false hg27
     refine wl_opG (k := 23) (k' := 24) rfl rfl ⟨_, _, _, rfl, rfl, rfl, rfl⟩ rfl (wo_run rfl rfl (run_move rfl rfl) ?_)
     refine wl_opG (k := 24) (k' := 25) rfl rfl ⟨_, _, _, rfl, rfl, rfl, rfl⟩ rfl (wo_run rfl rfl (run_move rfl rfl) ?_)
     refine wl_opG (k := 25) (k' := 26) rfl rfl ⟨_, _, _, rfl, rfl, rfl, rfl⟩ rfl (wo_run rfl rfl (run_indexS k rfl rfl rfl Tryd.underlying9 ((by first | omega | (simp only [lens]; omega)))) ?_)
     refine wl_opG (k := 26) (k' := 27) rfl rfl ⟨_, _, _, rfl, rfl, rfl, rfl⟩ rfl (wo_run rfl rfl (run_eqlB (p := (ga s k)) (q := 32) rfl rfl rfl) ?_)
     refine wlo 27 28 rfl rfl rfl (wo_run rfl rfl (run_pickF rfl rfl rfl) ?_)
     refine wla 28 29 rfl rfl rfl rfl rfl rfl rfl ?_
     refine wl_end rfl ?_
     refine nm_sub [(4, _)] ⟨rfl, trivial⟩ ?_
     refine nm_thn ?_
     refine ws_ret hC [_] rfl rfl ⟨rfl, trivial⟩ ?_
     exact ⟨_, rfl, (S.pick [] [] (by decide) trivial), (congrArg Value.bool (by first | exact (bl_1 (by omega)).symm | exact (bl_2 (.inl (by assumption))).symm | exact (bl_2 (.inr (.inl (by assumption)))).symm | exact (bl_2 (.inr (.inr (.inl (by assumption))))).symm | exact (bl_3 (by omega) (by assumption) (by assumption) (by assumption)).symm))⟩
noncomputable def crossIn_n0 : Code := Tryd.f24.body.getD .skip
noncomputable def crossIn_n1 : Code := cL crossIn_n0
noncomputable def crossIn_n2 : Code := cR crossIn_n0
noncomputable def crossIn_n3 : Code := cL crossIn_n2
noncomputable def crossIn_n4 : Code := cR crossIn_n2
noncomputable def crossIn_n5 : Code := cL crossIn_n3
noncomputable def crossIn_n6 : Code := cR crossIn_n3
noncomputable def crossIn_n7 : Code := cL crossIn_n6
noncomputable def crossIn_n8 : Code := cR crossIn_n6
noncomputable def crossIn_n9 : Code := cL crossIn_n7
noncomputable def crossIn_n10 : Code := cR crossIn_n7
noncomputable def crossIn_n11 : Code := cL crossIn_n4
noncomputable def crossIn_n12 : Code := cR crossIn_n4
noncomputable def crossIn_n13 : Code := cL crossIn_n12
noncomputable def crossIn_n14 : Code := cR crossIn_n12
noncomputable def crossIn_n15 : Code := cL crossIn_n14
noncomputable def crossIn_n16 : Code := cR crossIn_n14
noncomputable def crossIn_n17 : Code := cL crossIn_n15
noncomputable def crossIn_n18 : Code := cL crossIn_n17
noncomputable def crossIn_n19 : Code := cL crossIn_n18
noncomputable def crossIn_n20 : Code := cR crossIn_n18
noncomputable def crossIn_n21 : Code := cL crossIn_n19
noncomputable def crossIn_n22 : Code := cR crossIn_n19
noncomputable def crossIn_n23 : Code := cL crossIn_n22
noncomputable def crossIn_n24 : Code := cR crossIn_n22
noncomputable def crossIn_n25 : Code := cL crossIn_n20
noncomputable def crossIn_n26 : Code := cL crossIn_n25
noncomputable def crossIn_n27 : Code := cR crossIn_n25
noncomputable def crossIn_n28 : Code := cL crossIn_n27
noncomputable def crossIn_n29 : Code := cR crossIn_n27
noncomputable def crossIn_n30 : Code := cL crossIn_n29
noncomputable def crossIn_n31 : Code := cR crossIn_n29
noncomputable def crossIn_n32 : Code := cL crossIn_n30
noncomputable def crossIn_n33 : Code := cL crossIn_n32
noncomputable def crossIn_n34 : Code := cL crossIn_n33
noncomputable def crossIn_n35 : Code := cR crossIn_n33
noncomputable def crossIn_n36 : Code := cL crossIn_n34
noncomputable def crossIn_n37 : Code := cR crossIn_n34
noncomputable def crossIn_n38 : Code := cL crossIn_n37
noncomputable def crossIn_n39 : Code := cR crossIn_n37
noncomputable def crossIn_n40 : Code := cL crossIn_n35
noncomputable def crossIn_n41 : Code := cL crossIn_n40
noncomputable def crossIn_n42 : Code := cR crossIn_n40
noncomputable def crossIn_n43 : Code := cL crossIn_n31
noncomputable def crossIn_n44 : Code := cR crossIn_n31
noncomputable def crossIn_n45 : Code := cL crossIn_n44
noncomputable def crossIn_n46 : Code := cR crossIn_n44
noncomputable def crossIn_n47 : Code := cL crossIn_n45
noncomputable def crossIn_n48 : Code := cR crossIn_n45
noncomputable def crossIn_n49 : Code := cL crossIn_n48
noncomputable def crossIn_n50 : Code := cR crossIn_n48
noncomputable def crossIn_n51 : Code := cL crossIn_n46
noncomputable def crossIn_n52 : Code := cR crossIn_n46
noncomputable def crossIn_n53 : Code := cL crossIn_n51
noncomputable def crossIn_n54 : Code := cR crossIn_n51
noncomputable def crossIn_n55 : Code := cL crossIn_n54
noncomputable def crossIn_n56 : Code := cR crossIn_n54
noncomputable def crossIn_n57 : Code := cL crossIn_n55
noncomputable def crossIn_n58 : Code := cR crossIn_n55
noncomputable def crossIn_n59 : Code := cL crossIn_n52
noncomputable def crossIn_n60 : Code := cR crossIn_n52
noncomputable def crossIn_n61 : Code := cL crossIn_n16
noncomputable def crossIn_n62 : Code := cR crossIn_n16
set_option maxHeartbeats 2000000 in
set_option maxRecDepth 10000 in
theorem crossIn_t {w : World} {M : Hp} {X : Fr} (s : List UInt8) (k : Nat) (hs : s.length ≤ 2000) (hk : k ≤ s.length) (S : SH w M X []) : Ct Tryd.prog 24 [.string (sB s), .int .i64 (k : Int)] w M X (fun u _ => u = .tuple [.agg [.int .i64 (crR s k).1.a, .int .i64 (crR s k).1.b, .int .i64 (crR s k).1.c, .int .i64 (crR s k).1.d, .bool (crR s k).1.plus].toArray, .int .i64 ((crR s k).2 : Int)].toArray) := by
 unfold Ct
 refine calls_in (b := crossIn_n0) Tryd.func24 rfl Tryd.ntmps24 rfl (fun C hC => ?_)
 refine ws_sub [(0, _), (1, _)] ⟨rfl, rfl, trivial⟩ ?_
 refine ws_seqN crossIn_n1 crossIn_n2 rfl rfl rfl ?_
 refine ws_region rfl ?_
 refine wlo 0 1 rfl rfl rfl (wo_alloc (l := [_, _, _, _, _]) rfl rfl rfl zr49 rfl S ?_)
 intro gb1 w1 S1; clear S
 refine wla 1 2 rfl rfl rfl rfl rfl rfl rfl ?_
 refine wl_end rfl ?_
 refine nm_sub [(0, _), (1, _), (4, _)] ⟨rfl, rfl, rfl, trivial⟩ ?_
 refine nm_thn ?_
 refine ws_seqN crossIn_n3 crossIn_n4 rfl rfl rfl ?_
 refine ws_cut (fun ax_ wx_ => ∃ (M1 : Hp), M.le M1 ∧ Env 129 [(0, .string (sB s)), (1, .int .i64 (k : Int)), (4, .pointer (some ⟨gb1, 0, none⟩))] ax_ ∧ SH wx_ M1 X [Rs.box gb1 49 [.int .i64 0, .int .i64 0, .int .i64 0, .int .i64 0, .bool false]] ∧ hdI s k) ?_ ?_
 ·refine ws_seqN crossIn_n5 crossIn_n6 rfl rfl rfl ?_
  refine ws_region rfl ?_
  refine wlm 0 1 rfl rfl rfl rfl rfl rfl rfl ?_
  refine wlo 1 2 rfl rfl rfl (wo_run rfl rfl (run_add rfl rfl rfl (by first | omega | (simp only [lens]; omega))) ?_)
  refine wlm 2 3 rfl rfl rfl rfl rfl rfl rfl ?_
  refine wlo 3 4 rfl rfl rfl (wo_run rfl rfl (run_lenS rfl rfl rfl rfl rfl rfl Tryd.underlying9) ?_)
  refine wlo 4 5 rfl rfl rfl (wo_run rfl rfl (run_gtr rfl rfl rfl) ?_)
  refine wlm 5 6 rfl rfl rfl rfl rfl rfl rfl ?_
  refine wl_split (t := 16) rfl (fun hg16 => ?_) (fun hg16 => ?_)
  ·replace hg16 := of_decide_eq_true hg16
   refine wl_no (k := 6) (k' := 7) (d := 17) rfl rfl ⟨_, _, _, rfl, rfl, rfl, rfl⟩ rfl rfl ?_
   refine wl_no (k := 7) (k' := 8) (d := 18) rfl rfl ⟨_, _, _, rfl, rfl, rfl, rfl⟩ rfl rfl ?_
   refine wl_no (k := 8) (k' := 9) (d := 19) rfl rfl ⟨_, _, _, rfl, rfl, rfl, rfl⟩ rfl rfl ?_
   refine wl_no (k := 9) (k' := 10) (d := 20) rfl rfl ⟨_, _, _, rfl, rfl, rfl, rfl⟩ rfl rfl ?_
   refine wlo 10 11 rfl rfl rfl (wo_run rfl rfl (run_pickT rfl rfl rfl) ?_)
   refine wlm 11 12 rfl rfl rfl rfl rfl rfl rfl ?_
   refine wl_no (k := 12) (k' := 13) (d := 23) rfl rfl ⟨_, _, _, rfl, rfl, rfl, rfl⟩ rfl rfl ?_
   refine wl_no (k := 13) (k' := 14) (d := 24) rfl rfl ⟨_, _, _, rfl, rfl, rfl, rfl⟩ rfl rfl ?_
   refine wl_no (k := 14) (k' := 15) (d := 25) rfl rfl ⟨_, _, _, rfl, rfl, rfl, rfl⟩ rfl rfl ?_
   refine wl_no (k := 15) (k' := 16) (d := 26) rfl rfl ⟨_, _, _, rfl, rfl, rfl, rfl⟩ rfl rfl ?_
   refine wl_no (k := 16) (k' := 17) (d := 27) rfl rfl ⟨_, _, _, rfl, rfl, rfl, rfl⟩ rfl rfl ?_
   refine wl_no (k := 17) (k' := 18) (d := 28) rfl rfl ⟨_, _, _, rfl, rfl, rfl, rfl⟩ rfl rfl ?_
   refine wl_no (k := 18) (k' := 19) (d := 29) rfl rfl ⟨_, _, _, rfl, rfl, rfl, rfl⟩ rfl rfl ?_
   refine wl_no (k := 19) (k' := 20) (d := 30) rfl rfl ⟨_, _, _, rfl, rfl, rfl, rfl⟩ rfl rfl ?_
   refine wl_no (k := 20) (k' := 21) (d := 31) rfl rfl ⟨_, _, _, rfl, rfl, rfl, rfl⟩ rfl rfl ?_
   refine wl_no (k := 21) (k' := 22) (d := 32) rfl rfl ⟨_, _, _, rfl, rfl, rfl, rfl⟩ rfl rfl ?_
   refine wl_no (k := 22) (k' := 23) (d := 33) rfl rfl ⟨_, _, _, rfl, rfl, rfl, rfl⟩ rfl rfl ?_
   refine wl_no (k := 23) (k' := 24) (d := 34) rfl rfl ⟨_, _, _, rfl, rfl, rfl, rfl⟩ rfl rfl ?_
   refine wlo 24 25 rfl rfl rfl (wo_run rfl rfl (run_pickT rfl rfl rfl) ?_)
   refine wlm 25 26 rfl rfl rfl rfl rfl rfl rfl ?_
   refine wl_no (k := 26) (k' := 27) (d := 37) rfl rfl ⟨_, _, _, rfl, rfl, rfl, rfl⟩ rfl rfl ?_
   refine wl_no (k := 27) (k' := 28) (d := 38) rfl rfl ⟨_, _, _, rfl, rfl, rfl, rfl⟩ rfl rfl ?_
   refine wl_no (k := 28) (k' := 29) (d := 39) rfl rfl ⟨_, _, _, rfl, rfl, rfl, rfl⟩ rfl rfl ?_
   refine wl_no (k := 29) (k' := 30) (d := 40) rfl rfl ⟨_, _, _, rfl, rfl, rfl, rfl⟩ rfl rfl ?_
   refine wl_no (k := 30) (k' := 31) (d := 41) rfl rfl ⟨_, _, _, rfl, rfl, rfl, rfl⟩ rfl rfl ?_
   refine wlo 31 32 rfl rfl rfl (wo_run rfl rfl (run_pickT rfl rfl rfl) ?_)
   refine wl_end rfl ?_
   refine nm_sub [(0, _), (1, _), (4, _), (42, _)] ⟨rfl, rfl, rfl, rfl, trivial⟩ ?_
   refine nm_thn ?_
   refine ws_condTN crossIn_n7 rfl rfl rfl ?_
   refine ws_seqN crossIn_n9 crossIn_n10 rfl rfl rfl ?_
   refine ws_region rfl ?_
   refine wlo 0 1 rfl rfl rfl (wo_run rfl rfl (run_build (l := [_, _, _, _, _]) rfl rfl st49 rfl rfl) ?_)
   refine wlm 1 2 rfl rfl rfl rfl rfl rfl rfl ?_
   refine wlo 2 3 rfl rfl rfl (wo_storeB (i := 0) (us := [_, _, _, _, _]) (l' := [_, _, _, _, _]) (H' := [_]) rfl rfl S1 rfl rfl rfl rfl sz49 rfl rfl rfl rfl ?_)
   intro w3 S3; clear S1
   refine wla 3 4 rfl rfl rfl rfl rfl rfl rfl ?_
   refine wl_end rfl ?_
   refine nm_sub [(4, _), (5, _)] ⟨rfl, rfl, trivial⟩ ?_
   refine nm_thn ?_
   refine ws_ret hC [_, _] rfl rfl ⟨⟨_, rfl, loadVarN (us := [_, _, _, _, _]) Tryd.underlying49 rfl sz49 (S3.boxcs (i := 0) rfl ⟨rfl, rfl, rfl, rfl, rfl, trivial⟩)⟩, rfl, trivial⟩ ?_
   refine ⟨_, rfl, _, Hp.le_refl _, (S3.pick [] [] (by decide) trivial), ?_⟩
   exact (by rw [(crR_no 0 (by omega) (hd_n (by first | exact .inl (by omega) | exact .inr (.inl (by assumption)) | exact .inr (.inr (.inl ⟨by assumption, by assumption⟩)) | exact .inr (.inr (.inr (by assumption))))))]; rfl)
  ·replace hg16 := of_decide_eq_false hg16
   refine wl_opG (k := 6) (k' := 7) rfl rfl ⟨_, _, _, rfl, rfl, rfl, rfl⟩ rfl (wo_run rfl rfl (run_move rfl rfl) ?_)
   refine wl_opG (k := 7) (k' := 8) rfl rfl ⟨_, _, _, rfl, rfl, rfl, rfl⟩ rfl (wo_run rfl rfl (run_move rfl rfl) ?_)
   refine wl_opG (k := 8) (k' := 9) rfl rfl ⟨_, _, _, rfl, rfl, rfl, rfl⟩ rfl (wo_run rfl rfl (run_indexS k rfl rfl rfl Tryd.underlying9 ((by first | omega | (simp only [lens]; omega)))) ?_)
   refine wl_opG (k := 9) (k' := 10) rfl rfl ⟨_, _, _, rfl, rfl, rfl, rfl⟩ rfl (wo_run rfl rfl (run_neqB (p := (ga s k)) (q := 88) rfl rfl rfl) ?_)
   refine wlo 10 11 rfl rfl rfl (wo_run rfl rfl (run_pickF rfl rfl rfl) ?_)
   refine wlm 11 12 rfl rfl rfl rfl rfl rfl rfl ?_
   refine wl_split (t := 22) rfl (fun hg22 => ?_) (fun hg22 => ?_)
   ·replace hg22 := of_decide_eq_true hg22
    refine wl_no (k := 12) (k' := 13) (d := 23) rfl rfl ⟨_, _, _, rfl, rfl, rfl, rfl⟩ rfl rfl ?_
    refine wl_no (k := 13) (k' := 14) (d := 24) rfl rfl ⟨_, _, _, rfl, rfl, rfl, rfl⟩ rfl rfl ?_
    refine wl_no (k := 14) (k' := 15) (d := 25) rfl rfl ⟨_, _, _, rfl, rfl, rfl, rfl⟩ rfl rfl ?_
    refine wl_no (k := 15) (k' := 16) (d := 26) rfl rfl ⟨_, _, _, rfl, rfl, rfl, rfl⟩ rfl rfl ?_
    refine wl_no (k := 16) (k' := 17) (d := 27) rfl rfl ⟨_, _, _, rfl, rfl, rfl, rfl⟩ rfl rfl ?_
    refine wl_no (k := 17) (k' := 18) (d := 28) rfl rfl ⟨_, _, _, rfl, rfl, rfl, rfl⟩ rfl rfl ?_
    refine wl_no (k := 18) (k' := 19) (d := 29) rfl rfl ⟨_, _, _, rfl, rfl, rfl, rfl⟩ rfl rfl ?_
    refine wl_no (k := 19) (k' := 20) (d := 30) rfl rfl ⟨_, _, _, rfl, rfl, rfl, rfl⟩ rfl rfl ?_
    refine wl_no (k := 20) (k' := 21) (d := 31) rfl rfl ⟨_, _, _, rfl, rfl, rfl, rfl⟩ rfl rfl ?_
    refine wl_no (k := 21) (k' := 22) (d := 32) rfl rfl ⟨_, _, _, rfl, rfl, rfl, rfl⟩ rfl rfl ?_
    refine wl_no (k := 22) (k' := 23) (d := 33) rfl rfl ⟨_, _, _, rfl, rfl, rfl, rfl⟩ rfl rfl ?_
    refine wl_no (k := 23) (k' := 24) (d := 34) rfl rfl ⟨_, _, _, rfl, rfl, rfl, rfl⟩ rfl rfl ?_
    refine wlo 24 25 rfl rfl rfl (wo_run rfl rfl (run_pickT rfl rfl rfl) ?_)
    refine wlm 25 26 rfl rfl rfl rfl rfl rfl rfl ?_
    refine wl_no (k := 26) (k' := 27) (d := 37) rfl rfl ⟨_, _, _, rfl, rfl, rfl, rfl⟩ rfl rfl ?_
    refine wl_no (k := 27) (k' := 28) (d := 38) rfl rfl ⟨_, _, _, rfl, rfl, rfl, rfl⟩ rfl rfl ?_
    refine wl_no (k := 28) (k' := 29) (d := 39) rfl rfl ⟨_, _, _, rfl, rfl, rfl, rfl⟩ rfl rfl ?_
    refine wl_no (k := 29) (k' := 30) (d := 40) rfl rfl ⟨_, _, _, rfl, rfl, rfl, rfl⟩ rfl rfl ?_
    refine wl_no (k := 30) (k' := 31) (d := 41) rfl rfl ⟨_, _, _, rfl, rfl, rfl, rfl⟩ rfl rfl ?_
    refine wlo 31 32 rfl rfl rfl (wo_run rfl rfl (run_pickT rfl rfl rfl) ?_)
    refine wl_end rfl ?_
    refine nm_sub [(0, _), (1, _), (4, _), (42, _)] ⟨rfl, rfl, rfl, rfl, trivial⟩ ?_
    refine nm_thn ?_
    refine ws_condTN crossIn_n7 rfl rfl rfl ?_
    refine ws_seqN crossIn_n9 crossIn_n10 rfl rfl rfl ?_
    refine ws_region rfl ?_
    refine wlo 0 1 rfl rfl rfl (wo_run rfl rfl (run_build (l := [_, _, _, _, _]) rfl rfl st49 rfl rfl) ?_)
    refine wlm 1 2 rfl rfl rfl rfl rfl rfl rfl ?_
    refine wlo 2 3 rfl rfl rfl (wo_storeB (i := 0) (us := [_, _, _, _, _]) (l' := [_, _, _, _, _]) (H' := [_]) rfl rfl S1 rfl rfl rfl rfl sz49 rfl rfl rfl rfl ?_)
    intro w4 S4; clear S1
    refine wla 3 4 rfl rfl rfl rfl rfl rfl rfl ?_
    refine wl_end rfl ?_
    refine nm_sub [(4, _), (5, _)] ⟨rfl, rfl, trivial⟩ ?_
    refine nm_thn ?_
    refine ws_ret hC [_, _] rfl rfl ⟨⟨_, rfl, loadVarN (us := [_, _, _, _, _]) Tryd.underlying49 rfl sz49 (S4.boxcs (i := 0) rfl ⟨rfl, rfl, rfl, rfl, rfl, trivial⟩)⟩, rfl, trivial⟩ ?_
    refine ⟨_, rfl, _, Hp.le_refl _, (S4.pick [] [] (by decide) trivial), ?_⟩
    exact (by rw [(crR_no 0 (by omega) (hd_n (by first | exact .inl (by omega) | exact .inr (.inl (by assumption)) | exact .inr (.inr (.inl ⟨by assumption, by assumption⟩)) | exact .inr (.inr (.inr (by assumption))))))]; rfl)
   ·replace hg22 := of_decide_eq_false hg22
    refine wl_opG (k := 12) (k' := 13) rfl rfl ⟨_, _, _, rfl, rfl, rfl, rfl⟩ rfl (wo_run rfl rfl (run_move rfl rfl) ?_)
    refine wl_opG (k := 13) (k' := 14) rfl rfl ⟨_, _, _, rfl, rfl, rfl, rfl⟩ rfl (wo_run rfl rfl (run_move rfl rfl) ?_)
    refine wl_opG (k := 14) (k' := 15) rfl rfl ⟨_, _, _, rfl, rfl, rfl, rfl⟩ rfl (wo_run rfl rfl (run_add rfl rfl rfl (by first | omega | (simp only [lens]; omega))) ?_)
    refine wl_opG (k := 15) (k' := 16) rfl rfl ⟨_, _, _, rfl, rfl, rfl, rfl⟩ rfl (wo_run rfl rfl (run_indexS (k + 1) rfl rfl rfl Tryd.underlying9 ((by first | omega | (simp only [lens]; omega)))) ?_)
    refine wl_opG (k := 16) (k' := 17) rfl rfl ⟨_, _, _, rfl, rfl, rfl, rfl⟩ rfl (wo_run rfl rfl (run_neqB (p := (ga s (k + 1))) (q := 43) rfl rfl rfl) ?_)
    refine wl_opG (k := 17) (k' := 18) rfl rfl ⟨_, _, _, rfl, rfl, rfl, rfl⟩ rfl (wo_run rfl rfl (run_move rfl rfl) ?_)
    refine wl_split (t := 28) rfl (fun hg28 => ?_) (fun hg28 => ?_)
    ·replace hg28 := of_decide_eq_true hg28
     refine wl_opG (k := 18) (k' := 19) rfl rfl ⟨_, _, _, rfl, rfl, rfl, rfl⟩ rfl (wo_run rfl rfl (run_move rfl rfl) ?_)
     refine wl_opG (k := 19) (k' := 20) rfl rfl ⟨_, _, _, rfl, rfl, rfl, rfl⟩ rfl (wo_run rfl rfl (run_move rfl rfl) ?_)
     refine wl_opG (k := 20) (k' := 21) rfl rfl ⟨_, _, _, rfl, rfl, rfl, rfl⟩ rfl (wo_run rfl rfl (run_add rfl rfl rfl (by first | omega | (simp only [lens]; omega))) ?_)
     refine wl_opG (k := 21) (k' := 22) rfl rfl ⟨_, _, _, rfl, rfl, rfl, rfl⟩ rfl (wo_run rfl rfl (run_indexS (k + 1) rfl rfl rfl Tryd.underlying9 ((by first | omega | (simp only [lens]; omega)))) ?_)
     refine wl_opG (k := 22) (k' := 23) rfl rfl ⟨_, _, _, rfl, rfl, rfl, rfl⟩ rfl (wo_run rfl rfl (run_neqB (p := (ga s (k + 1))) (q := 45) rfl rfl rfl) ?_)
     refine wl_opG (k := 23) (k' := 24) rfl rfl ⟨_, _, _, rfl, rfl, rfl, rfl⟩ rfl (wo_run rfl rfl (run_pickT rfl rfl rfl) ?_)
     refine wlo 24 25 rfl rfl rfl (wo_run rfl rfl (run_pickF rfl rfl rfl) ?_)
     refine wlm 25 26 rfl rfl rfl rfl rfl rfl rfl ?_
     refine wl_split (t := 36) rfl (fun hg36 => ?_) (fun hg36 => ?_)
     ·replace hg36 := of_decide_eq_true hg36
      refine wl_no (k := 26) (k' := 27) (d := 37) rfl rfl ⟨_, _, _, rfl, rfl, rfl, rfl⟩ rfl rfl ?_
      refine wl_no (k := 27) (k' := 28) (d := 38) rfl rfl ⟨_, _, _, rfl, rfl, rfl, rfl⟩ rfl rfl ?_
      refine wl_no (k := 28) (k' := 29) (d := 39) rfl rfl ⟨_, _, _, rfl, rfl, rfl, rfl⟩ rfl rfl ?_
      refine wl_no (k := 29) (k' := 30) (d := 40) rfl rfl ⟨_, _, _, rfl, rfl, rfl, rfl⟩ rfl rfl ?_
      refine wl_no (k := 30) (k' := 31) (d := 41) rfl rfl ⟨_, _, _, rfl, rfl, rfl, rfl⟩ rfl rfl ?_
      refine wlo 31 32 rfl rfl rfl (wo_run rfl rfl (run_pickT rfl rfl rfl) ?_)
      refine wl_end rfl ?_
      refine nm_sub [(0, _), (1, _), (4, _), (42, _)] ⟨rfl, rfl, rfl, rfl, trivial⟩ ?_
      refine nm_thn ?_
      refine ws_condTN crossIn_n7 rfl rfl rfl ?_
      refine ws_seqN crossIn_n9 crossIn_n10 rfl rfl rfl ?_
      refine ws_region rfl ?_
      refine wlo 0 1 rfl rfl rfl (wo_run rfl rfl (run_build (l := [_, _, _, _, _]) rfl rfl st49 rfl rfl) ?_)
      refine wlm 1 2 rfl rfl rfl rfl rfl rfl rfl ?_
      refine wlo 2 3 rfl rfl rfl (wo_storeB (i := 0) (us := [_, _, _, _, _]) (l' := [_, _, _, _, _]) (H' := [_]) rfl rfl S1 rfl rfl rfl rfl sz49 rfl rfl rfl rfl ?_)
      intro w5 S5; clear S1
      refine wla 3 4 rfl rfl rfl rfl rfl rfl rfl ?_
      refine wl_end rfl ?_
      refine nm_sub [(4, _), (5, _)] ⟨rfl, rfl, trivial⟩ ?_
      refine nm_thn ?_
      refine ws_ret hC [_, _] rfl rfl ⟨⟨_, rfl, loadVarN (us := [_, _, _, _, _]) Tryd.underlying49 rfl sz49 (S5.boxcs (i := 0) rfl ⟨rfl, rfl, rfl, rfl, rfl, trivial⟩)⟩, rfl, trivial⟩ ?_
      refine ⟨_, rfl, _, Hp.le_refl _, (S5.pick [] [] (by decide) trivial), ?_⟩
      exact (by rw [(crR_no 0 (by omega) (hd_n (by first | exact .inl (by omega) | exact .inr (.inl (by assumption)) | exact .inr (.inr (.inl ⟨by assumption, by assumption⟩)) | exact .inr (.inr (.inr (by assumption))))))]; rfl)
     ·replace hg36 := of_decide_eq_false hg36
      refine wl_opG (k := 26) (k' := 27) rfl rfl ⟨_, _, _, rfl, rfl, rfl, rfl⟩ rfl (wo_run rfl rfl (run_move rfl rfl) ?_)
      refine wl_opG (k := 27) (k' := 28) rfl rfl ⟨_, _, _, rfl, rfl, rfl, rfl⟩ rfl (wo_run rfl rfl (run_move rfl rfl) ?_)
      refine wl_opG (k := 28) (k' := 29) rfl rfl ⟨_, _, _, rfl, rfl, rfl, rfl⟩ rfl (wo_run rfl rfl (run_add rfl rfl rfl (by first | omega | (simp only [lens]; omega))) ?_)
      refine wl_opG (k := 29) (k' := 30) rfl rfl ⟨_, _, _, rfl, rfl, rfl, rfl⟩ rfl (wo_run rfl rfl (run_indexS (k + 2) rfl rfl rfl Tryd.underlying9 ((by first | omega | (simp only [lens]; omega)))) ?_)
      refine wl_opG (k := 30) (k' := 31) rfl rfl ⟨_, _, _, rfl, rfl, rfl, rfl⟩ rfl (wo_run rfl rfl (run_neqB (p := (ga s (k + 2))) (q := 91) rfl rfl rfl) ?_)
      refine wlo 31 32 rfl rfl rfl (wo_run rfl rfl (run_pickF rfl rfl rfl) ?_)
      refine wl_end rfl ?_
      refine nm_sub [(0, _), (1, _), (4, _), (42, _)] ⟨rfl, rfl, rfl, rfl, trivial⟩ ?_
      refine nm_thn ?_
      refine ws_condN crossIn_n7 crossIn_n8 rfl rfl rfl rfl (fun hb42 => ?_) (fun hb42 => ?_)
      ·replace hb42 := of_decide_eq_true hb42
       refine ws_seqN crossIn_n9 crossIn_n10 rfl rfl rfl ?_
       refine ws_region rfl ?_
       refine wlo 0 1 rfl rfl rfl (wo_run rfl rfl (run_build (l := [_, _, _, _, _]) rfl rfl st49 rfl rfl) ?_)
       refine wlm 1 2 rfl rfl rfl rfl rfl rfl rfl ?_
       refine wlo 2 3 rfl rfl rfl (wo_storeB (i := 0) (us := [_, _, _, _, _]) (l' := [_, _, _, _, _]) (H' := [_]) rfl rfl S1 rfl rfl rfl rfl sz49 rfl rfl rfl rfl ?_)
       intro w6 S6; clear S1
       refine wla 3 4 rfl rfl rfl rfl rfl rfl rfl ?_
       refine wl_end rfl ?_
       refine nm_sub [(4, _), (5, _)] ⟨rfl, rfl, trivial⟩ ?_
       refine nm_thn ?_
       refine ws_ret hC [_, _] rfl rfl ⟨⟨_, rfl, loadVarN (us := [_, _, _, _, _]) Tryd.underlying49 rfl sz49 (S6.boxcs (i := 0) rfl ⟨rfl, rfl, rfl, rfl, rfl, trivial⟩)⟩, rfl, trivial⟩ ?_
       refine ⟨_, rfl, _, Hp.le_refl _, (S6.pick [] [] (by decide) trivial), ?_⟩
       exact (by rw [(crR_no 0 (by omega) (hd_n (by first | exact .inl (by omega) | exact .inr (.inl (by assumption)) | exact .inr (.inr (.inl ⟨by assumption, by assumption⟩)) | exact .inr (.inr (.inr (by assumption))))))]; rfl)
      ·replace hb42 := of_decide_eq_false hb42
       refine ws_skip rfl ?_
       refine nm_lp ?_
       intro ax_ hax_
       refine ⟨_, (Hp.le_refl _), hax_.sub ⟨rfl, rfl, rfl, trivial⟩, S1.pick [0] [_] (by decide) ⟨rfl, trivial⟩, ?hq1f0⟩
       case hq1f0 => first | exact ⟨by omega, (by first | assumption | exact Classical.not_not.1 (by assumption)), .inl (by first | assumption | exact Classical.not_not.1 (by assumption)), (by first | assumption | exact Classical.not_not.1 (by assumption))⟩ | exact ⟨by omega, (by first | assumption | exact Classical.not_not.1 (by assumption)), .inr (by first | assumption | exact Classical.not_not.1 (by assumption)), (by first | assumption | exact Classical.not_not.1 (by assumption))⟩ | exact absurd ‹¬ga s (k + 1) = 45› ‹¬¬ga s (k + 1) = 45›
    ·replace hg28 := of_decide_eq_false hg28
     refine wl_no (k := 18) (k' := 19) (d := 29) rfl rfl ⟨_, _, _, rfl, rfl, rfl, rfl⟩ rfl rfl ?_
     refine wl_no (k := 19) (k' := 20) (d := 30) rfl rfl ⟨_, _, _, rfl, rfl, rfl, rfl⟩ rfl rfl ?_
     refine wl_no (k := 20) (k' := 21) (d := 31) rfl rfl ⟨_, _, _, rfl, rfl, rfl, rfl⟩ rfl rfl ?_
     refine wl_no (k := 21) (k' := 22) (d := 32) rfl rfl ⟨_, _, _, rfl, rfl, rfl, rfl⟩ rfl rfl ?_
     refine wl_no (k := 22) (k' := 23) (d := 33) rfl rfl ⟨_, _, _, rfl, rfl, rfl, rfl⟩ rfl rfl ?_
     refine wl_opG (k := 23) (k' := 24) rfl rfl ⟨_, _, _, rfl, rfl, rfl, rfl⟩ rfl (wo_run rfl rfl (run_pickF rfl rfl rfl) ?_)
     refine wlo 24 25 rfl rfl rfl (wo_run rfl rfl (run_pickF rfl rfl rfl) ?_)
     refine wlm 25 26 rfl rfl rfl rfl rfl rfl rfl ?_
     refine wl_opG (k := 26) (k' := 27) rfl rfl ⟨_, _, _, rfl, rfl, rfl, rfl⟩ rfl (wo_run rfl rfl (run_move rfl rfl) ?_)
     refine wl_opG (k := 27) (k' := 28) rfl rfl ⟨_, _, _, rfl, rfl, rfl, rfl⟩ rfl (wo_run rfl rfl (run_move rfl rfl) ?_)
     refine wl_opG (k := 28) (k' := 29) rfl rfl ⟨_, _, _, rfl, rfl, rfl, rfl⟩ rfl (wo_run rfl rfl (run_add rfl rfl rfl (by first | omega | (simp only [lens]; omega))) ?_)
     refine wl_opG (k := 29) (k' := 30) rfl rfl ⟨_, _, _, rfl, rfl, rfl, rfl⟩ rfl (wo_run rfl rfl (run_indexS (k + 2) rfl rfl rfl Tryd.underlying9 ((by first | omega | (simp only [lens]; omega)))) ?_)
     refine wl_opG (k := 30) (k' := 31) rfl rfl ⟨_, _, _, rfl, rfl, rfl, rfl⟩ rfl (wo_run rfl rfl (run_neqB (p := (ga s (k + 2))) (q := 91) rfl rfl rfl) ?_)
     refine wlo 31 32 rfl rfl rfl (wo_run rfl rfl (run_pickF rfl rfl rfl) ?_)
     refine wl_end rfl ?_
     refine nm_sub [(0, _), (1, _), (4, _), (42, _)] ⟨rfl, rfl, rfl, rfl, trivial⟩ ?_
     refine nm_thn ?_
     refine ws_condN crossIn_n7 crossIn_n8 rfl rfl rfl rfl (fun hb42 => ?_) (fun hb42 => ?_)
     ·replace hb42 := of_decide_eq_true hb42
      refine ws_seqN crossIn_n9 crossIn_n10 rfl rfl rfl ?_
      refine ws_region rfl ?_
      refine wlo 0 1 rfl rfl rfl (wo_run rfl rfl (run_build (l := [_, _, _, _, _]) rfl rfl st49 rfl rfl) ?_)
      refine wlm 1 2 rfl rfl rfl rfl rfl rfl rfl ?_
      refine wlo 2 3 rfl rfl rfl (wo_storeB (i := 0) (us := [_, _, _, _, _]) (l' := [_, _, _, _, _]) (H' := [_]) rfl rfl S1 rfl rfl rfl rfl sz49 rfl rfl rfl rfl ?_)
      intro w7 S7; clear S1
      refine wla 3 4 rfl rfl rfl rfl rfl rfl rfl ?_
      refine wl_end rfl ?_
      refine nm_sub [(4, _), (5, _)] ⟨rfl, rfl, trivial⟩ ?_
      refine nm_thn ?_
      refine ws_ret hC [_, _] rfl rfl ⟨⟨_, rfl, loadVarN (us := [_, _, _, _, _]) Tryd.underlying49 rfl sz49 (S7.boxcs (i := 0) rfl ⟨rfl, rfl, rfl, rfl, rfl, trivial⟩)⟩, rfl, trivial⟩ ?_
      refine ⟨_, rfl, _, Hp.le_refl _, (S7.pick [] [] (by decide) trivial), ?_⟩
      exact (by rw [(crR_no 0 (by omega) (hd_n (by first | exact .inl (by omega) | exact .inr (.inl (by assumption)) | exact .inr (.inr (.inl ⟨by assumption, by assumption⟩)) | exact .inr (.inr (.inr (by assumption))))))]; rfl)
     ·replace hb42 := of_decide_eq_false hb42
      refine ws_skip rfl ?_
      refine nm_lp ?_
      intro ax_ hax_
      refine ⟨_, (Hp.le_refl _), hax_.sub ⟨rfl, rfl, rfl, trivial⟩, S1.pick [0] [_] (by decide) ⟨rfl, trivial⟩, ?hq2f0⟩
      case hq2f0 => first | exact ⟨by omega, (by first | assumption | exact Classical.not_not.1 (by assumption)), .inl (by first | assumption | exact Classical.not_not.1 (by assumption)), (by first | assumption | exact Classical.not_not.1 (by assumption))⟩ | exact ⟨by omega, (by first | assumption | exact Classical.not_not.1 (by assumption)), .inr (by first | assumption | exact Classical.not_not.1 (by assumption)), (by first | assumption | exact Classical.not_not.1 (by assumption))⟩ | exact absurd ‹¬ga s (k + 1) = 45› ‹¬¬ga s (k + 1) = 45›
 ·rintro a1 w2 ⟨M1, hle1, he1, S2, hd⟩
  clear S1
  refine nm_in he1 ?_
  clear he1 a1
  refine nm_thn ?_
  refine ws_seqN crossIn_n11 crossIn_n12 rfl rfl rfl ?_
  refine ws_region rfl ?_
  refine wlm 0 1 rfl rfl rfl rfl rfl rfl rfl ?_
  refine wlo 1 2 rfl rfl rfl (wo_run rfl rfl (run_add rfl rfl rfl (by first | omega | (simp only [lens]; omega))) ?_)
  refine wla 2 3 rfl rfl rfl rfl rfl rfl rfl ?_
  refine wl_end rfl ?_
  refine nm_sub [(0, _), (1, _), (4, _), (6, _)] ⟨rfl, rfl, rfl, rfl, trivial⟩ ?_
  refine nm_thn ?_
  refine ws_seqN crossIn_n13 crossIn_n14 rfl rfl rfl ?_
  refine ws_region rfl ?_
  refine wla 0 1 rfl rfl rfl rfl rfl rfl rfl ?_
  refine wl_end rfl ?_
  refine nm_thn ?_
  refine ws_seqN crossIn_n15 crossIn_n16 rfl rfl rfl ?_
  refine ws_blockN crossIn_n17 0 rfl rfl rfl ?_
  have S8 := S2.nilrow cdInt; clear S2
  refine ws_loopE (fun mx_ ax_ wx_ => ∃ (j : Nat) (i : Nat) (l : List Int) (vro : Value) (M2 : Hp), M1.le M2 ∧ mx_ = 4 - l.length ∧ Env 129 [(0, .string (sB s)), (1, .int .i64 (k : Int)), (4, .pointer (some ⟨gb1, 0, none⟩)), (6, .int .i64 (i : Int)), (7, vro)] ax_ ∧ SH wx_ M2 X [Rs.row cdInt vro l, Rs.box gb1 49 [.int .i64 0, .int .i64 0, .int .i64 0, .int .i64 0, .bool false]] ∧ j ≤ 4 ∧ l.length = j ∧ cI s k j = some (l, i) ∧ (k + 3 ≤ i ∧ i ≤ s.length)) rfl ?_ ?_
  ·intro ax_ hax_
   refine ⟨_, ⟨0, k + 3, _, _, _, Hp.le_refl _, rfl, hax_.sub ⟨rfl, rfl, rfl, rfl, rfl, trivial⟩, S8.pick [0, 1] [_, _] (by decide) ⟨rfl, rfl, trivial⟩, ?hq3f0, ?hq3f1, ?hq3f2, ?hq3f3⟩⟩
   case hq3f0 => omega
   case hq3f1 => rfl
   case hq3f2 => exact cI_zero hd
   case hq3f3 => (have := hd.1; omega)
  ·rintro m1 a2 w8 ⟨j, i, l, vro, M2, hle2, rfl, he2, S9, hj, hll, hci, hi⟩
   clear S8
   refine ws_in he2 (c := crossIn_n18) rfl ?_
   clear he2 a2
   refine ws_seqN crossIn_n19 crossIn_n20 rfl rfl rfl ?_
   refine ws_seqN crossIn_n21 crossIn_n22 rfl rfl rfl ?_
   refine ws_region rfl ?_
   refine wlm 0 1 rfl rfl rfl rfl rfl rfl rfl ?_
   refine wlo 1 2 rfl rfl rfl (wo_run rfl rfl (run_lenR (C := cdInt) (i := 0) rfl rfl rfl rfl rfl rfl sl75 S9 rfl) ?_)
   refine wlo 2 3 rfl rfl rfl (wo_run rfl rfl (run_lss rfl rfl rfl) ?_)
   refine wl_end rfl ?_
   refine nm_sub [(0, _), (1, _), (4, _), (6, _), (7, _), (49, _)] ⟨rfl, rfl, rfl, rfl, rfl, rfl, trivial⟩ ?_
   refine nm_thn ?_
   refine ws_condN crossIn_n23 crossIn_n24 rfl rfl rfl rfl (fun hb49 => ?_) (fun hb49 => ?_)
   ·replace hb49 := of_decide_eq_true hb49
    refine ws_skip rfl ?_
    refine nm_sub [(0, _), (1, _), (4, _), (6, _), (7, _)] ⟨rfl, rfl, rfl, rfl, rfl, trivial⟩ ?_
    refine nm_thn ?_
    refine ws_blockN crossIn_n25 1 rfl rfl rfl ?_
    refine ws_seqN crossIn_n26 crossIn_n27 rfl rfl rfl ?_
    refine ws_region rfl ?_
    refine wla 0 1 rfl rfl rfl rfl rfl rfl rfl ?_
    refine wl_end rfl ?_
    refine nm_thn ?_
    refine ws_seqN crossIn_n28 crossIn_n29 rfl rfl rfl ?_
    refine ws_region rfl ?_
    refine wlm 0 1 rfl rfl rfl rfl rfl rfl rfl ?_
    refine wla 1 2 rfl rfl rfl rfl rfl rfl rfl ?_
    refine wl_end rfl ?_
    refine nm_sub [(0, _), (1, _), (4, _), (6, _), (7, _), (8, _), (9, _)] ⟨rfl, rfl, rfl, rfl, rfl, rfl, rfl, trivial⟩ ?_
    refine nm_thn ?_
    refine ws_seqN crossIn_n30 crossIn_n31 rfl rfl rfl ?_
    refine ws_blockN crossIn_n32 2 rfl rfl rfl ?_
    refine ws_loopE (fun mx_ ax_ wx_ => ∃ (f : Nat) (i2 : Nat) (x : Nat) (M3 : Hp), M2.le M3 ∧ mx_ = i + 3 - i2 ∧ Env 129 [(0, .string (sB s)), (1, .int .i64 (k : Int)), (4, .pointer (some ⟨gb1, 0, none⟩)), (6, .int .i64 (i2 : Int)), (7, vro), (8, .int .i64 (x : Int)), (9, .int .i64 (i : Int))] ax_ ∧ SH wx_ M3 X [Rs.row cdInt vro l, Rs.box gb1 49 [.int .i64 0, .int .i64 0, .int .i64 0, .int .i64 0, .bool false]] ∧ i2 + f = i + 3 ∧ whA s f i2 x = whA s 3 i 0 ∧ (x + 1) * 10 ^ f ≤ 1000 ∧ (i ≤ i2 ∧ i2 ≤ s.length)) rfl ?_ ?_
    ·intro ax_ hax_
     refine ⟨_, ⟨3, i, 0, _, Hp.le_refl _, rfl, hax_.sub ⟨rfl, rfl, rfl, rfl, rfl, rfl, rfl, trivial⟩, S9.pick [0, 1] [_, _] (by decide) ⟨rfl, rfl, trivial⟩, ?hq4f0, ?hq4f1, ?hq4f2, ?hq4f3⟩⟩
     case hq4f0 => omega
     case hq4f1 => rfl
     case hq4f2 => decide
     case hq4f3 => omega
    ·rintro m2 a3 w9 ⟨f, i2, x, M3, hle3, rfl, he3, S10, hf, hwh, hpw, hii⟩
     clear S9
     refine ws_in he3 (c := crossIn_n33) rfl ?_
     clear he3 a3
     have hn9 := pow_lt3 hpw
     refine ws_seqN crossIn_n34 crossIn_n35 rfl rfl rfl ?_
     refine ws_seqN crossIn_n36 crossIn_n37 rfl rfl rfl ?_
     refine ws_region rfl ?_
     refine wlm 0 1 rfl rfl rfl rfl rfl rfl rfl ?_
     refine wlm 1 2 rfl rfl rfl rfl rfl rfl rfl ?_
     refine wlo 2 3 rfl rfl rfl (wo_run rfl rfl (run_lenS rfl rfl rfl rfl rfl rfl Tryd.underlying9) ?_)
     refine wlo 3 4 rfl rfl rfl (wo_run rfl rfl (run_lss rfl rfl rfl) ?_)
     refine wlm 4 5 rfl rfl rfl rfl rfl rfl rfl ?_
     refine wl_split (t := 55) rfl (fun hg55 => ?_) (fun hg55 => ?_)
     ·replace hg55 := of_decide_eq_true hg55
      refine wl_opG (k := 5) (k' := 6) rfl rfl ⟨_, _, _, rfl, rfl, rfl, rfl⟩ rfl (wo_run rfl rfl (run_move rfl rfl) ?_)
      refine wl_opG (k := 6) (k' := 7) rfl rfl ⟨_, _, _, rfl, rfl, rfl, rfl⟩ rfl (wo_run rfl rfl (run_move rfl rfl) ?_)
      refine wl_opG (k := 7) (k' := 8) rfl rfl ⟨_, _, _, rfl, rfl, rfl, rfl⟩ rfl (wo_run rfl rfl (run_add rfl rfl rfl (by first | omega | (simp only [lens]; omega))) ?_)
      refine wl_opG (k := 8) (k' := 9) rfl rfl ⟨_, _, _, rfl, rfl, rfl, rfl⟩ rfl (wo_run rfl rfl (run_lss rfl rfl rfl) ?_)
      refine wlo 9 10 rfl rfl rfl (wo_run rfl rfl (run_pickT rfl rfl rfl) ?_)
      refine wlm 10 11 rfl rfl rfl rfl rfl rfl rfl ?_
      refine wl_split (t := 61) rfl (fun hg61 => ?_) (fun hg61 => ?_)
      ·replace hg61 := of_decide_eq_true hg61
       refine wl_opG (k := 11) (k' := 12) rfl rfl ⟨_, _, _, rfl, rfl, rfl, rfl⟩ rfl (wo_run rfl rfl (run_move rfl rfl) ?_)
       refine wl_opG (k := 12) (k' := 13) rfl rfl ⟨_, _, _, rfl, rfl, rfl, rfl⟩ rfl (wo_run rfl rfl (run_move rfl rfl) ?_)
       refine wl_opG (k := 13) (k' := 14) rfl rfl ⟨_, _, _, rfl, rfl, rfl, rfl⟩ rfl (wo_run rfl rfl (run_indexS i2 rfl rfl rfl Tryd.underlying9 ((by first | omega | (simp only [lens]; omega)))) ?_)
       refine wl_opG (k := 14) (k' := 15) rfl rfl ⟨_, _, _, rfl, rfl, rfl, rfl⟩ rfl (wo_run rfl rfl (run_geqB (p := (ga s i2).toNat) (q := 48) rfl rfl rfl) ?_)
       refine wlo 15 16 rfl rfl rfl (wo_run rfl rfl (run_pickT rfl rfl rfl) ?_)
       refine wlm 16 17 rfl rfl rfl rfl rfl rfl rfl ?_
       refine wl_split (t := 67) rfl (fun hg67 => ?_) (fun hg67 => ?_)
       ·replace hg67 := of_decide_eq_true hg67
        refine wl_opG (k := 17) (k' := 18) rfl rfl ⟨_, _, _, rfl, rfl, rfl, rfl⟩ rfl (wo_run rfl rfl (run_move rfl rfl) ?_)
        refine wl_opG (k := 18) (k' := 19) rfl rfl ⟨_, _, _, rfl, rfl, rfl, rfl⟩ rfl (wo_run rfl rfl (run_move rfl rfl) ?_)
        refine wl_opG (k := 19) (k' := 20) rfl rfl ⟨_, _, _, rfl, rfl, rfl, rfl⟩ rfl (wo_run rfl rfl (run_indexS i2 rfl rfl rfl Tryd.underlying9 ((by first | omega | (simp only [lens]; omega)))) ?_)
        refine wl_opG (k := 20) (k' := 21) rfl rfl ⟨_, _, _, rfl, rfl, rfl, rfl⟩ rfl (wo_run rfl rfl (run_leqB (p := (ga s i2).toNat) (q := 57) rfl rfl rfl) ?_)
        refine wlo 21 22 rfl rfl rfl (wo_run rfl rfl (run_pickT rfl rfl rfl) ?_)
        refine wl_end rfl ?_
        refine nm_sub [(0, _), (1, _), (4, _), (6, _), (7, _), (8, _), (9, _), (72, _)] ⟨rfl, rfl, rfl, rfl, rfl, rfl, rfl, rfl, trivial⟩ ?_
        refine nm_thn ?_
        refine ws_condN crossIn_n38 crossIn_n39 rfl rfl rfl rfl (fun hb72 => ?_) (fun hb72 => ?_)
        ·replace hb72 := of_decide_eq_true hb72
         refine ws_skip rfl ?_
         refine nm_sub [(0, _), (1, _), (4, _), (6, _), (7, _), (8, _), (9, _)] ⟨rfl, rfl, rfl, rfl, rfl, rfl, rfl, trivial⟩ ?_
         refine nm_thn ?_
         refine ws_blockN crossIn_n40 3 rfl rfl rfl ?_
         refine ws_seqN crossIn_n41 crossIn_n42 rfl rfl rfl ?_
         refine ws_region rfl ?_
         refine wlm 0 1 rfl rfl rfl rfl rfl rfl rfl ?_
         refine wlo 1 2 rfl rfl rfl (wo_run rfl rfl (run_mul rfl rfl rfl (by first | omega | (simp only [lens]; omega))) ?_)
         refine wlm 2 3 rfl rfl rfl rfl rfl rfl rfl ?_
         refine wlm 3 4 rfl rfl rfl rfl rfl rfl rfl ?_
         refine wlo 4 5 rfl rfl rfl (wo_run rfl rfl (run_indexS i2 rfl rfl rfl Tryd.underlying9 ((by first | omega | (simp only [lens]; omega)))) ?_)
         refine wlo 5 6 rfl rfl rfl (wo_run rfl rfl (run_subB (p := (ga s i2).toNat) (q := 48) rfl rfl rfl (by have := UInt8.toNat_lt (ga s i2); omega)) ?_)
         refine wlo 6 7 rfl rfl rfl (wo_run rfl rfl (run_convU (s := ((ga s i2).toNat - 48)) rfl rfl ⟨_, Tryd.underlying5⟩ Tryd.underlying3 (by have := UInt8.toNat_lt (ga s i2); first | omega | (simp only [lens]; omega))) ?_)
         refine wlo 7 8 rfl rfl rfl (wo_run rfl rfl (run_add rfl rfl rfl (by first | omega | (simp only [lens]; omega))) ?_)
         refine wla 8 9 rfl rfl rfl rfl rfl rfl rfl ?_
         refine wl_end rfl ?_
         refine nm_sub [(0, _), (1, _), (4, _), (6, _), (7, _), (8, _), (9, _)] ⟨rfl, rfl, rfl, rfl, rfl, rfl, rfl, trivial⟩ ?_
         refine nm_thn ?_
         refine ws_eq 8 (.int .i64 ((10 * x + ((ga s i2).toNat - 48) : Nat) : Int)) rfl (int_eq (by omega)) ?_
         refine ws_region rfl ?_
         refine wlm 0 1 rfl rfl rfl rfl rfl rfl rfl ?_
         refine wlo 1 2 rfl rfl rfl (wo_run rfl rfl (run_add rfl rfl rfl (by first | omega | (simp only [lens]; omega))) ?_)
         refine wla 2 3 rfl rfl rfl rfl rfl rfl rfl ?_
         refine wl_end rfl ?_
         refine nm_blk ?_
         refine nm_lp ?_
         intro ax_ hax_
         refine ⟨_, ?hq5m, ⟨(f - 1), i2 + 1, 10 * x + ((ga s i2).toNat - 48), _, (hle3), rfl, hax_.sub ⟨rfl, rfl, rfl, rfl, rfl, rfl, rfl, trivial⟩, S10.pick [0, 1] [_, _] (by decide) ⟨rfl, rfl, trivial⟩, ?hq5f0, ?hq5f1, ?hq5f2, ?hq5f3⟩⟩
         case hq5f0 => omega
         case hq5f1 => (exact (whA_go (s := s) (f := f) (i := i2) (n := x) (by omega) ⟨by omega, by omega, by omega⟩).symm.trans hwh)
         case hq5f2 => exact pow_step3 (by omega) (by omega) hpw
         case hq5f3 => omega
         case hq5m => omega
        ·replace hb72 := of_decide_eq_false hb72
         refine ws_exit rfl rfl ?_
         refine nm_sub [(0, _), (1, _), (4, _), (6, _), (7, _), (8, _), (9, _)] ⟨rfl, rfl, rfl, rfl, rfl, rfl, rfl, trivial⟩ ?_
         refine nm_thn ?_
         refine ws_seqN crossIn_n43 crossIn_n44 rfl rfl rfl ?_
         have hq : whA s 3 i 0 = (x, i2) := (by rw [← hwh]; first | (rw [show f = 0 by omega]; rfl) | exact whA_stop (by omega))
         refine ws_region rfl ?_
         refine wla 0 1 rfl rfl rfl rfl rfl rfl rfl ?_
         refine wl_end rfl ?_
         refine nm_thn ?_
         refine ws_seqN crossIn_n45 crossIn_n46 rfl rfl rfl ?_
         refine ws_seqN crossIn_n47 crossIn_n48 rfl rfl rfl ?_
         refine ws_region rfl ?_
         refine wlm 0 1 rfl rfl rfl rfl rfl rfl rfl ?_
         refine wlo 1 2 rfl rfl rfl (wo_run rfl rfl (run_lenR (C := cdInt) (i := 0) rfl rfl rfl rfl rfl rfl sl75 S10 rfl) ?_)
         refine wlo 2 3 rfl rfl rfl (wo_run rfl rfl (run_eql rfl rfl rfl) ?_)
         refine wl_end rfl ?_
         refine nm_sub [(0, _), (1, _), (4, _), (6, _), (7, _), (8, _), (9, _), (10, _), (85, _)] ⟨rfl, rfl, rfl, rfl, rfl, rfl, rfl, rfl, rfl, trivial⟩ ?_
         refine nm_thn ?_
         refine ws_condN crossIn_n49 crossIn_n50 rfl rfl rfl rfl (fun hb85 => ?_) (fun hb85 => ?_)
         ·replace hb85 := of_decide_eq_true hb85
          refine ws_region rfl ?_
          refine wla 0 1 rfl rfl rfl rfl rfl rfl rfl ?_
          refine wl_end rfl ?_
          refine nm_sub [(0, _), (1, _), (4, _), (6, _), (7, _), (8, _), (9, _), (10, _)] ⟨rfl, rfl, rfl, rfl, rfl, rfl, rfl, rfl, trivial⟩ ?_
          refine nm_thn ?_
          refine ws_seqN crossIn_n51 crossIn_n52 rfl rfl rfl ?_
          refine ws_seqN crossIn_n53 crossIn_n54 rfl rfl rfl ?_
          refine ws_region rfl ?_
          refine wlm 0 1 rfl rfl rfl rfl rfl rfl rfl ?_
          refine wlm 1 2 rfl rfl rfl rfl rfl rfl rfl ?_
          refine wlo 2 3 rfl rfl rfl (wo_run rfl rfl (run_eql rfl rfl rfl) ?_)
          refine wlm 3 4 rfl rfl rfl rfl rfl rfl rfl ?_
          refine wl_split (t := 89) rfl (fun hg89 => ?_) (fun hg89 => ?_)
          ·replace hg89 := of_decide_eq_true hg89
           refine wl_no (k := 4) (k' := 5) (d := 90) rfl rfl ⟨_, _, _, rfl, rfl, rfl, rfl⟩ rfl rfl ?_
           refine wl_no (k := 5) (k' := 6) (d := 91) rfl rfl ⟨_, _, _, rfl, rfl, rfl, rfl⟩ rfl rfl ?_
           refine wl_no (k := 6) (k' := 7) (d := 92) rfl rfl ⟨_, _, _, rfl, rfl, rfl, rfl⟩ rfl rfl ?_
           refine wl_no (k := 7) (k' := 8) (d := 93) rfl rfl ⟨_, _, _, rfl, rfl, rfl, rfl⟩ rfl rfl ?_
           refine wlo 8 9 rfl rfl rfl (wo_run rfl rfl (run_pickT rfl rfl rfl) ?_)
           refine wlm 9 10 rfl rfl rfl rfl rfl rfl rfl ?_
           refine wl_no (k := 10) (k' := 11) (d := 96) rfl rfl ⟨_, _, _, rfl, rfl, rfl, rfl⟩ rfl rfl ?_
           refine wl_no (k := 11) (k' := 12) (d := 97) rfl rfl ⟨_, _, _, rfl, rfl, rfl, rfl⟩ rfl rfl ?_
           refine wl_no (k := 12) (k' := 13) (d := 98) rfl rfl ⟨_, _, _, rfl, rfl, rfl, rfl⟩ rfl rfl ?_
           refine wl_no (k := 13) (k' := 14) (d := 99) rfl rfl ⟨_, _, _, rfl, rfl, rfl, rfl⟩ rfl rfl ?_
           refine wl_no (k := 14) (k' := 15) (d := 100) rfl rfl ⟨_, _, _, rfl, rfl, rfl, rfl⟩ rfl rfl ?_
           refine wlo 15 16 rfl rfl rfl (wo_run rfl rfl (run_pickT rfl rfl rfl) ?_)
           refine wl_end rfl ?_
           refine nm_sub [(0, _), (1, _), (4, _), (6, _), (7, _), (8, _), (101, _)] ⟨rfl, rfl, rfl, rfl, rfl, rfl, rfl, trivial⟩ ?_
           refine nm_thn ?_
           refine ws_condTN crossIn_n55 rfl rfl rfl ?_
           refine ws_seqN crossIn_n57 crossIn_n58 rfl rfl rfl ?_
           refine ws_region rfl ?_
           refine wlo 0 1 rfl rfl rfl (wo_run rfl rfl (run_build (l := [_, _, _, _, _]) rfl rfl st49 rfl rfl) ?_)
           refine wlm 1 2 rfl rfl rfl rfl rfl rfl rfl ?_
           refine wlo 2 3 rfl rfl rfl (wo_storeB (i := 1) (us := [_, _, _, _, _]) (l' := [_, _, _, _, _]) (H' := [_, _]) rfl rfl S10 rfl rfl rfl rfl sz49 rfl rfl rfl rfl ?_)
           intro w10 S11; clear S10
           refine wla 3 4 rfl rfl rfl rfl rfl rfl rfl ?_
           refine wl_end rfl ?_
           refine nm_sub [(4, _), (5, _)] ⟨rfl, rfl, trivial⟩ ?_
           refine nm_thn ?_
           refine ws_ret hC [_, _] rfl rfl ⟨⟨_, rfl, loadVarN (us := [_, _, _, _, _]) Tryd.underlying49 rfl sz49 (S11.boxcs (i := 1) rfl ⟨rfl, rfl, rfl, rfl, rfl, trivial⟩)⟩, rfl, trivial⟩ ?_
           refine ⟨_, rfl, _, (hle1.trans hle2).trans hle3, (S11.pick [] [] (by decide) trivial), ?_⟩
           exact (by rw [(crR_no (j + 1) (by omega) (cI_stop hci (by first | exact if_pos (by omega) | exact if_neg (by omega)) hq (by first | exact .inl (by omega) | exact .inr (.inl (by omega)) | exact .inr (.inr (by assumption)))))]; rfl)
          ·replace hg89 := of_decide_eq_false hg89
           refine wl_opG (k := 4) (k' := 5) rfl rfl ⟨_, _, _, rfl, rfl, rfl, rfl⟩ rfl (wo_run rfl rfl (run_move rfl rfl) ?_)
           refine wl_opG (k := 5) (k' := 6) rfl rfl ⟨_, _, _, rfl, rfl, rfl, rfl⟩ rfl (wo_run rfl rfl (run_move rfl rfl) ?_)
           refine wl_opG (k := 6) (k' := 7) rfl rfl ⟨_, _, _, rfl, rfl, rfl, rfl⟩ rfl (wo_run rfl rfl (run_lenS rfl rfl rfl rfl rfl rfl Tryd.underlying9) ?_)
           refine wl_opG (k := 7) (k' := 8) rfl rfl ⟨_, _, _, rfl, rfl, rfl, rfl⟩ rfl (wo_run rfl rfl (run_geq rfl rfl rfl) ?_)
           refine wlo 8 9 rfl rfl rfl (wo_run rfl rfl (run_pickF rfl rfl rfl) ?_)
           refine wlm 9 10 rfl rfl rfl rfl rfl rfl rfl ?_
           refine wl_split (t := 95) rfl (fun hg95 => ?_) (fun hg95 => ?_)
           ·replace hg95 := of_decide_eq_true hg95
            refine wl_no (k := 10) (k' := 11) (d := 96) rfl rfl ⟨_, _, _, rfl, rfl, rfl, rfl⟩ rfl rfl ?_
            refine wl_no (k := 11) (k' := 12) (d := 97) rfl rfl ⟨_, _, _, rfl, rfl, rfl, rfl⟩ rfl rfl ?_
            refine wl_no (k := 12) (k' := 13) (d := 98) rfl rfl ⟨_, _, _, rfl, rfl, rfl, rfl⟩ rfl rfl ?_
            refine wl_no (k := 13) (k' := 14) (d := 99) rfl rfl ⟨_, _, _, rfl, rfl, rfl, rfl⟩ rfl rfl ?_
            refine wl_no (k := 14) (k' := 15) (d := 100) rfl rfl ⟨_, _, _, rfl, rfl, rfl, rfl⟩ rfl rfl ?_
            refine wlo 15 16 rfl rfl rfl (wo_run rfl rfl (run_pickT rfl rfl rfl) ?_)
            refine wl_end rfl ?_
            refine nm_sub [(0, _), (1, _), (4, _), (6, _), (7, _), (8, _), (101, _)] ⟨rfl, rfl, rfl, rfl, rfl, rfl, rfl, trivial⟩ ?_
            refine nm_thn ?_
            refine ws_condTN crossIn_n55 rfl rfl rfl ?_
            refine ws_seqN crossIn_n57 crossIn_n58 rfl rfl rfl ?_
            refine ws_region rfl ?_
            refine wlo 0 1 rfl rfl rfl (wo_run rfl rfl (run_build (l := [_, _, _, _, _]) rfl rfl st49 rfl rfl) ?_)
            refine wlm 1 2 rfl rfl rfl rfl rfl rfl rfl ?_
            refine wlo 2 3 rfl rfl rfl (wo_storeB (i := 1) (us := [_, _, _, _, _]) (l' := [_, _, _, _, _]) (H' := [_, _]) rfl rfl S10 rfl rfl rfl rfl sz49 rfl rfl rfl rfl ?_)
            intro w11 S12; clear S10
            refine wla 3 4 rfl rfl rfl rfl rfl rfl rfl ?_
            refine wl_end rfl ?_
            refine nm_sub [(4, _), (5, _)] ⟨rfl, rfl, trivial⟩ ?_
            refine nm_thn ?_
            refine ws_ret hC [_, _] rfl rfl ⟨⟨_, rfl, loadVarN (us := [_, _, _, _, _]) Tryd.underlying49 rfl sz49 (S12.boxcs (i := 1) rfl ⟨rfl, rfl, rfl, rfl, rfl, trivial⟩)⟩, rfl, trivial⟩ ?_
            refine ⟨_, rfl, _, (hle1.trans hle2).trans hle3, (S12.pick [] [] (by decide) trivial), ?_⟩
            exact (by rw [(crR_no (j + 1) (by omega) (cI_stop hci (by first | exact if_pos (by omega) | exact if_neg (by omega)) hq (by first | exact .inl (by omega) | exact .inr (.inl (by omega)) | exact .inr (.inr (by assumption)))))]; rfl)
           ·replace hg95 := of_decide_eq_false hg95
            refine wl_opG (k := 10) (k' := 11) rfl rfl ⟨_, _, _, rfl, rfl, rfl, rfl⟩ rfl (wo_run rfl rfl (run_move rfl rfl) ?_)
            refine wl_opG (k := 11) (k' := 12) rfl rfl ⟨_, _, _, rfl, rfl, rfl, rfl⟩ rfl (wo_run rfl rfl (run_move rfl rfl) ?_)
            refine wl_opG (k := 12) (k' := 13) rfl rfl ⟨_, _, _, rfl, rfl, rfl, rfl⟩ rfl (wo_run rfl rfl (run_indexS i2 rfl rfl rfl Tryd.underlying9 ((by first | omega | (simp only [lens]; omega)))) ?_)
            refine wl_opG (k := 13) (k' := 14) rfl rfl ⟨_, _, _, rfl, rfl, rfl, rfl⟩ rfl (wo_run rfl rfl (run_move rfl rfl) ?_)
            refine wl_opG (k := 14) (k' := 15) rfl rfl ⟨_, _, _, rfl, rfl, rfl, rfl⟩ rfl (wo_run rfl rfl (run_neqB (p := (ga s i2)) (q := 93) rfl rfl rfl) ?_)
            refine wlo 15 16 rfl rfl rfl (wo_run rfl rfl (run_pickF rfl rfl rfl) ?_)
            refine wl_end rfl ?_
            refine nm_sub [(0, _), (1, _), (4, _), (6, _), (7, _), (8, _), (101, _)] ⟨rfl, rfl, rfl, rfl, rfl, rfl, rfl, trivial⟩ ?_
            refine nm_thn ?_
            refine ws_condN crossIn_n55 crossIn_n56 rfl rfl rfl rfl (fun hb101 => ?_) (fun hb101 => ?_)
            ·replace hb101 := of_decide_eq_true hb101
             refine ws_seqN crossIn_n57 crossIn_n58 rfl rfl rfl ?_
             refine ws_region rfl ?_
             refine wlo 0 1 rfl rfl rfl (wo_run rfl rfl (run_build (l := [_, _, _, _, _]) rfl rfl st49 rfl rfl) ?_)
             refine wlm 1 2 rfl rfl rfl rfl rfl rfl rfl ?_
             refine wlo 2 3 rfl rfl rfl (wo_storeB (i := 1) (us := [_, _, _, _, _]) (l' := [_, _, _, _, _]) (H' := [_, _]) rfl rfl S10 rfl rfl rfl rfl sz49 rfl rfl rfl rfl ?_)
             intro w12 S13; clear S10
             refine wla 3 4 rfl rfl rfl rfl rfl rfl rfl ?_
             refine wl_end rfl ?_
             refine nm_sub [(4, _), (5, _)] ⟨rfl, rfl, trivial⟩ ?_
             refine nm_thn ?_
             refine ws_ret hC [_, _] rfl rfl ⟨⟨_, rfl, loadVarN (us := [_, _, _, _, _]) Tryd.underlying49 rfl sz49 (S13.boxcs (i := 1) rfl ⟨rfl, rfl, rfl, rfl, rfl, trivial⟩)⟩, rfl, trivial⟩ ?_
             refine ⟨_, rfl, _, (hle1.trans hle2).trans hle3, (S13.pick [] [] (by decide) trivial), ?_⟩
             exact (by rw [(crR_no (j + 1) (by omega) (cI_stop hci (by first | exact if_pos (by omega) | exact if_neg (by omega)) hq (by first | exact .inl (by omega) | exact .inr (.inl (by omega)) | exact .inr (.inr (by assumption)))))]; rfl)
            ·replace hb101 := of_decide_eq_false hb101
             refine ws_skip rfl ?_
             refine nm_sub [(0, _), (1, _), (4, _), (6, _), (7, _), (8, _)] ⟨rfl, rfl, rfl, rfl, rfl, rfl, trivial⟩ ?_
             refine nm_thn ?_
             refine ws_seqN crossIn_n59 crossIn_n60 rfl rfl rfl ?_
             refine ws_region rfl ?_
             refine wlm 0 1 rfl rfl rfl rfl rfl rfl rfl ?_
             refine wlo 1 2 rfl rfl rfl (wo_run rfl rfl (run_add rfl rfl rfl (by first | omega | (simp only [lens]; omega))) ?_)
             refine wla 2 3 rfl rfl rfl rfl rfl rfl rfl ?_
             refine wl_end rfl ?_
             refine nm_sub [(0, _), (1, _), (4, _), (6, _), (7, _), (8, _)] ⟨rfl, rfl, rfl, rfl, rfl, rfl, trivial⟩ ?_
             refine nm_thn ?_
             refine ws_region rfl ?_
             refine wlm 0 1 rfl rfl rfl rfl rfl rfl rfl ?_
             refine wlm 1 2 rfl rfl rfl rfl rfl rfl rfl ?_
             refine wlo 2 3 rfl rfl rfl (wo_buildSlice1 (C := cdInt) (l := [_]) rfl rfl rfl rfl sl75 rfl rfl rfl rfl S10 ?_)
             intro gb2 w13 S14; clear S10
             refine wlo 3 4 rfl rfl rfl (wo_append1 (C := cdInt) (i := 1) (q := 0) (x : Int) rfl rfl rfl rfl rfl rfl rfl rfl sl75 S14 rfl rfl rfl (by show (_ + 1) * 8 ≤ _; first | omega | (simp only [lens]; omega)) ?_)
             intro vro1 w14 S15; clear S14
             have S16 := S15.pick [1, 2] [_, _] (by decide) ⟨rfl, rfl, trivial⟩; clear S15
             refine wla 4 5 rfl rfl rfl rfl rfl rfl rfl ?_
             refine wl_end rfl ?_
             refine nm_blk ?_
             refine nm_lp ?_
             intro ax_ hax_
             refine ⟨_, ?hq6m, ⟨j + 1, i2 + 1, l ++ [(x : Int)], _, _, (hle2.trans hle3), rfl, hax_.sub ⟨rfl, rfl, rfl, rfl, rfl, trivial⟩, S16.pick [0, 1] [_, _] (by decide) ⟨rfl, rfl, trivial⟩, ?hq6f0, ?hq6f1, ?hq6f2, ?hq6f3⟩⟩
             case hq6f0 => omega
             case hq6f1 => (rw [List.length_append]; simp only [List.length_cons, List.length_nil]; omega)
             case hq6f2 => first | exact cI_go (c := _) hci (by first | rw [if_pos (by omega)] | rw [if_neg (by omega)]) hq (by omega) (by omega) (by first | assumption | exact Classical.not_not.1 (by assumption)) | (exfalso; omega)
             case hq6f3 => omega
             case hq6m => (rw [List.length_append]; simp only [List.length_cons, List.length_nil]; omega)
         ·replace hb85 := of_decide_eq_false hb85
          refine ws_skip rfl ?_
          refine nm_sub [(0, _), (1, _), (4, _), (6, _), (7, _), (8, _), (9, _), (10, _)] ⟨rfl, rfl, rfl, rfl, rfl, rfl, rfl, rfl, trivial⟩ ?_
          refine nm_thn ?_
          refine ws_seqN crossIn_n51 crossIn_n52 rfl rfl rfl ?_
          refine ws_seqN crossIn_n53 crossIn_n54 rfl rfl rfl ?_
          refine ws_region rfl ?_
          refine wlm 0 1 rfl rfl rfl rfl rfl rfl rfl ?_
          refine wlm 1 2 rfl rfl rfl rfl rfl rfl rfl ?_
          refine wlo 2 3 rfl rfl rfl (wo_run rfl rfl (run_eql rfl rfl rfl) ?_)
          refine wlm 3 4 rfl rfl rfl rfl rfl rfl rfl ?_
          refine wl_split (t := 89) rfl (fun hg89 => ?_) (fun hg89 => ?_)
          ·replace hg89 := of_decide_eq_true hg89
           refine wl_no (k := 4) (k' := 5) (d := 90) rfl rfl ⟨_, _, _, rfl, rfl, rfl, rfl⟩ rfl rfl ?_
           refine wl_no (k := 5) (k' := 6) (d := 91) rfl rfl ⟨_, _, _, rfl, rfl, rfl, rfl⟩ rfl rfl ?_
           refine wl_no (k := 6) (k' := 7) (d := 92) rfl rfl ⟨_, _, _, rfl, rfl, rfl, rfl⟩ rfl rfl ?_
           refine wl_no (k := 7) (k' := 8) (d := 93) rfl rfl ⟨_, _, _, rfl, rfl, rfl, rfl⟩ rfl rfl ?_
           refine wlo 8 9 rfl rfl rfl (wo_run rfl rfl (run_pickT rfl rfl rfl) ?_)
           refine wlm 9 10 rfl rfl rfl rfl rfl rfl rfl ?_
           refine wl_no (k := 10) (k' := 11) (d := 96) rfl rfl ⟨_, _, _, rfl, rfl, rfl, rfl⟩ rfl rfl ?_
           refine wl_no (k := 11) (k' := 12) (d := 97) rfl rfl ⟨_, _, _, rfl, rfl, rfl, rfl⟩ rfl rfl ?_
           refine wl_no (k := 12) (k' := 13) (d := 98) rfl rfl ⟨_, _, _, rfl, rfl, rfl, rfl⟩ rfl rfl ?_
           refine wl_no (k := 13) (k' := 14) (d := 99) rfl rfl ⟨_, _, _, rfl, rfl, rfl, rfl⟩ rfl rfl ?_
           refine wl_no (k := 14) (k' := 15) (d := 100) rfl rfl ⟨_, _, _, rfl, rfl, rfl, rfl⟩ rfl rfl ?_
           refine wlo 15 16 rfl rfl rfl (wo_run rfl rfl (run_pickT rfl rfl rfl) ?_)
           refine wl_end rfl ?_
           refine nm_sub [(0, _), (1, _), (4, _), (6, _), (7, _), (8, _), (101, _)] ⟨rfl, rfl, rfl, rfl, rfl, rfl, rfl, trivial⟩ ?_
           refine nm_thn ?_
           refine ws_condTN crossIn_n55 rfl rfl rfl ?_
           refine ws_seqN crossIn_n57 crossIn_n58 rfl rfl rfl ?_
           refine ws_region rfl ?_
           refine wlo 0 1 rfl rfl rfl (wo_run rfl rfl (run_build (l := [_, _, _, _, _]) rfl rfl st49 rfl rfl) ?_)
           refine wlm 1 2 rfl rfl rfl rfl rfl rfl rfl ?_
           refine wlo 2 3 rfl rfl rfl (wo_storeB (i := 1) (us := [_, _, _, _, _]) (l' := [_, _, _, _, _]) (H' := [_, _]) rfl rfl S10 rfl rfl rfl rfl sz49 rfl rfl rfl rfl ?_)
           intro w15 S17; clear S10
           refine wla 3 4 rfl rfl rfl rfl rfl rfl rfl ?_
           refine wl_end rfl ?_
           refine nm_sub [(4, _), (5, _)] ⟨rfl, rfl, trivial⟩ ?_
           refine nm_thn ?_
           refine ws_ret hC [_, _] rfl rfl ⟨⟨_, rfl, loadVarN (us := [_, _, _, _, _]) Tryd.underlying49 rfl sz49 (S17.boxcs (i := 1) rfl ⟨rfl, rfl, rfl, rfl, rfl, trivial⟩)⟩, rfl, trivial⟩ ?_
           refine ⟨_, rfl, _, (hle1.trans hle2).trans hle3, (S17.pick [] [] (by decide) trivial), ?_⟩
           exact (by rw [(crR_no (j + 1) (by omega) (cI_stop hci (by first | exact if_pos (by omega) | exact if_neg (by omega)) hq (by first | exact .inl (by omega) | exact .inr (.inl (by omega)) | exact .inr (.inr (by assumption)))))]; rfl)
          ·replace hg89 := of_decide_eq_false hg89
           refine wl_opG (k := 4) (k' := 5) rfl rfl ⟨_, _, _, rfl, rfl, rfl, rfl⟩ rfl (wo_run rfl rfl (run_move rfl rfl) ?_)
           refine wl_opG (k := 5) (k' := 6) rfl rfl ⟨_, _, _, rfl, rfl, rfl, rfl⟩ rfl (wo_run rfl rfl (run_move rfl rfl) ?_)
           refine wl_opG (k := 6) (k' := 7) rfl rfl ⟨_, _, _, rfl, rfl, rfl, rfl⟩ rfl (wo_run rfl rfl (run_lenS rfl rfl rfl rfl rfl rfl Tryd.underlying9) ?_)
           refine wl_opG (k := 7) (k' := 8) rfl rfl ⟨_, _, _, rfl, rfl, rfl, rfl⟩ rfl (wo_run rfl rfl (run_geq rfl rfl rfl) ?_)
           refine wlo 8 9 rfl rfl rfl (wo_run rfl rfl (run_pickF rfl rfl rfl) ?_)
           refine wlm 9 10 rfl rfl rfl rfl rfl rfl rfl ?_
           refine wl_split (t := 95) rfl (fun hg95 => ?_) (fun hg95 => ?_)
           ·replace hg95 := of_decide_eq_true hg95
            refine wl_no (k := 10) (k' := 11) (d := 96) rfl rfl ⟨_, _, _, rfl, rfl, rfl, rfl⟩ rfl rfl ?_
            refine wl_no (k := 11) (k' := 12) (d := 97) rfl rfl ⟨_, _, _, rfl, rfl, rfl, rfl⟩ rfl rfl ?_
            refine wl_no (k := 12) (k' := 13) (d := 98) rfl rfl ⟨_, _, _, rfl, rfl, rfl, rfl⟩ rfl rfl ?_
            refine wl_no (k := 13) (k' := 14) (d := 99) rfl rfl ⟨_, _, _, rfl, rfl, rfl, rfl⟩ rfl rfl ?_
            refine wl_no (k := 14) (k' := 15) (d := 100) rfl rfl ⟨_, _, _, rfl, rfl, rfl, rfl⟩ rfl rfl ?_
            refine wlo 15 16 rfl rfl rfl (wo_run rfl rfl (run_pickT rfl rfl rfl) ?_)
            refine wl_end rfl ?_
            refine nm_sub [(0, _), (1, _), (4, _), (6, _), (7, _), (8, _), (101, _)] ⟨rfl, rfl, rfl, rfl, rfl, rfl, rfl, trivial⟩ ?_
            refine nm_thn ?_
            refine ws_condTN crossIn_n55 rfl rfl rfl ?_
            refine ws_seqN crossIn_n57 crossIn_n58 rfl rfl rfl ?_
            refine ws_region rfl ?_
            refine wlo 0 1 rfl rfl rfl (wo_run rfl rfl (run_build (l := [_, _, _, _, _]) rfl rfl st49 rfl rfl) ?_)
            refine wlm 1 2 rfl rfl rfl rfl rfl rfl rfl ?_
            refine wlo 2 3 rfl rfl rfl (wo_storeB (i := 1) (us := [_, _, _, _, _]) (l' := [_, _, _, _, _]) (H' := [_, _]) rfl rfl S10 rfl rfl rfl rfl sz49 rfl rfl rfl rfl ?_)
            intro w16 S18; clear S10
            refine wla 3 4 rfl rfl rfl rfl rfl rfl rfl ?_
            refine wl_end rfl ?_
            refine nm_sub [(4, _), (5, _)] ⟨rfl, rfl, trivial⟩ ?_
            refine nm_thn ?_
            refine ws_ret hC [_, _] rfl rfl ⟨⟨_, rfl, loadVarN (us := [_, _, _, _, _]) Tryd.underlying49 rfl sz49 (S18.boxcs (i := 1) rfl ⟨rfl, rfl, rfl, rfl, rfl, trivial⟩)⟩, rfl, trivial⟩ ?_
            refine ⟨_, rfl, _, (hle1.trans hle2).trans hle3, (S18.pick [] [] (by decide) trivial), ?_⟩
            exact (by rw [(crR_no (j + 1) (by omega) (cI_stop hci (by first | exact if_pos (by omega) | exact if_neg (by omega)) hq (by first | exact .inl (by omega) | exact .inr (.inl (by omega)) | exact .inr (.inr (by assumption)))))]; rfl)
           ·replace hg95 := of_decide_eq_false hg95
            refine wl_opG (k := 10) (k' := 11) rfl rfl ⟨_, _, _, rfl, rfl, rfl, rfl⟩ rfl (wo_run rfl rfl (run_move rfl rfl) ?_)
            refine wl_opG (k := 11) (k' := 12) rfl rfl ⟨_, _, _, rfl, rfl, rfl, rfl⟩ rfl (wo_run rfl rfl (run_move rfl rfl) ?_)
            refine wl_opG (k := 12) (k' := 13) rfl rfl ⟨_, _, _, rfl, rfl, rfl, rfl⟩ rfl (wo_run rfl rfl (run_indexS i2 rfl rfl rfl Tryd.underlying9 ((by first | omega | (simp only [lens]; omega)))) ?_)
            refine wl_opG (k := 13) (k' := 14) rfl rfl ⟨_, _, _, rfl, rfl, rfl, rfl⟩ rfl (wo_run rfl rfl (run_move rfl rfl) ?_)
            refine wl_opG (k := 14) (k' := 15) rfl rfl ⟨_, _, _, rfl, rfl, rfl, rfl⟩ rfl (wo_run rfl rfl (run_neqB (p := (ga s i2)) (q := 44) rfl rfl rfl) ?_)
            refine wlo 15 16 rfl rfl rfl (wo_run rfl rfl (run_pickF rfl rfl rfl) ?_)
            refine wl_end rfl ?_
            refine nm_sub [(0, _), (1, _), (4, _), (6, _), (7, _), (8, _), (101, _)] ⟨rfl, rfl, rfl, rfl, rfl, rfl, rfl, trivial⟩ ?_
            refine nm_thn ?_
            refine ws_condN crossIn_n55 crossIn_n56 rfl rfl rfl rfl (fun hb101 => ?_) (fun hb101 => ?_)
            ·replace hb101 := of_decide_eq_true hb101
             refine ws_seqN crossIn_n57 crossIn_n58 rfl rfl rfl ?_
             refine ws_region rfl ?_
             refine wlo 0 1 rfl rfl rfl (wo_run rfl rfl (run_build (l := [_, _, _, _, _]) rfl rfl st49 rfl rfl) ?_)
             refine wlm 1 2 rfl rfl rfl rfl rfl rfl rfl ?_
             refine wlo 2 3 rfl rfl rfl (wo_storeB (i := 1) (us := [_, _, _, _, _]) (l' := [_, _, _, _, _]) (H' := [_, _]) rfl rfl S10 rfl rfl rfl rfl sz49 rfl rfl rfl rfl ?_)
             intro w17 S19; clear S10
             refine wla 3 4 rfl rfl rfl rfl rfl rfl rfl ?_
             refine wl_end rfl ?_
             refine nm_sub [(4, _), (5, _)] ⟨rfl, rfl, trivial⟩ ?_
             refine nm_thn ?_
             refine ws_ret hC [_, _] rfl rfl ⟨⟨_, rfl, loadVarN (us := [_, _, _, _, _]) Tryd.underlying49 rfl sz49 (S19.boxcs (i := 1) rfl ⟨rfl, rfl, rfl, rfl, rfl, trivial⟩)⟩, rfl, trivial⟩ ?_
             refine ⟨_, rfl, _, (hle1.trans hle2).trans hle3, (S19.pick [] [] (by decide) trivial), ?_⟩
             exact (by rw [(crR_no (j + 1) (by omega) (cI_stop hci (by first | exact if_pos (by omega) | exact if_neg (by omega)) hq (by first | exact .inl (by omega) | exact .inr (.inl (by omega)) | exact .inr (.inr (by assumption)))))]; rfl)
            ·replace hb101 := of_decide_eq_false hb101
             refine ws_skip rfl ?_
             refine nm_sub [(0, _), (1, _), (4, _), (6, _), (7, _), (8, _)] ⟨rfl, rfl, rfl, rfl, rfl, rfl, trivial⟩ ?_
             refine nm_thn ?_
             refine ws_seqN crossIn_n59 crossIn_n60 rfl rfl rfl ?_
             refine ws_region rfl ?_
             refine wlm 0 1 rfl rfl rfl rfl rfl rfl rfl ?_
             refine wlo 1 2 rfl rfl rfl (wo_run rfl rfl (run_add rfl rfl rfl (by first | omega | (simp only [lens]; omega))) ?_)
             refine wla 2 3 rfl rfl rfl rfl rfl rfl rfl ?_
             refine wl_end rfl ?_
             refine nm_sub [(0, _), (1, _), (4, _), (6, _), (7, _), (8, _)] ⟨rfl, rfl, rfl, rfl, rfl, rfl, trivial⟩ ?_
             refine nm_thn ?_
             refine ws_region rfl ?_
             refine wlm 0 1 rfl rfl rfl rfl rfl rfl rfl ?_
             refine wlm 1 2 rfl rfl rfl rfl rfl rfl rfl ?_
             refine wlo 2 3 rfl rfl rfl (wo_buildSlice1 (C := cdInt) (l := [_]) rfl rfl rfl rfl sl75 rfl rfl rfl rfl S10 ?_)
             intro gb3 w18 S20; clear S10
             refine wlo 3 4 rfl rfl rfl (wo_append1 (C := cdInt) (i := 1) (q := 0) (x : Int) rfl rfl rfl rfl rfl rfl rfl rfl sl75 S20 rfl rfl rfl (by show (_ + 1) * 8 ≤ _; first | omega | (simp only [lens]; omega)) ?_)
             intro vro2 w19 S21; clear S20
             have S22 := S21.pick [1, 2] [_, _] (by decide) ⟨rfl, rfl, trivial⟩; clear S21
             refine wla 4 5 rfl rfl rfl rfl rfl rfl rfl ?_
             refine wl_end rfl ?_
             refine nm_blk ?_
             refine nm_lp ?_
             intro ax_ hax_
             refine ⟨_, ?hq7m, ⟨j + 1, i2 + 1, l ++ [(x : Int)], _, _, (hle2.trans hle3), rfl, hax_.sub ⟨rfl, rfl, rfl, rfl, rfl, trivial⟩, S22.pick [0, 1] [_, _] (by decide) ⟨rfl, rfl, trivial⟩, ?hq7f0, ?hq7f1, ?hq7f2, ?hq7f3⟩⟩
             case hq7f0 => omega
             case hq7f1 => (rw [List.length_append]; simp only [List.length_cons, List.length_nil]; omega)
             case hq7f2 => first | exact cI_go (c := _) hci (by first | rw [if_pos (by omega)] | rw [if_neg (by omega)]) hq (by omega) (by omega) (by first | assumption | exact Classical.not_not.1 (by assumption)) | (exfalso; omega)
             case hq7f3 => omega
             case hq7m => (rw [List.length_append]; simp only [List.length_cons, List.length_nil]; omega)
       ·replace hg67 := of_decide_eq_false hg67
        refine wl_no (k := 17) (k' := 18) (d := 68) rfl rfl ⟨_, _, _, rfl, rfl, rfl, rfl⟩ rfl rfl ?_
        refine wl_no (k := 18) (k' := 19) (d := 69) rfl rfl ⟨_, _, _, rfl, rfl, rfl, rfl⟩ rfl rfl ?_
        refine wl_no (k := 19) (k' := 20) (d := 70) rfl rfl ⟨_, _, _, rfl, rfl, rfl, rfl⟩ rfl rfl ?_
        refine wl_no (k := 20) (k' := 21) (d := 71) rfl rfl ⟨_, _, _, rfl, rfl, rfl, rfl⟩ rfl rfl ?_
        refine wlo 21 22 rfl rfl rfl (wo_run rfl rfl (run_pickF rfl rfl rfl) ?_)
        refine wl_end rfl ?_
        refine nm_sub [(0, _), (1, _), (4, _), (6, _), (7, _), (8, _), (9, _), (72, _)] ⟨rfl, rfl, rfl, rfl, rfl, rfl, rfl, rfl, trivial⟩ ?_
        refine nm_thn ?_
        refine ws_condFN crossIn_n39 rfl rfl rfl ?_
        refine ws_exit rfl rfl ?_
        refine nm_sub [(0, _), (1, _), (4, _), (6, _), (7, _), (8, _), (9, _)] ⟨rfl, rfl, rfl, rfl, rfl, rfl, rfl, trivial⟩ ?_
        refine nm_thn ?_
        refine ws_seqN crossIn_n43 crossIn_n44 rfl rfl rfl ?_
        have hq : whA s 3 i 0 = (x, i2) := (by rw [← hwh]; first | (rw [show f = 0 by omega]; rfl) | exact whA_stop (by omega))
        refine ws_region rfl ?_
        refine wla 0 1 rfl rfl rfl rfl rfl rfl rfl ?_
        refine wl_end rfl ?_
        refine nm_thn ?_
        refine ws_seqN crossIn_n45 crossIn_n46 rfl rfl rfl ?_
        refine ws_seqN crossIn_n47 crossIn_n48 rfl rfl rfl ?_
        refine ws_region rfl ?_
        refine wlm 0 1 rfl rfl rfl rfl rfl rfl rfl ?_
        refine wlo 1 2 rfl rfl rfl (wo_run rfl rfl (run_lenR (C := cdInt) (i := 0) rfl rfl rfl rfl rfl rfl sl75 S10 rfl) ?_)
        refine wlo 2 3 rfl rfl rfl (wo_run rfl rfl (run_eql rfl rfl rfl) ?_)
        refine wl_end rfl ?_
        refine nm_sub [(0, _), (1, _), (4, _), (6, _), (7, _), (8, _), (9, _), (10, _), (85, _)] ⟨rfl, rfl, rfl, rfl, rfl, rfl, rfl, rfl, rfl, trivial⟩ ?_
        refine nm_thn ?_
        refine ws_condN crossIn_n49 crossIn_n50 rfl rfl rfl rfl (fun hb85 => ?_) (fun hb85 => ?_)
        ·replace hb85 := of_decide_eq_true hb85
         refine ws_region rfl ?_
         refine wla 0 1 rfl rfl rfl rfl rfl rfl rfl ?_
         refine wl_end rfl ?_
         refine nm_sub [(0, _), (1, _), (4, _), (6, _), (7, _), (8, _), (9, _), (10, _)] ⟨rfl, rfl, rfl, rfl, rfl, rfl, rfl, rfl, trivial⟩ ?_
         refine nm_thn ?_
         refine ws_seqN crossIn_n51 crossIn_n52 rfl rfl rfl ?_
         refine ws_seqN crossIn_n53 crossIn_n54 rfl rfl rfl ?_
         refine ws_region rfl ?_
         refine wlm 0 1 rfl rfl rfl rfl rfl rfl rfl ?_
         refine wlm 1 2 rfl rfl rfl rfl rfl rfl rfl ?_
         refine wlo 2 3 rfl rfl rfl (wo_run rfl rfl (run_eql rfl rfl rfl) ?_)
         refine wlm 3 4 rfl rfl rfl rfl rfl rfl rfl ?_
         refine wl_split (t := 89) rfl (fun hg89 => ?_) (fun hg89 => ?_)
         ·replace hg89 := of_decide_eq_true hg89
          refine wl_no (k := 4) (k' := 5) (d := 90) rfl rfl ⟨_, _, _, rfl, rfl, rfl, rfl⟩ rfl rfl ?_
          refine wl_no (k := 5) (k' := 6) (d := 91) rfl rfl ⟨_, _, _, rfl, rfl, rfl, rfl⟩ rfl rfl ?_
          refine wl_no (k := 6) (k' := 7) (d := 92) rfl rfl ⟨_, _, _, rfl, rfl, rfl, rfl⟩ rfl rfl ?_
          refine wl_no (k := 7) (k' := 8) (d := 93) rfl rfl ⟨_, _, _, rfl, rfl, rfl, rfl⟩ rfl rfl ?_
          refine wlo 8 9 rfl rfl rfl (wo_run rfl rfl (run_pickT rfl rfl rfl) ?_)
          refine wlm 9 10 rfl rfl rfl rfl rfl rfl rfl ?_
          refine wl_no (k := 10) (k' := 11) (d := 96) rfl rfl ⟨_, _, _, rfl, rfl, rfl, rfl⟩ rfl rfl ?_
          refine wl_no (k := 11) (k' := 12) (d := 97) rfl rfl ⟨_, _, _, rfl, rfl, rfl, rfl⟩ rfl rfl ?_
          refine wl_no (k := 12) (k' := 13) (d := 98) rfl rfl ⟨_, _, _, rfl, rfl, rfl, rfl⟩ rfl rfl ?_
          refine wl_no (k := 13) (k' := 14) (d := 99) rfl rfl ⟨_, _, _, rfl, rfl, rfl, rfl⟩ rfl rfl ?_
          refine wl_no (k := 14) (k' := 15) (d := 100) rfl rfl ⟨_, _, _, rfl, rfl, rfl, rfl⟩ rfl rfl ?_
          refine wlo 15 16 rfl rfl rfl (wo_run rfl rfl (run_pickT rfl rfl rfl) ?_)
          refine wl_end rfl ?_
          refine nm_sub [(0, _), (1, _), (4, _), (6, _), (7, _), (8, _), (101, _)] ⟨rfl, rfl, rfl, rfl, rfl, rfl, rfl, trivial⟩ ?_
          refine nm_thn ?_
          refine ws_condTN crossIn_n55 rfl rfl rfl ?_
          refine ws_seqN crossIn_n57 crossIn_n58 rfl rfl rfl ?_
          refine ws_region rfl ?_
          refine wlo 0 1 rfl rfl rfl (wo_run rfl rfl (run_build (l := [_, _, _, _, _]) rfl rfl st49 rfl rfl) ?_)
          refine wlm 1 2 rfl rfl rfl rfl rfl rfl rfl ?_
          refine wlo 2 3 rfl rfl rfl (wo_storeB (i := 1) (us := [_, _, _, _, _]) (l' := [_, _, _, _, _]) (H' := [_, _]) rfl rfl S10 rfl rfl rfl rfl sz49 rfl rfl rfl rfl ?_)
          intro w20 S23; clear S10
          refine wla 3 4 rfl rfl rfl rfl rfl rfl rfl ?_
          refine wl_end rfl ?_
          refine nm_sub [(4, _), (5, _)] ⟨rfl, rfl, trivial⟩ ?_
          refine nm_thn ?_
          refine ws_ret hC [_, _] rfl rfl ⟨⟨_, rfl, loadVarN (us := [_, _, _, _, _]) Tryd.underlying49 rfl sz49 (S23.boxcs (i := 1) rfl ⟨rfl, rfl, rfl, rfl, rfl, trivial⟩)⟩, rfl, trivial⟩ ?_
          refine ⟨_, rfl, _, (hle1.trans hle2).trans hle3, (S23.pick [] [] (by decide) trivial), ?_⟩
          exact (by rw [(crR_no (j + 1) (by omega) (cI_stop hci (by first | exact if_pos (by omega) | exact if_neg (by omega)) hq (by first | exact .inl (by omega) | exact .inr (.inl (by omega)) | exact .inr (.inr (by assumption)))))]; rfl)
         ·replace hg89 := of_decide_eq_false hg89
          refine wl_opG (k := 4) (k' := 5) rfl rfl ⟨_, _, _, rfl, rfl, rfl, rfl⟩ rfl (wo_run rfl rfl (run_move rfl rfl) ?_)
          refine wl_opG (k := 5) (k' := 6) rfl rfl ⟨_, _, _, rfl, rfl, rfl, rfl⟩ rfl (wo_run rfl rfl (run_move rfl rfl) ?_)
          refine wl_opG (k := 6) (k' := 7) rfl rfl ⟨_, _, _, rfl, rfl, rfl, rfl⟩ rfl (wo_run rfl rfl (run_lenS rfl rfl rfl rfl rfl rfl Tryd.underlying9) ?_)
          refine wl_opG (k := 7) (k' := 8) rfl rfl ⟨_, _, _, rfl, rfl, rfl, rfl⟩ rfl (wo_run rfl rfl (run_geq rfl rfl rfl) ?_)
          refine wlo 8 9 rfl rfl rfl (wo_run rfl rfl (run_pickF rfl rfl rfl) ?_)
          refine wlm 9 10 rfl rfl rfl rfl rfl rfl rfl ?_
          refine wl_split (t := 95) rfl (fun hg95 => ?_) (fun hg95 => ?_)
          ·replace hg95 := of_decide_eq_true hg95
           refine wl_no (k := 10) (k' := 11) (d := 96) rfl rfl ⟨_, _, _, rfl, rfl, rfl, rfl⟩ rfl rfl ?_
           refine wl_no (k := 11) (k' := 12) (d := 97) rfl rfl ⟨_, _, _, rfl, rfl, rfl, rfl⟩ rfl rfl ?_
           refine wl_no (k := 12) (k' := 13) (d := 98) rfl rfl ⟨_, _, _, rfl, rfl, rfl, rfl⟩ rfl rfl ?_
           refine wl_no (k := 13) (k' := 14) (d := 99) rfl rfl ⟨_, _, _, rfl, rfl, rfl, rfl⟩ rfl rfl ?_
           refine wl_no (k := 14) (k' := 15) (d := 100) rfl rfl ⟨_, _, _, rfl, rfl, rfl, rfl⟩ rfl rfl ?_
           refine wlo 15 16 rfl rfl rfl (wo_run rfl rfl (run_pickT rfl rfl rfl) ?_)
           refine wl_end rfl ?_
           refine nm_sub [(0, _), (1, _), (4, _), (6, _), (7, _), (8, _), (101, _)] ⟨rfl, rfl, rfl, rfl, rfl, rfl, rfl, trivial⟩ ?_
           refine nm_thn ?_
           refine ws_condTN crossIn_n55 rfl rfl rfl ?_
           refine ws_seqN crossIn_n57 crossIn_n58 rfl rfl rfl ?_
           refine ws_region rfl ?_
           refine wlo 0 1 rfl rfl rfl (wo_run rfl rfl (run_build (l := [_, _, _, _, _]) rfl rfl st49 rfl rfl) ?_)
           refine wlm 1 2 rfl rfl rfl rfl rfl rfl rfl ?_
           refine wlo 2 3 rfl rfl rfl (wo_storeB (i := 1) (us := [_, _, _, _, _]) (l' := [_, _, _, _, _]) (H' := [_, _]) rfl rfl S10 rfl rfl rfl rfl sz49 rfl rfl rfl rfl ?_)
           intro w21 S24; clear S10
           refine wla 3 4 rfl rfl rfl rfl rfl rfl rfl ?_
           refine wl_end rfl ?_
           refine nm_sub [(4, _), (5, _)] ⟨rfl, rfl, trivial⟩ ?_
           refine nm_thn ?_
           refine ws_ret hC [_, _] rfl rfl ⟨⟨_, rfl, loadVarN (us := [_, _, _, _, _]) Tryd.underlying49 rfl sz49 (S24.boxcs (i := 1) rfl ⟨rfl, rfl, rfl, rfl, rfl, trivial⟩)⟩, rfl, trivial⟩ ?_
           refine ⟨_, rfl, _, (hle1.trans hle2).trans hle3, (S24.pick [] [] (by decide) trivial), ?_⟩
           exact (by rw [(crR_no (j + 1) (by omega) (cI_stop hci (by first | exact if_pos (by omega) | exact if_neg (by omega)) hq (by first | exact .inl (by omega) | exact .inr (.inl (by omega)) | exact .inr (.inr (by assumption)))))]; rfl)
          ·replace hg95 := of_decide_eq_false hg95
           refine wl_opG (k := 10) (k' := 11) rfl rfl ⟨_, _, _, rfl, rfl, rfl, rfl⟩ rfl (wo_run rfl rfl (run_move rfl rfl) ?_)
           refine wl_opG (k := 11) (k' := 12) rfl rfl ⟨_, _, _, rfl, rfl, rfl, rfl⟩ rfl (wo_run rfl rfl (run_move rfl rfl) ?_)
           refine wl_opG (k := 12) (k' := 13) rfl rfl ⟨_, _, _, rfl, rfl, rfl, rfl⟩ rfl (wo_run rfl rfl (run_indexS i2 rfl rfl rfl Tryd.underlying9 ((by first | omega | (simp only [lens]; omega)))) ?_)
           refine wl_opG (k := 13) (k' := 14) rfl rfl ⟨_, _, _, rfl, rfl, rfl, rfl⟩ rfl (wo_run rfl rfl (run_move rfl rfl) ?_)
           refine wl_opG (k := 14) (k' := 15) rfl rfl ⟨_, _, _, rfl, rfl, rfl, rfl⟩ rfl (wo_run rfl rfl (run_neqB (p := (ga s i2)) (q := 93) rfl rfl rfl) ?_)
           refine wlo 15 16 rfl rfl rfl (wo_run rfl rfl (run_pickF rfl rfl rfl) ?_)
           refine wl_end rfl ?_
           refine nm_sub [(0, _), (1, _), (4, _), (6, _), (7, _), (8, _), (101, _)] ⟨rfl, rfl, rfl, rfl, rfl, rfl, rfl, trivial⟩ ?_
           refine nm_thn ?_
           refine ws_condN crossIn_n55 crossIn_n56 rfl rfl rfl rfl (fun hb101 => ?_) (fun hb101 => ?_)
           ·replace hb101 := of_decide_eq_true hb101
            refine ws_seqN crossIn_n57 crossIn_n58 rfl rfl rfl ?_
            refine ws_region rfl ?_
            refine wlo 0 1 rfl rfl rfl (wo_run rfl rfl (run_build (l := [_, _, _, _, _]) rfl rfl st49 rfl rfl) ?_)
            refine wlm 1 2 rfl rfl rfl rfl rfl rfl rfl ?_
            refine wlo 2 3 rfl rfl rfl (wo_storeB (i := 1) (us := [_, _, _, _, _]) (l' := [_, _, _, _, _]) (H' := [_, _]) rfl rfl S10 rfl rfl rfl rfl sz49 rfl rfl rfl rfl ?_)
            intro w22 S25; clear S10
            refine wla 3 4 rfl rfl rfl rfl rfl rfl rfl ?_
            refine wl_end rfl ?_
            refine nm_sub [(4, _), (5, _)] ⟨rfl, rfl, trivial⟩ ?_
            refine nm_thn ?_
            refine ws_ret hC [_, _] rfl rfl ⟨⟨_, rfl, loadVarN (us := [_, _, _, _, _]) Tryd.underlying49 rfl sz49 (S25.boxcs (i := 1) rfl ⟨rfl, rfl, rfl, rfl, rfl, trivial⟩)⟩, rfl, trivial⟩ ?_
            refine ⟨_, rfl, _, (hle1.trans hle2).trans hle3, (S25.pick [] [] (by decide) trivial), ?_⟩
            exact (by rw [(crR_no (j + 1) (by omega) (cI_stop hci (by first | exact if_pos (by omega) | exact if_neg (by omega)) hq (by first | exact .inl (by omega) | exact .inr (.inl (by omega)) | exact .inr (.inr (by assumption)))))]; rfl)
           ·replace hb101 := of_decide_eq_false hb101
            refine ws_skip rfl ?_
            refine nm_sub [(0, _), (1, _), (4, _), (6, _), (7, _), (8, _)] ⟨rfl, rfl, rfl, rfl, rfl, rfl, trivial⟩ ?_
            refine nm_thn ?_
            refine ws_seqN crossIn_n59 crossIn_n60 rfl rfl rfl ?_
            refine ws_region rfl ?_
            refine wlm 0 1 rfl rfl rfl rfl rfl rfl rfl ?_
            refine wlo 1 2 rfl rfl rfl (wo_run rfl rfl (run_add rfl rfl rfl (by first | omega | (simp only [lens]; omega))) ?_)
            refine wla 2 3 rfl rfl rfl rfl rfl rfl rfl ?_
            refine wl_end rfl ?_
            refine nm_sub [(0, _), (1, _), (4, _), (6, _), (7, _), (8, _)] ⟨rfl, rfl, rfl, rfl, rfl, rfl, trivial⟩ ?_
            refine nm_thn ?_
            refine ws_region rfl ?_
            refine wlm 0 1 rfl rfl rfl rfl rfl rfl rfl ?_
            refine wlm 1 2 rfl rfl rfl rfl rfl rfl rfl ?_
            refine wlo 2 3 rfl rfl rfl (wo_buildSlice1 (C := cdInt) (l := [_]) rfl rfl rfl rfl sl75 rfl rfl rfl rfl S10 ?_)
            intro gb4 w23 S26; clear S10
            refine wlo 3 4 rfl rfl rfl (wo_append1 (C := cdInt) (i := 1) (q := 0) (x : Int) rfl rfl rfl rfl rfl rfl rfl rfl sl75 S26 rfl rfl rfl (by show (_ + 1) * 8 ≤ _; first | omega | (simp only [lens]; omega)) ?_)
            intro vro3 w24 S27; clear S26
            have S28 := S27.pick [1, 2] [_, _] (by decide) ⟨rfl, rfl, trivial⟩; clear S27
            refine wla 4 5 rfl rfl rfl rfl rfl rfl rfl ?_
            refine wl_end rfl ?_
            refine nm_blk ?_
            refine nm_lp ?_
            intro ax_ hax_
            refine ⟨_, ?hq8m, ⟨j + 1, i2 + 1, l ++ [(x : Int)], _, _, (hle2.trans hle3), rfl, hax_.sub ⟨rfl, rfl, rfl, rfl, rfl, trivial⟩, S28.pick [0, 1] [_, _] (by decide) ⟨rfl, rfl, trivial⟩, ?hq8f0, ?hq8f1, ?hq8f2, ?hq8f3⟩⟩
            case hq8f0 => omega
            case hq8f1 => (rw [List.length_append]; simp only [List.length_cons, List.length_nil]; omega)
            case hq8f2 => first | exact cI_go (c := _) hci (by first | rw [if_pos (by omega)] | rw [if_neg (by omega)]) hq (by omega) (by omega) (by first | assumption | exact Classical.not_not.1 (by assumption)) | (exfalso; omega)
            case hq8f3 => omega
            case hq8m => (rw [List.length_append]; simp only [List.length_cons, List.length_nil]; omega)
        ·replace hb85 := of_decide_eq_false hb85
         refine ws_skip rfl ?_
         refine nm_sub [(0, _), (1, _), (4, _), (6, _), (7, _), (8, _), (9, _), (10, _)] ⟨rfl, rfl, rfl, rfl, rfl, rfl, rfl, rfl, trivial⟩ ?_
         refine nm_thn ?_
         refine ws_seqN crossIn_n51 crossIn_n52 rfl rfl rfl ?_
         refine ws_seqN crossIn_n53 crossIn_n54 rfl rfl rfl ?_
         refine ws_region rfl ?_
         refine wlm 0 1 rfl rfl rfl rfl rfl rfl rfl ?_
         refine wlm 1 2 rfl rfl rfl rfl rfl rfl rfl ?_
         refine wlo 2 3 rfl rfl rfl (wo_run rfl rfl (run_eql rfl rfl rfl) ?_)
         refine wlm 3 4 rfl rfl rfl rfl rfl rfl rfl ?_
         refine wl_split (t := 89) rfl (fun hg89 => ?_) (fun hg89 => ?_)
         ·replace hg89 := of_decide_eq_true hg89
          refine wl_no (k := 4) (k' := 5) (d := 90) rfl rfl ⟨_, _, _, rfl, rfl, rfl, rfl⟩ rfl rfl ?_
          refine wl_no (k := 5) (k' := 6) (d := 91) rfl rfl ⟨_, _, _, rfl, rfl, rfl, rfl⟩ rfl rfl ?_
          refine wl_no (k := 6) (k' := 7) (d := 92) rfl rfl ⟨_, _, _, rfl, rfl, rfl, rfl⟩ rfl rfl ?_
          refine wl_no (k := 7) (k' := 8) (d := 93) rfl rfl ⟨_, _, _, rfl, rfl, rfl, rfl⟩ rfl rfl ?_
          refine wlo 8 9 rfl rfl rfl (wo_run rfl rfl (run_pickT rfl rfl rfl) ?_)
          refine wlm 9 10 rfl rfl rfl rfl rfl rfl rfl ?_
          refine wl_no (k := 10) (k' := 11) (d := 96) rfl rfl ⟨_, _, _, rfl, rfl, rfl, rfl⟩ rfl rfl ?_
          refine wl_no (k := 11) (k' := 12) (d := 97) rfl rfl ⟨_, _, _, rfl, rfl, rfl, rfl⟩ rfl rfl ?_
          refine wl_no (k := 12) (k' := 13) (d := 98) rfl rfl ⟨_, _, _, rfl, rfl, rfl, rfl⟩ rfl rfl ?_
          refine wl_no (k := 13) (k' := 14) (d := 99) rfl rfl ⟨_, _, _, rfl, rfl, rfl, rfl⟩ rfl rfl ?_
          refine wl_no (k := 14) (k' := 15) (d := 100) rfl rfl ⟨_, _, _, rfl, rfl, rfl, rfl⟩ rfl rfl ?_
          refine wlo 15 16 rfl rfl rfl (wo_run rfl rfl (run_pickT rfl rfl rfl) ?_)
          refine wl_end rfl ?_
          refine nm_sub [(0, _), (1, _), (4, _), (6, _), (7, _), (8, _), (101, _)] ⟨rfl, rfl, rfl, rfl, rfl, rfl, rfl, trivial⟩ ?_
          refine nm_thn ?_
          refine ws_condTN crossIn_n55 rfl rfl rfl ?_
          refine ws_seqN crossIn_n57 crossIn_n58 rfl rfl rfl ?_
          refine ws_region rfl ?_
          refine wlo 0 1 rfl rfl rfl (wo_run rfl rfl (run_build (l := [_, _, _, _, _]) rfl rfl st49 rfl rfl) ?_)
          refine wlm 1 2 rfl rfl rfl rfl rfl rfl rfl ?_
          refine wlo 2 3 rfl rfl rfl (wo_storeB (i := 1) (us := [_, _, _, _, _]) (l' := [_, _, _, _, _]) (H' := [_, _]) rfl rfl S10 rfl rfl rfl rfl sz49 rfl rfl rfl rfl ?_)
          intro w25 S29; clear S10
          refine wla 3 4 rfl rfl rfl rfl rfl rfl rfl ?_
          refine wl_end rfl ?_
          refine nm_sub [(4, _), (5, _)] ⟨rfl, rfl, trivial⟩ ?_
          refine nm_thn ?_
          refine ws_ret hC [_, _] rfl rfl ⟨⟨_, rfl, loadVarN (us := [_, _, _, _, _]) Tryd.underlying49 rfl sz49 (S29.boxcs (i := 1) rfl ⟨rfl, rfl, rfl, rfl, rfl, trivial⟩)⟩, rfl, trivial⟩ ?_
          refine ⟨_, rfl, _, (hle1.trans hle2).trans hle3, (S29.pick [] [] (by decide) trivial), ?_⟩
          exact (by rw [(crR_no (j + 1) (by omega) (cI_stop hci (by first | exact if_pos (by omega) | exact if_neg (by omega)) hq (by first | exact .inl (by omega) | exact .inr (.inl (by omega)) | exact .inr (.inr (by assumption)))))]; rfl)
         ·replace hg89 := of_decide_eq_false hg89
          refine wl_opG (k := 4) (k' := 5) rfl rfl ⟨_, _, _, rfl, rfl, rfl, rfl⟩ rfl (wo_run rfl rfl (run_move rfl rfl) ?_)
          refine wl_opG (k := 5) (k' := 6) rfl rfl ⟨_, _, _, rfl, rfl, rfl, rfl⟩ rfl (wo_run rfl rfl (run_move rfl rfl) ?_)
          refine wl_opG (k := 6) (k' := 7) rfl rfl ⟨_, _, _, rfl, rfl, rfl, rfl⟩ rfl (wo_run rfl rfl (run_lenS rfl rfl rfl rfl rfl rfl Tryd.underlying9) ?_)
          refine wl_opG (k := 7) (k' := 8) rfl rfl ⟨_, _, _, rfl, rfl, rfl, rfl⟩ rfl (wo_run rfl rfl (run_geq rfl rfl rfl) ?_)
          refine wlo 8 9 rfl rfl rfl (wo_run rfl rfl (run_pickF rfl rfl rfl) ?_)
          refine wlm 9 10 rfl rfl rfl rfl rfl rfl rfl ?_
          refine wl_split (t := 95) rfl (fun hg95 => ?_) (fun hg95 => ?_)
          ·replace hg95 := of_decide_eq_true hg95
           refine wl_no (k := 10) (k' := 11) (d := 96) rfl rfl ⟨_, _, _, rfl, rfl, rfl, rfl⟩ rfl rfl ?_
           refine wl_no (k := 11) (k' := 12) (d := 97) rfl rfl ⟨_, _, _, rfl, rfl, rfl, rfl⟩ rfl rfl ?_
           refine wl_no (k := 12) (k' := 13) (d := 98) rfl rfl ⟨_, _, _, rfl, rfl, rfl, rfl⟩ rfl rfl ?_
           refine wl_no (k := 13) (k' := 14) (d := 99) rfl rfl ⟨_, _, _, rfl, rfl, rfl, rfl⟩ rfl rfl ?_
           refine wl_no (k := 14) (k' := 15) (d := 100) rfl rfl ⟨_, _, _, rfl, rfl, rfl, rfl⟩ rfl rfl ?_
           refine wlo 15 16 rfl rfl rfl (wo_run rfl rfl (run_pickT rfl rfl rfl) ?_)
           refine wl_end rfl ?_
           refine nm_sub [(0, _), (1, _), (4, _), (6, _), (7, _), (8, _), (101, _)] ⟨rfl, rfl, rfl, rfl, rfl, rfl, rfl, trivial⟩ ?_
           refine nm_thn ?_
           refine ws_condTN crossIn_n55 rfl rfl rfl ?_
           refine ws_seqN crossIn_n57 crossIn_n58 rfl rfl rfl ?_
           refine ws_region rfl ?_
           refine wlo 0 1 rfl rfl rfl (wo_run rfl rfl (run_build (l := [_, _, _, _, _]) rfl rfl st49 rfl rfl) ?_)
           refine wlm 1 2 rfl rfl rfl rfl rfl rfl rfl ?_
           refine wlo 2 3 rfl rfl rfl (wo_storeB (i := 1) (us := [_, _, _, _, _]) (l' := [_, _, _, _, _]) (H' := [_, _]) rfl rfl S10 rfl rfl rfl rfl sz49 rfl rfl rfl rfl ?_)
           intro w26 S30; clear S10
           refine wla 3 4 rfl rfl rfl rfl rfl rfl rfl ?_
           refine wl_end rfl ?_
           refine nm_sub [(4, _), (5, _)] ⟨rfl, rfl, trivial⟩ ?_
           refine nm_thn ?_
           refine ws_ret hC [_, _] rfl rfl ⟨⟨_, rfl, loadVarN (us := [_, _, _, _, _]) Tryd.underlying49 rfl sz49 (S30.boxcs (i := 1) rfl ⟨rfl, rfl, rfl, rfl, rfl, trivial⟩)⟩, rfl, trivial⟩ ?_
           refine ⟨_, rfl, _, (hle1.trans hle2).trans hle3, (S30.pick [] [] (by decide) trivial), ?_⟩
           exact (by rw [(crR_no (j + 1) (by omega) (cI_stop hci (by first | exact if_pos (by omega) | exact if_neg (by omega)) hq (by first | exact .inl (by omega) | exact .inr (.inl (by omega)) | exact .inr (.inr (by assumption)))))]; rfl)
          ·replace hg95 := of_decide_eq_false hg95
           refine wl_opG (k := 10) (k' := 11) rfl rfl ⟨_, _, _, rfl, rfl, rfl, rfl⟩ rfl (wo_run rfl rfl (run_move rfl rfl) ?_)
           refine wl_opG (k := 11) (k' := 12) rfl rfl ⟨_, _, _, rfl, rfl, rfl, rfl⟩ rfl (wo_run rfl rfl (run_move rfl rfl) ?_)
           refine wl_opG (k := 12) (k' := 13) rfl rfl ⟨_, _, _, rfl, rfl, rfl, rfl⟩ rfl (wo_run rfl rfl (run_indexS i2 rfl rfl rfl Tryd.underlying9 ((by first | omega | (simp only [lens]; omega)))) ?_)
           refine wl_opG (k := 13) (k' := 14) rfl rfl ⟨_, _, _, rfl, rfl, rfl, rfl⟩ rfl (wo_run rfl rfl (run_move rfl rfl) ?_)
           refine wl_opG (k := 14) (k' := 15) rfl rfl ⟨_, _, _, rfl, rfl, rfl, rfl⟩ rfl (wo_run rfl rfl (run_neqB (p := (ga s i2)) (q := 44) rfl rfl rfl) ?_)
           refine wlo 15 16 rfl rfl rfl (wo_run rfl rfl (run_pickF rfl rfl rfl) ?_)
           refine wl_end rfl ?_
           refine nm_sub [(0, _), (1, _), (4, _), (6, _), (7, _), (8, _), (101, _)] ⟨rfl, rfl, rfl, rfl, rfl, rfl, rfl, trivial⟩ ?_
           refine nm_thn ?_
           refine ws_condN crossIn_n55 crossIn_n56 rfl rfl rfl rfl (fun hb101 => ?_) (fun hb101 => ?_)
           ·replace hb101 := of_decide_eq_true hb101
            refine ws_seqN crossIn_n57 crossIn_n58 rfl rfl rfl ?_
            refine ws_region rfl ?_
            refine wlo 0 1 rfl rfl rfl (wo_run rfl rfl (run_build (l := [_, _, _, _, _]) rfl rfl st49 rfl rfl) ?_)
            refine wlm 1 2 rfl rfl rfl rfl rfl rfl rfl ?_
            refine wlo 2 3 rfl rfl rfl (wo_storeB (i := 1) (us := [_, _, _, _, _]) (l' := [_, _, _, _, _]) (H' := [_, _]) rfl rfl S10 rfl rfl rfl rfl sz49 rfl rfl rfl rfl ?_)
            intro w27 S31; clear S10
            refine wla 3 4 rfl rfl rfl rfl rfl rfl rfl ?_
            refine wl_end rfl ?_
            refine nm_sub [(4, _), (5, _)] ⟨rfl, rfl, trivial⟩ ?_
            refine nm_thn ?_
            refine ws_ret hC [_, _] rfl rfl ⟨⟨_, rfl, loadVarN (us := [_, _, _, _, _]) Tryd.underlying49 rfl sz49 (S31.boxcs (i := 1) rfl ⟨rfl, rfl, rfl, rfl, rfl, trivial⟩)⟩, rfl, trivial⟩ ?_
            refine ⟨_, rfl, _, (hle1.trans hle2).trans hle3, (S31.pick [] [] (by decide) trivial), ?_⟩
            exact (by rw [(crR_no (j + 1) (by omega) (cI_stop hci (by first | exact if_pos (by omega) | exact if_neg (by omega)) hq (by first | exact .inl (by omega) | exact .inr (.inl (by omega)) | exact .inr (.inr (by assumption)))))]; rfl)
           ·replace hb101 := of_decide_eq_false hb101
            refine ws_skip rfl ?_
            refine nm_sub [(0, _), (1, _), (4, _), (6, _), (7, _), (8, _)] ⟨rfl, rfl, rfl, rfl, rfl, rfl, trivial⟩ ?_
            refine nm_thn ?_
            refine ws_seqN crossIn_n59 crossIn_n60 rfl rfl rfl ?_
            refine ws_region rfl ?_
            refine wlm 0 1 rfl rfl rfl rfl rfl rfl rfl ?_
            refine wlo 1 2 rfl rfl rfl (wo_run rfl rfl (run_add rfl rfl rfl (by first | omega | (simp only [lens]; omega))) ?_)
            refine wla 2 3 rfl rfl rfl rfl rfl rfl rfl ?_
            refine wl_end rfl ?_
            refine nm_sub [(0, _), (1, _), (4, _), (6, _), (7, _), (8, _)] ⟨rfl, rfl, rfl, rfl, rfl, rfl, trivial⟩ ?_
            refine nm_thn ?_
            refine ws_region rfl ?_
            refine wlm 0 1 rfl rfl rfl rfl rfl rfl rfl ?_
            refine wlm 1 2 rfl rfl rfl rfl rfl rfl rfl ?_
            refine wlo 2 3 rfl rfl rfl (wo_buildSlice1 (C := cdInt) (l := [_]) rfl rfl rfl rfl sl75 rfl rfl rfl rfl S10 ?_)
            intro gb5 w28 S32; clear S10
            refine wlo 3 4 rfl rfl rfl (wo_append1 (C := cdInt) (i := 1) (q := 0) (x : Int) rfl rfl rfl rfl rfl rfl rfl rfl sl75 S32 rfl rfl rfl (by show (_ + 1) * 8 ≤ _; first | omega | (simp only [lens]; omega)) ?_)
            intro vro4 w29 S33; clear S32
            have S34 := S33.pick [1, 2] [_, _] (by decide) ⟨rfl, rfl, trivial⟩; clear S33
            refine wla 4 5 rfl rfl rfl rfl rfl rfl rfl ?_
            refine wl_end rfl ?_
            refine nm_blk ?_
            refine nm_lp ?_
            intro ax_ hax_
            refine ⟨_, ?hq9m, ⟨j + 1, i2 + 1, l ++ [(x : Int)], _, _, (hle2.trans hle3), rfl, hax_.sub ⟨rfl, rfl, rfl, rfl, rfl, trivial⟩, S34.pick [0, 1] [_, _] (by decide) ⟨rfl, rfl, trivial⟩, ?hq9f0, ?hq9f1, ?hq9f2, ?hq9f3⟩⟩
            case hq9f0 => omega
            case hq9f1 => (rw [List.length_append]; simp only [List.length_cons, List.length_nil]; omega)
            case hq9f2 => first | exact cI_go (c := _) hci (by first | rw [if_pos (by omega)] | rw [if_neg (by omega)]) hq (by omega) (by omega) (by first | assumption | exact Classical.not_not.1 (by assumption)) | (exfalso; omega)
            case hq9f3 => omega
            case hq9m => (rw [List.length_append]; simp only [List.length_cons, List.length_nil]; omega)
      ·replace hg61 := of_decide_eq_false hg61
       refine wl_no (k := 11) (k' := 12) (d := 62) rfl rfl ⟨_, _, _, rfl, rfl, rfl, rfl⟩ rfl rfl ?_
       refine wl_no (k := 12) (k' := 13) (d := 63) rfl rfl ⟨_, _, _, rfl, rfl, rfl, rfl⟩ rfl rfl ?_
       refine wl_no (k := 13) (k' := 14) (d := 64) rfl rfl ⟨_, _, _, rfl, rfl, rfl, rfl⟩ rfl rfl ?_
       refine wl_no (k := 14) (k' := 15) (d := 65) rfl rfl ⟨_, _, _, rfl, rfl, rfl, rfl⟩ rfl rfl ?_
       refine wlo 15 16 rfl rfl rfl (wo_run rfl rfl (run_pickF rfl rfl rfl) ?_)
       refine wlm 16 17 rfl rfl rfl rfl rfl rfl rfl ?_
       refine wl_no (k := 17) (k' := 18) (d := 68) rfl rfl ⟨_, _, _, rfl, rfl, rfl, rfl⟩ rfl rfl ?_
       refine wl_no (k := 18) (k' := 19) (d := 69) rfl rfl ⟨_, _, _, rfl, rfl, rfl, rfl⟩ rfl rfl ?_
       refine wl_no (k := 19) (k' := 20) (d := 70) rfl rfl ⟨_, _, _, rfl, rfl, rfl, rfl⟩ rfl rfl ?_
       refine wl_no (k := 20) (k' := 21) (d := 71) rfl rfl ⟨_, _, _, rfl, rfl, rfl, rfl⟩ rfl rfl ?_
       refine wlo 21 22 rfl rfl rfl (wo_run rfl rfl (run_pickF rfl rfl rfl) ?_)
       refine wl_end rfl ?_
       refine nm_sub [(0, _), (1, _), (4, _), (6, _), (7, _), (8, _), (9, _), (72, _)] ⟨rfl, rfl, rfl, rfl, rfl, rfl, rfl, rfl, trivial⟩ ?_
       refine nm_thn ?_
       refine ws_condFN crossIn_n39 rfl rfl rfl ?_
       refine ws_exit rfl rfl ?_
       refine nm_sub [(0, _), (1, _), (4, _), (6, _), (7, _), (8, _), (9, _)] ⟨rfl, rfl, rfl, rfl, rfl, rfl, rfl, trivial⟩ ?_
       refine nm_thn ?_
       refine ws_seqN crossIn_n43 crossIn_n44 rfl rfl rfl ?_
       have hq : whA s 3 i 0 = (x, i2) := (by rw [← hwh]; first | (rw [show f = 0 by omega]; rfl) | exact whA_stop (by omega))
       refine ws_region rfl ?_
       refine wla 0 1 rfl rfl rfl rfl rfl rfl rfl ?_
       refine wl_end rfl ?_
       refine nm_thn ?_
       refine ws_seqN crossIn_n45 crossIn_n46 rfl rfl rfl ?_
       refine ws_seqN crossIn_n47 crossIn_n48 rfl rfl rfl ?_
       refine ws_region rfl ?_
       refine wlm 0 1 rfl rfl rfl rfl rfl rfl rfl ?_
       refine wlo 1 2 rfl rfl rfl (wo_run rfl rfl (run_lenR (C := cdInt) (i := 0) rfl rfl rfl rfl rfl rfl sl75 S10 rfl) ?_)
       refine wlo 2 3 rfl rfl rfl (wo_run rfl rfl (run_eql rfl rfl rfl) ?_)
       refine wl_end rfl ?_
       refine nm_sub [(0, _), (1, _), (4, _), (6, _), (7, _), (8, _), (9, _), (10, _), (85, _)] ⟨rfl, rfl, rfl, rfl, rfl, rfl, rfl, rfl, rfl, trivial⟩ ?_
       refine nm_thn ?_
       refine ws_condN crossIn_n49 crossIn_n50 rfl rfl rfl rfl (fun hb85 => ?_) (fun hb85 => ?_)
       ·replace hb85 := of_decide_eq_true hb85
        refine ws_region rfl ?_
        refine wla 0 1 rfl rfl rfl rfl rfl rfl rfl ?_
        refine wl_end rfl ?_
        refine nm_sub [(0, _), (1, _), (4, _), (6, _), (7, _), (8, _), (9, _), (10, _)] ⟨rfl, rfl, rfl, rfl, rfl, rfl, rfl, rfl, trivial⟩ ?_
        refine nm_thn ?_
        refine ws_seqN crossIn_n51 crossIn_n52 rfl rfl rfl ?_
        refine ws_seqN crossIn_n53 crossIn_n54 rfl rfl rfl ?_
        refine ws_region rfl ?_
        refine wlm 0 1 rfl rfl rfl rfl rfl rfl rfl ?_
        refine wlm 1 2 rfl rfl rfl rfl rfl rfl rfl ?_
        refine wlo 2 3 rfl rfl rfl (wo_run rfl rfl (run_eql rfl rfl rfl) ?_)
        refine wlm 3 4 rfl rfl rfl rfl rfl rfl rfl ?_
        refine wl_split (t := 89) rfl (fun hg89 => ?_) (fun hg89 => ?_)
        ·replace hg89 := of_decide_eq_true hg89
         refine wl_no (k := 4) (k' := 5) (d := 90) rfl rfl ⟨_, _, _, rfl, rfl, rfl, rfl⟩ rfl rfl ?_
         refine wl_no (k := 5) (k' := 6) (d := 91) rfl rfl ⟨_, _, _, rfl, rfl, rfl, rfl⟩ rfl rfl ?_
         refine wl_no (k := 6) (k' := 7) (d := 92) rfl rfl ⟨_, _, _, rfl, rfl, rfl, rfl⟩ rfl rfl ?_
         refine wl_no (k := 7) (k' := 8) (d := 93) rfl rfl ⟨_, _, _, rfl, rfl, rfl, rfl⟩ rfl rfl ?_
         refine wlo 8 9 rfl rfl rfl (wo_run rfl rfl (run_pickT rfl rfl rfl) ?_)
         refine wlm 9 10 rfl rfl rfl rfl rfl rfl rfl ?_
         refine wl_no (k := 10) (k' := 11) (d := 96) rfl rfl ⟨_, _, _, rfl, rfl, rfl, rfl⟩ rfl rfl ?_
         refine wl_no (k := 11) (k' := 12) (d := 97) rfl rfl ⟨_, _, _, rfl, rfl, rfl, rfl⟩ rfl rfl ?_
         refine wl_no (k := 12) (k' := 13) (d := 98) rfl rfl ⟨_, _, _, rfl, rfl, rfl, rfl⟩ rfl rfl ?_
         refine wl_no (k := 13) (k' := 14) (d := 99) rfl rfl ⟨_, _, _, rfl, rfl, rfl, rfl⟩ rfl rfl ?_
         refine wl_no (k := 14) (k' := 15) (d := 100) rfl rfl ⟨_, _, _, rfl, rfl, rfl, rfl⟩ rfl rfl ?_
         refine wlo 15 16 rfl rfl rfl (wo_run rfl rfl (run_pickT rfl rfl rfl) ?_)
         refine wl_end rfl ?_
         refine nm_sub [(0, _), (1, _), (4, _), (6, _), (7, _), (8, _), (101, _)] ⟨rfl, rfl, rfl, rfl, rfl, rfl, rfl, trivial⟩ ?_
         refine nm_thn ?_
         refine ws_condTN crossIn_n55 rfl rfl rfl ?_
         refine ws_seqN crossIn_n57 crossIn_n58 rfl rfl rfl ?_
         refine ws_region rfl ?_
         refine wlo 0 1 rfl rfl rfl (wo_run rfl rfl (run_build (l := [_, _, _, _, _]) rfl rfl st49 rfl rfl) ?_)
         refine wlm 1 2 rfl rfl rfl rfl rfl rfl rfl ?_
         refine wlo 2 3 rfl rfl rfl (wo_storeB (i := 1) (us := [_, _, _, _, _]) (l' := [_, _, _, _, _]) (H' := [_, _]) rfl rfl S10 rfl rfl rfl rfl sz49 rfl rfl rfl rfl ?_)
         intro w30 S35; clear S10
         refine wla 3 4 rfl rfl rfl rfl rfl rfl rfl ?_
         refine wl_end rfl ?_
         refine nm_sub [(4, _), (5, _)] ⟨rfl, rfl, trivial⟩ ?_
         refine nm_thn ?_
         refine ws_ret hC [_, _] rfl rfl ⟨⟨_, rfl, loadVarN (us := [_, _, _, _, _]) Tryd.underlying49 rfl sz49 (S35.boxcs (i := 1) rfl ⟨rfl, rfl, rfl, rfl, rfl, trivial⟩)⟩, rfl, trivial⟩ ?_
         refine ⟨_, rfl, _, (hle1.trans hle2).trans hle3, (S35.pick [] [] (by decide) trivial), ?_⟩
         exact (by rw [(crR_no (j + 1) (by omega) (cI_stop hci (by first | exact if_pos (by omega) | exact if_neg (by omega)) hq (by first | exact .inl (by omega) | exact .inr (.inl (by omega)) | exact .inr (.inr (by assumption)))))]; rfl)
        ·replace hg89 := of_decide_eq_false hg89
         refine wl_opG (k := 4) (k' := 5) rfl rfl ⟨_, _, _, rfl, rfl, rfl, rfl⟩ rfl (wo_run rfl rfl (run_move rfl rfl) ?_)
         refine wl_opG (k := 5) (k' := 6) rfl rfl ⟨_, _, _, rfl, rfl, rfl, rfl⟩ rfl (wo_run rfl rfl (run_move rfl rfl) ?_)
         refine wl_opG (k := 6) (k' := 7) rfl rfl ⟨_, _, _, rfl, rfl, rfl, rfl⟩ rfl (wo_run rfl rfl (run_lenS rfl rfl rfl rfl rfl rfl Tryd.underlying9) ?_)
         refine wl_opG (k := 7) (k' := 8) rfl rfl ⟨_, _, _, rfl, rfl, rfl, rfl⟩ rfl (wo_run rfl rfl (run_geq rfl rfl rfl) ?_)
         refine wlo 8 9 rfl rfl rfl (wo_run rfl rfl (run_pickF rfl rfl rfl) ?_)
         refine wlm 9 10 rfl rfl rfl rfl rfl rfl rfl ?_
         refine wl_split (t := 95) rfl (fun hg95 => ?_) (fun hg95 => ?_)
         ·replace hg95 := of_decide_eq_true hg95
          refine wl_no (k := 10) (k' := 11) (d := 96) rfl rfl ⟨_, _, _, rfl, rfl, rfl, rfl⟩ rfl rfl ?_
          refine wl_no (k := 11) (k' := 12) (d := 97) rfl rfl ⟨_, _, _, rfl, rfl, rfl, rfl⟩ rfl rfl ?_
          refine wl_no (k := 12) (k' := 13) (d := 98) rfl rfl ⟨_, _, _, rfl, rfl, rfl, rfl⟩ rfl rfl ?_
          refine wl_no (k := 13) (k' := 14) (d := 99) rfl rfl ⟨_, _, _, rfl, rfl, rfl, rfl⟩ rfl rfl ?_
          refine wl_no (k := 14) (k' := 15) (d := 100) rfl rfl ⟨_, _, _, rfl, rfl, rfl, rfl⟩ rfl rfl ?_
          refine wlo 15 16 rfl rfl rfl (wo_run rfl rfl (run_pickT rfl rfl rfl) ?_)
          refine wl_end rfl ?_
          refine nm_sub [(0, _), (1, _), (4, _), (6, _), (7, _), (8, _), (101, _)] ⟨rfl, rfl, rfl, rfl, rfl, rfl, rfl, trivial⟩ ?_
          refine nm_thn ?_
          refine ws_condTN crossIn_n55 rfl rfl rfl ?_
          refine ws_seqN crossIn_n57 crossIn_n58 rfl rfl rfl ?_
          refine ws_region rfl ?_
          refine wlo 0 1 rfl rfl rfl (wo_run rfl rfl (run_build (l := [_, _, _, _, _]) rfl rfl st49 rfl rfl) ?_)
          refine wlm 1 2 rfl rfl rfl rfl rfl rfl rfl ?_
          refine wlo 2 3 rfl rfl rfl (wo_storeB (i := 1) (us := [_, _, _, _, _]) (l' := [_, _, _, _, _]) (H' := [_, _]) rfl rfl S10 rfl rfl rfl rfl sz49 rfl rfl rfl rfl ?_)
          intro w31 S36; clear S10
          refine wla 3 4 rfl rfl rfl rfl rfl rfl rfl ?_
          refine wl_end rfl ?_
          refine nm_sub [(4, _), (5, _)] ⟨rfl, rfl, trivial⟩ ?_
          refine nm_thn ?_
          refine ws_ret hC [_, _] rfl rfl ⟨⟨_, rfl, loadVarN (us := [_, _, _, _, _]) Tryd.underlying49 rfl sz49 (S36.boxcs (i := 1) rfl ⟨rfl, rfl, rfl, rfl, rfl, trivial⟩)⟩, rfl, trivial⟩ ?_
          refine ⟨_, rfl, _, (hle1.trans hle2).trans hle3, (S36.pick [] [] (by decide) trivial), ?_⟩
          exact (by rw [(crR_no (j + 1) (by omega) (cI_stop hci (by first | exact if_pos (by omega) | exact if_neg (by omega)) hq (by first | exact .inl (by omega) | exact .inr (.inl (by omega)) | exact .inr (.inr (by assumption)))))]; rfl)
         ·replace hg95 := of_decide_eq_false hg95
          refine wl_opG (k := 10) (k' := 11) rfl rfl ⟨_, _, _, rfl, rfl, rfl, rfl⟩ rfl (wo_run rfl rfl (run_move rfl rfl) ?_)
          refine wl_opG (k := 11) (k' := 12) rfl rfl ⟨_, _, _, rfl, rfl, rfl, rfl⟩ rfl (wo_run rfl rfl (run_move rfl rfl) ?_)
          refine wl_opG (k := 12) (k' := 13) rfl rfl ⟨_, _, _, rfl, rfl, rfl, rfl⟩ rfl (wo_run rfl rfl (run_indexS i2 rfl rfl rfl Tryd.underlying9 ((by first | omega | (simp only [lens]; omega)))) ?_)
          refine wl_opG (k := 13) (k' := 14) rfl rfl ⟨_, _, _, rfl, rfl, rfl, rfl⟩ rfl (wo_run rfl rfl (run_move rfl rfl) ?_)
          refine wl_opG (k := 14) (k' := 15) rfl rfl ⟨_, _, _, rfl, rfl, rfl, rfl⟩ rfl (wo_run rfl rfl (run_neqB (p := (ga s i2)) (q := 93) rfl rfl rfl) ?_)
          refine wlo 15 16 rfl rfl rfl (wo_run rfl rfl (run_pickF rfl rfl rfl) ?_)
          refine wl_end rfl ?_
          refine nm_sub [(0, _), (1, _), (4, _), (6, _), (7, _), (8, _), (101, _)] ⟨rfl, rfl, rfl, rfl, rfl, rfl, rfl, trivial⟩ ?_
          refine nm_thn ?_
          refine ws_condN crossIn_n55 crossIn_n56 rfl rfl rfl rfl (fun hb101 => ?_) (fun hb101 => ?_)
          ·replace hb101 := of_decide_eq_true hb101
           refine ws_seqN crossIn_n57 crossIn_n58 rfl rfl rfl ?_
           refine ws_region rfl ?_
           refine wlo 0 1 rfl rfl rfl (wo_run rfl rfl (run_build (l := [_, _, _, _, _]) rfl rfl st49 rfl rfl) ?_)
           refine wlm 1 2 rfl rfl rfl rfl rfl rfl rfl ?_
           refine wlo 2 3 rfl rfl rfl (wo_storeB (i := 1) (us := [_, _, _, _, _]) (l' := [_, _, _, _, _]) (H' := [_, _]) rfl rfl S10 rfl rfl rfl rfl sz49 rfl rfl rfl rfl ?_)
           intro w32 S37; clear S10
           refine wla 3 4 rfl rfl rfl rfl rfl rfl rfl ?_
           refine wl_end rfl ?_
           refine nm_sub [(4, _), (5, _)] ⟨rfl, rfl, trivial⟩ ?_
           refine nm_thn ?_
           refine ws_ret hC [_, _] rfl rfl ⟨⟨_, rfl, loadVarN (us := [_, _, _, _, _]) Tryd.underlying49 rfl sz49 (S37.boxcs (i := 1) rfl ⟨rfl, rfl, rfl, rfl, rfl, trivial⟩)⟩, rfl, trivial⟩ ?_
           refine ⟨_, rfl, _, (hle1.trans hle2).trans hle3, (S37.pick [] [] (by decide) trivial), ?_⟩
           exact (by rw [(crR_no (j + 1) (by omega) (cI_stop hci (by first | exact if_pos (by omega) | exact if_neg (by omega)) hq (by first | exact .inl (by omega) | exact .inr (.inl (by omega)) | exact .inr (.inr (by assumption)))))]; rfl)
          ·replace hb101 := of_decide_eq_false hb101
           refine ws_skip rfl ?_
           refine nm_sub [(0, _), (1, _), (4, _), (6, _), (7, _), (8, _)] ⟨rfl, rfl, rfl, rfl, rfl, rfl, trivial⟩ ?_
           refine nm_thn ?_
           refine ws_seqN crossIn_n59 crossIn_n60 rfl rfl rfl ?_
           refine ws_region rfl ?_
           refine wlm 0 1 rfl rfl rfl rfl rfl rfl rfl ?_
           refine wlo 1 2 rfl rfl rfl (wo_run rfl rfl (run_add rfl rfl rfl (by first | omega | (simp only [lens]; omega))) ?_)
           refine wla 2 3 rfl rfl rfl rfl rfl rfl rfl ?_
           refine wl_end rfl ?_
           refine nm_sub [(0, _), (1, _), (4, _), (6, _), (7, _), (8, _)] ⟨rfl, rfl, rfl, rfl, rfl, rfl, trivial⟩ ?_
           refine nm_thn ?_
           refine ws_region rfl ?_
           refine wlm 0 1 rfl rfl rfl rfl rfl rfl rfl ?_
           refine wlm 1 2 rfl rfl rfl rfl rfl rfl rfl ?_
           refine wlo 2 3 rfl rfl rfl (wo_buildSlice1 (C := cdInt) (l := [_]) rfl rfl rfl rfl sl75 rfl rfl rfl rfl S10 ?_)
           intro gb6 w33 S38; clear S10
           refine wlo 3 4 rfl rfl rfl (wo_append1 (C := cdInt) (i := 1) (q := 0) (x : Int) rfl rfl rfl rfl rfl rfl rfl rfl sl75 S38 rfl rfl rfl (by show (_ + 1) * 8 ≤ _; first | omega | (simp only [lens]; omega)) ?_)
           intro vro5 w34 S39; clear S38
           have S40 := S39.pick [1, 2] [_, _] (by decide) ⟨rfl, rfl, trivial⟩; clear S39
           refine wla 4 5 rfl rfl rfl rfl rfl rfl rfl ?_
           refine wl_end rfl ?_
           refine nm_blk ?_
           refine nm_lp ?_
           intro ax_ hax_
           refine ⟨_, ?hq10m, ⟨j + 1, i2 + 1, l ++ [(x : Int)], _, _, (hle2.trans hle3), rfl, hax_.sub ⟨rfl, rfl, rfl, rfl, rfl, trivial⟩, S40.pick [0, 1] [_, _] (by decide) ⟨rfl, rfl, trivial⟩, ?hq10f0, ?hq10f1, ?hq10f2, ?hq10f3⟩⟩
           case hq10f0 => omega
           case hq10f1 => (rw [List.length_append]; simp only [List.length_cons, List.length_nil]; omega)
           case hq10f2 => first | exact cI_go (c := _) hci (by first | rw [if_pos (by omega)] | rw [if_neg (by omega)]) hq (by omega) (by omega) (by first | assumption | exact Classical.not_not.1 (by assumption)) | (exfalso; omega)
           case hq10f3 => omega
           case hq10m => (rw [List.length_append]; simp only [List.length_cons, List.length_nil]; omega)
       ·replace hb85 := of_decide_eq_false hb85
        refine ws_skip rfl ?_
        refine nm_sub [(0, _), (1, _), (4, _), (6, _), (7, _), (8, _), (9, _), (10, _)] ⟨rfl, rfl, rfl, rfl, rfl, rfl, rfl, rfl, trivial⟩ ?_
        refine nm_thn ?_
        refine ws_seqN crossIn_n51 crossIn_n52 rfl rfl rfl ?_
        refine ws_seqN crossIn_n53 crossIn_n54 rfl rfl rfl ?_
        refine ws_region rfl ?_
        refine wlm 0 1 rfl rfl rfl rfl rfl rfl rfl ?_
        refine wlm 1 2 rfl rfl rfl rfl rfl rfl rfl ?_
        refine wlo 2 3 rfl rfl rfl (wo_run rfl rfl (run_eql rfl rfl rfl) ?_)
        refine wlm 3 4 rfl rfl rfl rfl rfl rfl rfl ?_
        refine wl_split (t := 89) rfl (fun hg89 => ?_) (fun hg89 => ?_)
        ·replace hg89 := of_decide_eq_true hg89
         refine wl_no (k := 4) (k' := 5) (d := 90) rfl rfl ⟨_, _, _, rfl, rfl, rfl, rfl⟩ rfl rfl ?_
         refine wl_no (k := 5) (k' := 6) (d := 91) rfl rfl ⟨_, _, _, rfl, rfl, rfl, rfl⟩ rfl rfl ?_
         refine wl_no (k := 6) (k' := 7) (d := 92) rfl rfl ⟨_, _, _, rfl, rfl, rfl, rfl⟩ rfl rfl ?_
         refine wl_no (k := 7) (k' := 8) (d := 93) rfl rfl ⟨_, _, _, rfl, rfl, rfl, rfl⟩ rfl rfl ?_
         refine wlo 8 9 rfl rfl rfl (wo_run rfl rfl (run_pickT rfl rfl rfl) ?_)
         refine wlm 9 10 rfl rfl rfl rfl rfl rfl rfl ?_
         refine wl_no (k := 10) (k' := 11) (d := 96) rfl rfl ⟨_, _, _, rfl, rfl, rfl, rfl⟩ rfl rfl ?_
         refine wl_no (k := 11) (k' := 12) (d := 97) rfl rfl ⟨_, _, _, rfl, rfl, rfl, rfl⟩ rfl rfl ?_
         refine wl_no (k := 12) (k' := 13) (d := 98) rfl rfl ⟨_, _, _, rfl, rfl, rfl, rfl⟩ rfl rfl ?_
         refine wl_no (k := 13) (k' := 14) (d := 99) rfl rfl ⟨_, _, _, rfl, rfl, rfl, rfl⟩ rfl rfl ?_
         refine wl_no (k := 14) (k' := 15) (d := 100) rfl rfl ⟨_, _, _, rfl, rfl, rfl, rfl⟩ rfl rfl ?_
         refine wlo 15 16 rfl rfl rfl (wo_run rfl rfl (run_pickT rfl rfl rfl) ?_)
         refine wl_end rfl ?_
         refine nm_sub [(0, _), (1, _), (4, _), (6, _), (7, _), (8, _), (101, _)] ⟨rfl, rfl, rfl, rfl, rfl, rfl, rfl, trivial⟩ ?_
         refine nm_thn ?_
         refine ws_condTN crossIn_n55 rfl rfl rfl ?_
         refine ws_seqN crossIn_n57 crossIn_n58 rfl rfl rfl ?_
         refine ws_region rfl ?_
         refine wlo 0 1 rfl rfl rfl (wo_run rfl rfl (run_build (l := [_, _, _, _, _]) rfl rfl st49 rfl rfl) ?_)
         refine wlm 1 2 rfl rfl rfl rfl rfl rfl rfl ?_
         refine wlo 2 3 rfl rfl rfl (wo_storeB (i := 1) (us := [_, _, _, _, _]) (l' := [_, _, _, _, _]) (H' := [_, _]) rfl rfl S10 rfl rfl rfl rfl sz49 rfl rfl rfl rfl ?_)
         intro w35 S41; clear S10
         refine wla 3 4 rfl rfl rfl rfl rfl rfl rfl ?_
         refine wl_end rfl ?_
         refine nm_sub [(4, _), (5, _)] ⟨rfl, rfl, trivial⟩ ?_
         refine nm_thn ?_
         refine ws_ret hC [_, _] rfl rfl ⟨⟨_, rfl, loadVarN (us := [_, _, _, _, _]) Tryd.underlying49 rfl sz49 (S41.boxcs (i := 1) rfl ⟨rfl, rfl, rfl, rfl, rfl, trivial⟩)⟩, rfl, trivial⟩ ?_
         refine ⟨_, rfl, _, (hle1.trans hle2).trans hle3, (S41.pick [] [] (by decide) trivial), ?_⟩
         exact (by rw [(crR_no (j + 1) (by omega) (cI_stop hci (by first | exact if_pos (by omega) | exact if_neg (by omega)) hq (by first | exact .inl (by omega) | exact .inr (.inl (by omega)) | exact .inr (.inr (by assumption)))))]; rfl)
        ·replace hg89 := of_decide_eq_false hg89
         refine wl_opG (k := 4) (k' := 5) rfl rfl ⟨_, _, _, rfl, rfl, rfl, rfl⟩ rfl (wo_run rfl rfl (run_move rfl rfl) ?_)
         refine wl_opG (k := 5) (k' := 6) rfl rfl ⟨_, _, _, rfl, rfl, rfl, rfl⟩ rfl (wo_run rfl rfl (run_move rfl rfl) ?_)
         refine wl_opG (k := 6) (k' := 7) rfl rfl ⟨_, _, _, rfl, rfl, rfl, rfl⟩ rfl (wo_run rfl rfl (run_lenS rfl rfl rfl rfl rfl rfl Tryd.underlying9) ?_)
         refine wl_opG (k := 7) (k' := 8) rfl rfl ⟨_, _, _, rfl, rfl, rfl, rfl⟩ rfl (wo_run rfl rfl (run_geq rfl rfl rfl) ?_)
         refine wlo 8 9 rfl rfl rfl (wo_run rfl rfl (run_pickF rfl rfl rfl) ?_)
         refine wlm 9 10 rfl rfl rfl rfl rfl rfl rfl ?_
         refine wl_split (t := 95) rfl (fun hg95 => ?_) (fun hg95 => ?_)
         ·replace hg95 := of_decide_eq_true hg95
          refine wl_no (k := 10) (k' := 11) (d := 96) rfl rfl ⟨_, _, _, rfl, rfl, rfl, rfl⟩ rfl rfl ?_
          refine wl_no (k := 11) (k' := 12) (d := 97) rfl rfl ⟨_, _, _, rfl, rfl, rfl, rfl⟩ rfl rfl ?_
          refine wl_no (k := 12) (k' := 13) (d := 98) rfl rfl ⟨_, _, _, rfl, rfl, rfl, rfl⟩ rfl rfl ?_
          refine wl_no (k := 13) (k' := 14) (d := 99) rfl rfl ⟨_, _, _, rfl, rfl, rfl, rfl⟩ rfl rfl ?_
          refine wl_no (k := 14) (k' := 15) (d := 100) rfl rfl ⟨_, _, _, rfl, rfl, rfl, rfl⟩ rfl rfl ?_
          refine wlo 15 16 rfl rfl rfl (wo_run rfl rfl (run_pickT rfl rfl rfl) ?_)
          refine wl_end rfl ?_
          refine nm_sub [(0, _), (1, _), (4, _), (6, _), (7, _), (8, _), (101, _)] ⟨rfl, rfl, rfl, rfl, rfl, rfl, rfl, trivial⟩ ?_
          refine nm_thn ?_
          refine ws_condTN crossIn_n55 rfl rfl rfl ?_
          refine ws_seqN crossIn_n57 crossIn_n58 rfl rfl rfl ?_
          refine ws_region rfl ?_
          refine wlo 0 1 rfl rfl rfl (wo_run rfl rfl (run_build (l := [_, _, _, _, _]) rfl rfl st49 rfl rfl) ?_)
          refine wlm 1 2 rfl rfl rfl rfl rfl rfl rfl ?_
          refine wlo 2 3 rfl rfl rfl (wo_storeB (i := 1) (us := [_, _, _, _, _]) (l' := [_, _, _, _, _]) (H' := [_, _]) rfl rfl S10 rfl rfl rfl rfl sz49 rfl rfl rfl rfl ?_)
          intro w36 S42; clear S10
          refine wla 3 4 rfl rfl rfl rfl rfl rfl rfl ?_
          refine wl_end rfl ?_
          refine nm_sub [(4, _), (5, _)] ⟨rfl, rfl, trivial⟩ ?_
          refine nm_thn ?_
          refine ws_ret hC [_, _] rfl rfl ⟨⟨_, rfl, loadVarN (us := [_, _, _, _, _]) Tryd.underlying49 rfl sz49 (S42.boxcs (i := 1) rfl ⟨rfl, rfl, rfl, rfl, rfl, trivial⟩)⟩, rfl, trivial⟩ ?_
          refine ⟨_, rfl, _, (hle1.trans hle2).trans hle3, (S42.pick [] [] (by decide) trivial), ?_⟩
          exact (by rw [(crR_no (j + 1) (by omega) (cI_stop hci (by first | exact if_pos (by omega) | exact if_neg (by omega)) hq (by first | exact .inl (by omega) | exact .inr (.inl (by omega)) | exact .inr (.inr (by assumption)))))]; rfl)
         ·replace hg95 := of_decide_eq_false hg95
          refine wl_opG (k := 10) (k' := 11) rfl rfl ⟨_, _, _, rfl, rfl, rfl, rfl⟩ rfl (wo_run rfl rfl (run_move rfl rfl) ?_)
          refine wl_opG (k := 11) (k' := 12) rfl rfl ⟨_, _, _, rfl, rfl, rfl, rfl⟩ rfl (wo_run rfl rfl (run_move rfl rfl) ?_)
          refine wl_opG (k := 12) (k' := 13) rfl rfl ⟨_, _, _, rfl, rfl, rfl, rfl⟩ rfl (wo_run rfl rfl (run_indexS i2 rfl rfl rfl Tryd.underlying9 ((by first | omega | (simp only [lens]; omega)))) ?_)
          refine wl_opG (k := 13) (k' := 14) rfl rfl ⟨_, _, _, rfl, rfl, rfl, rfl⟩ rfl (wo_run rfl rfl (run_move rfl rfl) ?_)
          refine wl_opG (k := 14) (k' := 15) rfl rfl ⟨_, _, _, rfl, rfl, rfl, rfl⟩ rfl (wo_run rfl rfl (run_neqB (p := (ga s i2)) (q := 44) rfl rfl rfl) ?_)
          refine wlo 15 16 rfl rfl rfl (wo_run rfl rfl (run_pickF rfl rfl rfl) ?_)
          refine wl_end rfl ?_
          refine nm_sub [(0, _), (1, _), (4, _), (6, _), (7, _), (8, _), (101, _)] ⟨rfl, rfl, rfl, rfl, rfl, rfl, rfl, trivial⟩ ?_
          refine nm_thn ?_
          refine ws_condN crossIn_n55 crossIn_n56 rfl rfl rfl rfl (fun hb101 => ?_) (fun hb101 => ?_)
          ·replace hb101 := of_decide_eq_true hb101
           refine ws_seqN crossIn_n57 crossIn_n58 rfl rfl rfl ?_
           refine ws_region rfl ?_
           refine wlo 0 1 rfl rfl rfl (wo_run rfl rfl (run_build (l := [_, _, _, _, _]) rfl rfl st49 rfl rfl) ?_)
           refine wlm 1 2 rfl rfl rfl rfl rfl rfl rfl ?_
           refine wlo 2 3 rfl rfl rfl (wo_storeB (i := 1) (us := [_, _, _, _, _]) (l' := [_, _, _, _, _]) (H' := [_, _]) rfl rfl S10 rfl rfl rfl rfl sz49 rfl rfl rfl rfl ?_)
           intro w37 S43; clear S10
           refine wla 3 4 rfl rfl rfl rfl rfl rfl rfl ?_
           refine wl_end rfl ?_
           refine nm_sub [(4, _), (5, _)] ⟨rfl, rfl, trivial⟩ ?_
           refine nm_thn ?_
           refine ws_ret hC [_, _] rfl rfl ⟨⟨_, rfl, loadVarN (us := [_, _, _, _, _]) Tryd.underlying49 rfl sz49 (S43.boxcs (i := 1) rfl ⟨rfl, rfl, rfl, rfl, rfl, trivial⟩)⟩, rfl, trivial⟩ ?_
           refine ⟨_, rfl, _, (hle1.trans hle2).trans hle3, (S43.pick [] [] (by decide) trivial), ?_⟩
           exact (by rw [(crR_no (j + 1) (by omega) (cI_stop hci (by first | exact if_pos (by omega) | exact if_neg (by omega)) hq (by first | exact .inl (by omega) | exact .inr (.inl (by omega)) | exact .inr (.inr (by assumption)))))]; rfl)
          ·replace hb101 := of_decide_eq_false hb101
           refine ws_skip rfl ?_
           refine nm_sub [(0, _), (1, _), (4, _), (6, _), (7, _), (8, _)] ⟨rfl, rfl, rfl, rfl, rfl, rfl, trivial⟩ ?_
           refine nm_thn ?_
           refine ws_seqN crossIn_n59 crossIn_n60 rfl rfl rfl ?_
           refine ws_region rfl ?_
           refine wlm 0 1 rfl rfl rfl rfl rfl rfl rfl ?_
           refine wlo 1 2 rfl rfl rfl (wo_run rfl rfl (run_add rfl rfl rfl (by first | omega | (simp only [lens]; omega))) ?_)
           refine wla 2 3 rfl rfl rfl rfl rfl rfl rfl ?_
           refine wl_end rfl ?_
           refine nm_sub [(0, _), (1, _), (4, _), (6, _), (7, _), (8, _)] ⟨rfl, rfl, rfl, rfl, rfl, rfl, trivial⟩ ?_
           refine nm_thn ?_
           refine ws_region rfl ?_
           refine wlm 0 1 rfl rfl rfl rfl rfl rfl rfl ?_
           refine wlm 1 2 rfl rfl rfl rfl rfl rfl rfl ?_
           refine wlo 2 3 rfl rfl rfl (wo_buildSlice1 (C := cdInt) (l := [_]) rfl rfl rfl rfl sl75 rfl rfl rfl rfl S10 ?_)
           intro gb7 w38 S44; clear S10
           refine wlo 3 4 rfl rfl rfl (wo_append1 (C := cdInt) (i := 1) (q := 0) (x : Int) rfl rfl rfl rfl rfl rfl rfl rfl sl75 S44 rfl rfl rfl (by show (_ + 1) * 8 ≤ _; first | omega | (simp only [lens]; omega)) ?_)
           intro vro6 w39 S45; clear S44
           have S46 := S45.pick [1, 2] [_, _] (by decide) ⟨rfl, rfl, trivial⟩; clear S45
           refine wla 4 5 rfl rfl rfl rfl rfl rfl rfl ?_
           refine wl_end rfl ?_
           refine nm_blk ?_
           refine nm_lp ?_
           intro ax_ hax_
           refine ⟨_, ?hq11m, ⟨j + 1, i2 + 1, l ++ [(x : Int)], _, _, (hle2.trans hle3), rfl, hax_.sub ⟨rfl, rfl, rfl, rfl, rfl, trivial⟩, S46.pick [0, 1] [_, _] (by decide) ⟨rfl, rfl, trivial⟩, ?hq11f0, ?hq11f1, ?hq11f2, ?hq11f3⟩⟩
           case hq11f0 => omega
           case hq11f1 => (rw [List.length_append]; simp only [List.length_cons, List.length_nil]; omega)
           case hq11f2 => first | exact cI_go (c := _) hci (by first | rw [if_pos (by omega)] | rw [if_neg (by omega)]) hq (by omega) (by omega) (by first | assumption | exact Classical.not_not.1 (by assumption)) | (exfalso; omega)
           case hq11f3 => omega
           case hq11m => (rw [List.length_append]; simp only [List.length_cons, List.length_nil]; omega)
     ·replace hg55 := of_decide_eq_false hg55
      refine wl_no (k := 5) (k' := 6) (d := 56) rfl rfl ⟨_, _, _, rfl, rfl, rfl, rfl⟩ rfl rfl ?_
      refine wl_no (k := 6) (k' := 7) (d := 57) rfl rfl ⟨_, _, _, rfl, rfl, rfl, rfl⟩ rfl rfl ?_
      refine wl_no (k := 7) (k' := 8) (d := 58) rfl rfl ⟨_, _, _, rfl, rfl, rfl, rfl⟩ rfl rfl ?_
      refine wl_no (k := 8) (k' := 9) (d := 59) rfl rfl ⟨_, _, _, rfl, rfl, rfl, rfl⟩ rfl rfl ?_
      refine wlo 9 10 rfl rfl rfl (wo_run rfl rfl (run_pickF rfl rfl rfl) ?_)
      refine wlm 10 11 rfl rfl rfl rfl rfl rfl rfl ?_
      refine wl_no (k := 11) (k' := 12) (d := 62) rfl rfl ⟨_, _, _, rfl, rfl, rfl, rfl⟩ rfl rfl ?_
      refine wl_no (k := 12) (k' := 13) (d := 63) rfl rfl ⟨_, _, _, rfl, rfl, rfl, rfl⟩ rfl rfl ?_
      refine wl_no (k := 13) (k' := 14) (d := 64) rfl rfl ⟨_, _, _, rfl, rfl, rfl, rfl⟩ rfl rfl ?_
      refine wl_no (k := 14) (k' := 15) (d := 65) rfl rfl ⟨_, _, _, rfl, rfl, rfl, rfl⟩ rfl rfl ?_
      refine wlo 15 16 rfl rfl rfl (wo_run rfl rfl (run_pickF rfl rfl rfl) ?_)
      refine wlm 16 17 rfl rfl rfl rfl rfl rfl rfl ?_
      refine wl_no (k := 17) (k' := 18) (d := 68) rfl rfl ⟨_, _, _, rfl, rfl, rfl, rfl⟩ rfl rfl ?_
      refine wl_no (k := 18) (k' := 19) (d := 69) rfl rfl ⟨_, _, _, rfl, rfl, rfl, rfl⟩ rfl rfl ?_
      refine wl_no (k := 19) (k' := 20) (d := 70) rfl rfl ⟨_, _, _, rfl, rfl, rfl, rfl⟩ rfl rfl ?_
      refine wl_no (k := 20) (k' := 21) (d := 71) rfl rfl ⟨_, _, _, rfl, rfl, rfl, rfl⟩ rfl rfl ?_
      refine wlo 21 22 rfl rfl rfl (wo_run rfl rfl (run_pickF rfl rfl rfl) ?_)
      refine wl_end rfl ?_
      refine nm_sub [(0, _), (1, _), (4, _), (6, _), (7, _), (8, _), (9, _), (72, _)] ⟨rfl, rfl, rfl, rfl, rfl, rfl, rfl, rfl, trivial⟩ ?_
      refine nm_thn ?_
      refine ws_condFN crossIn_n39 rfl rfl rfl ?_
      refine ws_exit rfl rfl ?_
      refine nm_sub [(0, _), (1, _), (4, _), (6, _), (7, _), (8, _), (9, _)] ⟨rfl, rfl, rfl, rfl, rfl, rfl, rfl, trivial⟩ ?_
      refine nm_thn ?_
      refine ws_seqN crossIn_n43 crossIn_n44 rfl rfl rfl ?_
      have hq : whA s 3 i 0 = (x, i2) := (by rw [← hwh]; first | (rw [show f = 0 by omega]; rfl) | exact whA_stop (by omega))
      refine ws_region rfl ?_
      refine wla 0 1 rfl rfl rfl rfl rfl rfl rfl ?_
      refine wl_end rfl ?_
      refine nm_thn ?_
      refine ws_seqN crossIn_n45 crossIn_n46 rfl rfl rfl ?_
      refine ws_seqN crossIn_n47 crossIn_n48 rfl rfl rfl ?_
      refine ws_region rfl ?_
      refine wlm 0 1 rfl rfl rfl rfl rfl rfl rfl ?_
      refine wlo 1 2 rfl rfl rfl (wo_run rfl rfl (run_lenR (C := cdInt) (i := 0) rfl rfl rfl rfl rfl rfl sl75 S10 rfl) ?_)
      refine wlo 2 3 rfl rfl rfl (wo_run rfl rfl (run_eql rfl rfl rfl) ?_)
      refine wl_end rfl ?_
      refine nm_sub [(0, _), (1, _), (4, _), (6, _), (7, _), (8, _), (9, _), (10, _), (85, _)] ⟨rfl, rfl, rfl, rfl, rfl, rfl, rfl, rfl, rfl, trivial⟩ ?_
      refine nm_thn ?_
      refine ws_condN crossIn_n49 crossIn_n50 rfl rfl rfl rfl (fun hb85 => ?_) (fun hb85 => ?_)
      ·replace hb85 := of_decide_eq_true hb85
       refine ws_region rfl ?_
       refine wla 0 1 rfl rfl rfl rfl rfl rfl rfl ?_
       refine wl_end rfl ?_
       refine nm_sub [(0, _), (1, _), (4, _), (6, _), (7, _), (8, _), (9, _), (10, _)] ⟨rfl, rfl, rfl, rfl, rfl, rfl, rfl, rfl, trivial⟩ ?_
       refine nm_thn ?_
       refine ws_seqN crossIn_n51 crossIn_n52 rfl rfl rfl ?_
       refine ws_seqN crossIn_n53 crossIn_n54 rfl rfl rfl ?_
       refine ws_region rfl ?_
       refine wlm 0 1 rfl rfl rfl rfl rfl rfl rfl ?_
       refine wlm 1 2 rfl rfl rfl rfl rfl rfl rfl ?_
       refine wlo 2 3 rfl rfl rfl (wo_run rfl rfl (run_eql rfl rfl rfl) ?_)
       refine wlm 3 4 rfl rfl rfl rfl rfl rfl rfl ?_
       refine wl_split (t := 89) rfl (fun hg89 => ?_) (fun hg89 => ?_)
       ·replace hg89 := of_decide_eq_true hg89
        refine wl_no (k := 4) (k' := 5) (d := 90) rfl rfl ⟨_, _, _, rfl, rfl, rfl, rfl⟩ rfl rfl ?_
        refine wl_no (k := 5) (k' := 6) (d := 91) rfl rfl ⟨_, _, _, rfl, rfl, rfl, rfl⟩ rfl rfl ?_
        refine wl_no (k := 6) (k' := 7) (d := 92) rfl rfl ⟨_, _, _, rfl, rfl, rfl, rfl⟩ rfl rfl ?_
        refine wl_no (k := 7) (k' := 8) (d := 93) rfl rfl ⟨_, _, _, rfl, rfl, rfl, rfl⟩ rfl rfl ?_
        refine wlo 8 9 rfl rfl rfl (wo_run rfl rfl (run_pickT rfl rfl rfl) ?_)
        refine wlm 9 10 rfl rfl rfl rfl rfl rfl rfl ?_
        refine wl_no (k := 10) (k' := 11) (d := 96) rfl rfl ⟨_, _, _, rfl, rfl, rfl, rfl⟩ rfl rfl ?_
        refine wl_no (k := 11) (k' := 12) (d := 97) rfl rfl ⟨_, _, _, rfl, rfl, rfl, rfl⟩ rfl rfl ?_
        refine wl_no (k := 12) (k' := 13) (d := 98) rfl rfl ⟨_, _, _, rfl, rfl, rfl, rfl⟩ rfl rfl ?_
        refine wl_no (k := 13) (k' := 14) (d := 99) rfl rfl ⟨_, _, _, rfl, rfl, rfl, rfl⟩ rfl rfl ?_
        refine wl_no (k := 14) (k' := 15) (d := 100) rfl rfl ⟨_, _, _, rfl, rfl, rfl, rfl⟩ rfl rfl ?_
        refine wlo 15 16 rfl rfl rfl (wo_run rfl rfl (run_pickT rfl rfl rfl) ?_)
        refine wl_end rfl ?_
        refine nm_sub [(0, _), (1, _), (4, _), (6, _), (7, _), (8, _), (101, _)] ⟨rfl, rfl, rfl, rfl, rfl, rfl, rfl, trivial⟩ ?_
        refine nm_thn ?_
        refine ws_condTN crossIn_n55 rfl rfl rfl ?_
        refine ws_seqN crossIn_n57 crossIn_n58 rfl rfl rfl ?_
        refine ws_region rfl ?_
        refine wlo 0 1 rfl rfl rfl (wo_run rfl rfl (run_build (l := [_, _, _, _, _]) rfl rfl st49 rfl rfl) ?_)
        refine wlm 1 2 rfl rfl rfl rfl rfl rfl rfl ?_
        refine wlo 2 3 rfl rfl rfl (wo_storeB (i := 1) (us := [_, _, _, _, _]) (l' := [_, _, _, _, _]) (H' := [_, _]) rfl rfl S10 rfl rfl rfl rfl sz49 rfl rfl rfl rfl ?_)
        intro w40 S47; clear S10
        refine wla 3 4 rfl rfl rfl rfl rfl rfl rfl ?_
        refine wl_end rfl ?_
        refine nm_sub [(4, _), (5, _)] ⟨rfl, rfl, trivial⟩ ?_
        refine nm_thn ?_
        refine ws_ret hC [_, _] rfl rfl ⟨⟨_, rfl, loadVarN (us := [_, _, _, _, _]) Tryd.underlying49 rfl sz49 (S47.boxcs (i := 1) rfl ⟨rfl, rfl, rfl, rfl, rfl, trivial⟩)⟩, rfl, trivial⟩ ?_
        refine ⟨_, rfl, _, (hle1.trans hle2).trans hle3, (S47.pick [] [] (by decide) trivial), ?_⟩
        exact (by rw [(crR_no (j + 1) (by omega) (cI_stop hci (by first | exact if_pos (by omega) | exact if_neg (by omega)) hq (by first | exact .inl (by omega) | exact .inr (.inl (by omega)) | exact .inr (.inr (by assumption)))))]; rfl)
       ·replace hg89 := of_decide_eq_false hg89
        refine wl_opG (k := 4) (k' := 5) rfl rfl ⟨_, _, _, rfl, rfl, rfl, rfl⟩ rfl (wo_run rfl rfl (run_move rfl rfl) ?_)
        refine wl_opG (k := 5) (k' := 6) rfl rfl ⟨_, _, _, rfl, rfl, rfl, rfl⟩ rfl (wo_run rfl rfl (run_move rfl rfl) ?_)
        refine wl_opG (k := 6) (k' := 7) rfl rfl ⟨_, _, _, rfl, rfl, rfl, rfl⟩ rfl (wo_run rfl rfl (run_lenS rfl rfl rfl rfl rfl rfl Tryd.underlying9) ?_)
        refine wl_opG (k := 7) (k' := 8) rfl rfl ⟨_, _, _, rfl, rfl, rfl, rfl⟩ rfl (wo_run rfl rfl (run_geq rfl rfl rfl) ?_)
        refine wlo 8 9 rfl rfl rfl (wo_run rfl rfl (run_pickF rfl rfl rfl) ?_)
        refine wlm 9 10 rfl rfl rfl rfl rfl rfl rfl ?_
        refine wl_split (t := 95) rfl (fun hg95 => ?_) (fun hg95 => ?_)
        ·replace hg95 := of_decide_eq_true hg95
         refine wl_no (k := 10) (k' := 11) (d := 96) rfl rfl ⟨_, _, _, rfl, rfl, rfl, rfl⟩ rfl rfl ?_
         refine wl_no (k := 11) (k' := 12) (d := 97) rfl rfl ⟨_, _, _, rfl, rfl, rfl, rfl⟩ rfl rfl ?_
         refine wl_no (k := 12) (k' := 13) (d := 98) rfl rfl ⟨_, _, _, rfl, rfl, rfl, rfl⟩ rfl rfl ?_
         refine wl_no (k := 13) (k' := 14) (d := 99) rfl rfl ⟨_, _, _, rfl, rfl, rfl, rfl⟩ rfl rfl ?_
         refine wl_no (k := 14) (k' := 15) (d := 100) rfl rfl ⟨_, _, _, rfl, rfl, rfl, rfl⟩ rfl rfl ?_
         refine wlo 15 16 rfl rfl rfl (wo_run rfl rfl (run_pickT rfl rfl rfl) ?_)
         refine wl_end rfl ?_
         refine nm_sub [(0, _), (1, _), (4, _), (6, _), (7, _), (8, _), (101, _)] ⟨rfl, rfl, rfl, rfl, rfl, rfl, rfl, trivial⟩ ?_
         refine nm_thn ?_
         refine ws_condTN crossIn_n55 rfl rfl rfl ?_
         refine ws_seqN crossIn_n57 crossIn_n58 rfl rfl rfl ?_
         refine ws_region rfl ?_
         refine wlo 0 1 rfl rfl rfl (wo_run rfl rfl (run_build (l := [_, _, _, _, _]) rfl rfl st49 rfl rfl) ?_)
         refine wlm 1 2 rfl rfl rfl rfl rfl rfl rfl ?_
         refine wlo 2 3 rfl rfl rfl (wo_storeB (i := 1) (us := [_, _, _, _, _]) (l' := [_, _, _, _, _]) (H' := [_, _]) rfl rfl S10 rfl rfl rfl rfl sz49 rfl rfl rfl rfl ?_)
         intro w41 S48; clear S10
         refine wla 3 4 rfl rfl rfl rfl rfl rfl rfl ?_
         refine wl_end rfl ?_
         refine nm_sub [(4, _), (5, _)] ⟨rfl, rfl, trivial⟩ ?_
         refine nm_thn ?_
         refine ws_ret hC [_, _] rfl rfl ⟨⟨_, rfl, loadVarN (us := [_, _, _, _, _]) Tryd.underlying49 rfl sz49 (S48.boxcs (i := 1) rfl ⟨rfl, rfl, rfl, rfl, rfl, trivial⟩)⟩, rfl, trivial⟩ ?_
         refine ⟨_, rfl, _, (hle1.trans hle2).trans hle3, (S48.pick [] [] (by decide) trivial), ?_⟩
         exact (by rw [(crR_no (j + 1) (by omega) (cI_stop hci (by first | exact if_pos (by omega) | exact if_neg (by omega)) hq (by first | exact .inl (by omega) | exact .inr (.inl (by omega)) | exact .inr (.inr (by assumption)))))]; rfl)
        ·replace hg95 := of_decide_eq_false hg95
         refine wl_opG (k := 10) (k' := 11) rfl rfl ⟨_, _, _, rfl, rfl, rfl, rfl⟩ rfl (wo_run rfl rfl (run_move rfl rfl) ?_)
         refine wl_opG (k := 11) (k' := 12) rfl rfl ⟨_, _, _, rfl, rfl, rfl, rfl⟩ rfl (wo_run rfl rfl (run_move rfl rfl) ?_)
         refine wl_opG (k := 12) (k' := 13) rfl rfl ⟨_, _, _, rfl, rfl, rfl, rfl⟩ rfl (wo_run rfl rfl (run_indexS i2 rfl rfl rfl Tryd.underlying9 ((by first | omega | (simp only [lens]; omega)))) ?_)
         refine wl_opG (k := 13) (k' := 14) rfl rfl ⟨_, _, _, rfl, rfl, rfl, rfl⟩ rfl (wo_run rfl rfl (run_move rfl rfl) ?_)
         refine wl_opG (k := 14) (k' := 15) rfl rfl ⟨_, _, _, rfl, rfl, rfl, rfl⟩ rfl (wo_run rfl rfl (run_neqB (p := (ga s i2)) (q := 93) rfl rfl rfl) ?_)
         refine wlo 15 16 rfl rfl rfl (wo_run rfl rfl (run_pickF rfl rfl rfl) ?_)
         refine wl_end rfl ?_
         refine nm_sub [(0, _), (1, _), (4, _), (6, _), (7, _), (8, _), (101, _)] ⟨rfl, rfl, rfl, rfl, rfl, rfl, rfl, trivial⟩ ?_
         refine nm_thn ?_
         refine ws_condN crossIn_n55 crossIn_n56 rfl rfl rfl rfl (fun hb101 => ?_) (fun hb101 => ?_)
         ·replace hb101 := of_decide_eq_true hb101
          refine ws_seqN crossIn_n57 crossIn_n58 rfl rfl rfl ?_
          refine ws_region rfl ?_
          refine wlo 0 1 rfl rfl rfl (wo_run rfl rfl (run_build (l := [_, _, _, _, _]) rfl rfl st49 rfl rfl) ?_)
          refine wlm 1 2 rfl rfl rfl rfl rfl rfl rfl ?_
          refine wlo 2 3 rfl rfl rfl (wo_storeB (i := 1) (us := [_, _, _, _, _]) (l' := [_, _, _, _, _]) (H' := [_, _]) rfl rfl S10 rfl rfl rfl rfl sz49 rfl rfl rfl rfl ?_)
          intro w42 S49; clear S10
          refine wla 3 4 rfl rfl rfl rfl rfl rfl rfl ?_
          refine wl_end rfl ?_
          refine nm_sub [(4, _), (5, _)] ⟨rfl, rfl, trivial⟩ ?_
          refine nm_thn ?_
          refine ws_ret hC [_, _] rfl rfl ⟨⟨_, rfl, loadVarN (us := [_, _, _, _, _]) Tryd.underlying49 rfl sz49 (S49.boxcs (i := 1) rfl ⟨rfl, rfl, rfl, rfl, rfl, trivial⟩)⟩, rfl, trivial⟩ ?_
          refine ⟨_, rfl, _, (hle1.trans hle2).trans hle3, (S49.pick [] [] (by decide) trivial), ?_⟩
          exact (by rw [(crR_no (j + 1) (by omega) (cI_stop hci (by first | exact if_pos (by omega) | exact if_neg (by omega)) hq (by first | exact .inl (by omega) | exact .inr (.inl (by omega)) | exact .inr (.inr (by assumption)))))]; rfl)
         ·replace hb101 := of_decide_eq_false hb101
          refine ws_skip rfl ?_
          refine nm_sub [(0, _), (1, _), (4, _), (6, _), (7, _), (8, _)] ⟨rfl, rfl, rfl, rfl, rfl, rfl, trivial⟩ ?_
          refine nm_thn ?_
          refine ws_seqN crossIn_n59 crossIn_n60 rfl rfl rfl ?_
          refine ws_region rfl ?_
          refine wlm 0 1 rfl rfl rfl rfl rfl rfl rfl ?_
          refine wlo 1 2 rfl rfl rfl (wo_run rfl rfl (run_add rfl rfl rfl (by first | omega | (simp only [lens]; omega))) ?_)
          refine wla 2 3 rfl rfl rfl rfl rfl rfl rfl ?_
          refine wl_end rfl ?_
          refine nm_sub [(0, _), (1, _), (4, _), (6, _), (7, _), (8, _)] ⟨rfl, rfl, rfl, rfl, rfl, rfl, trivial⟩ ?_
          refine nm_thn ?_
          refine ws_region rfl ?_
          refine wlm 0 1 rfl rfl rfl rfl rfl rfl rfl ?_
          refine wlm 1 2 rfl rfl rfl rfl rfl rfl rfl ?_
          refine wlo 2 3 rfl rfl rfl (wo_buildSlice1 (C := cdInt) (l := [_]) rfl rfl rfl rfl sl75 rfl rfl rfl rfl S10 ?_)
          intro gb8 w43 S50; clear S10
          refine wlo 3 4 rfl rfl rfl (wo_append1 (C := cdInt) (i := 1) (q := 0) (x : Int) rfl rfl rfl rfl rfl rfl rfl rfl sl75 S50 rfl rfl rfl (by show (_ + 1) * 8 ≤ _; first | omega | (simp only [lens]; omega)) ?_)
          intro vro7 w44 S51; clear S50
          have S52 := S51.pick [1, 2] [_, _] (by decide) ⟨rfl, rfl, trivial⟩; clear S51
          refine wla 4 5 rfl rfl rfl rfl rfl rfl rfl ?_
          refine wl_end rfl ?_
          refine nm_blk ?_
          refine nm_lp ?_
          intro ax_ hax_
          refine ⟨_, ?hq12m, ⟨j + 1, i2 + 1, l ++ [(x : Int)], _, _, (hle2.trans hle3), rfl, hax_.sub ⟨rfl, rfl, rfl, rfl, rfl, trivial⟩, S52.pick [0, 1] [_, _] (by decide) ⟨rfl, rfl, trivial⟩, ?hq12f0, ?hq12f1, ?hq12f2, ?hq12f3⟩⟩
          case hq12f0 => omega
          case hq12f1 => (rw [List.length_append]; simp only [List.length_cons, List.length_nil]; omega)
          case hq12f2 => first | exact cI_go (c := _) hci (by first | rw [if_pos (by omega)] | rw [if_neg (by omega)]) hq (by omega) (by omega) (by first | assumption | exact Classical.not_not.1 (by assumption)) | (exfalso; omega)
          case hq12f3 => omega
          case hq12m => (rw [List.length_append]; simp only [List.length_cons, List.length_nil]; omega)
      ·replace hb85 := of_decide_eq_false hb85
       refine ws_skip rfl ?_
       refine nm_sub [(0, _), (1, _), (4, _), (6, _), (7, _), (8, _), (9, _), (10, _)] ⟨rfl, rfl, rfl, rfl, rfl, rfl, rfl, rfl, trivial⟩ ?_
       refine nm_thn ?_
       refine ws_seqN crossIn_n51 crossIn_n52 rfl rfl rfl ?_
       refine ws_seqN crossIn_n53 crossIn_n54 rfl rfl rfl ?_
       refine ws_region rfl ?_
       refine wlm 0 1 rfl rfl rfl rfl rfl rfl rfl ?_
       refine wlm 1 2 rfl rfl rfl rfl rfl rfl rfl ?_
       refine wlo 2 3 rfl rfl rfl (wo_run rfl rfl (run_eql rfl rfl rfl) ?_)
       refine wlm 3 4 rfl rfl rfl rfl rfl rfl rfl ?_
       refine wl_split (t := 89) rfl (fun hg89 => ?_) (fun hg89 => ?_)
       ·replace hg89 := of_decide_eq_true hg89
        refine wl_no (k := 4) (k' := 5) (d := 90) rfl rfl ⟨_, _, _, rfl, rfl, rfl, rfl⟩ rfl rfl ?_
        refine wl_no (k := 5) (k' := 6) (d := 91) rfl rfl ⟨_, _, _, rfl, rfl, rfl, rfl⟩ rfl rfl ?_
        refine wl_no (k := 6) (k' := 7) (d := 92) rfl rfl ⟨_, _, _, rfl, rfl, rfl, rfl⟩ rfl rfl ?_
        refine wl_no (k := 7) (k' := 8) (d := 93) rfl rfl ⟨_, _, _, rfl, rfl, rfl, rfl⟩ rfl rfl ?_
        refine wlo 8 9 rfl rfl rfl (wo_run rfl rfl (run_pickT rfl rfl rfl) ?_)
        refine wlm 9 10 rfl rfl rfl rfl rfl rfl rfl ?_
        refine wl_no (k := 10) (k' := 11) (d := 96) rfl rfl ⟨_, _, _, rfl, rfl, rfl, rfl⟩ rfl rfl ?_
        refine wl_no (k := 11) (k' := 12) (d := 97) rfl rfl ⟨_, _, _, rfl, rfl, rfl, rfl⟩ rfl rfl ?_
        refine wl_no (k := 12) (k' := 13) (d := 98) rfl rfl ⟨_, _, _, rfl, rfl, rfl, rfl⟩ rfl rfl ?_
        refine wl_no (k := 13) (k' := 14) (d := 99) rfl rfl ⟨_, _, _, rfl, rfl, rfl, rfl⟩ rfl rfl ?_
        refine wl_no (k := 14) (k' := 15) (d := 100) rfl rfl ⟨_, _, _, rfl, rfl, rfl, rfl⟩ rfl rfl ?_
        refine wlo 15 16 rfl rfl rfl (wo_run rfl rfl (run_pickT rfl rfl rfl) ?_)
        refine wl_end rfl ?_
        refine nm_sub [(0, _), (1, _), (4, _), (6, _), (7, _), (8, _), (101, _)] ⟨rfl, rfl, rfl, rfl, rfl, rfl, rfl, trivial⟩ ?_
        refine nm_thn ?_
        refine ws_condTN crossIn_n55 rfl rfl rfl ?_
        refine ws_seqN crossIn_n57 crossIn_n58 rfl rfl rfl ?_
        refine ws_region rfl ?_
        refine wlo 0 1 rfl rfl rfl (wo_run rfl rfl (run_build (l := [_, _, _, _, _]) rfl rfl st49 rfl rfl) ?_)
        refine wlm 1 2 rfl rfl rfl rfl rfl rfl rfl ?_
        refine wlo 2 3 rfl rfl rfl (wo_storeB (i := 1) (us := [_, _, _, _, _]) (l' := [_, _, _, _, _]) (H' := [_, _]) rfl rfl S10 rfl rfl rfl rfl sz49 rfl rfl rfl rfl ?_)
        intro w45 S53; clear S10
        refine wla 3 4 rfl rfl rfl rfl rfl rfl rfl ?_
        refine wl_end rfl ?_
        refine nm_sub [(4, _), (5, _)] ⟨rfl, rfl, trivial⟩ ?_
        refine nm_thn ?_
        refine ws_ret hC [_, _] rfl rfl ⟨⟨_, rfl, loadVarN (us := [_, _, _, _, _]) Tryd.underlying49 rfl sz49 (S53.boxcs (i := 1) rfl ⟨rfl, rfl, rfl, rfl, rfl, trivial⟩)⟩, rfl, trivial⟩ ?_
        refine ⟨_, rfl, _, (hle1.trans hle2).trans hle3, (S53.pick [] [] (by decide) trivial), ?_⟩
        exact (by rw [(crR_no (j + 1) (by omega) (cI_stop hci (by first | exact if_pos (by omega) | exact if_neg (by omega)) hq (by first | exact .inl (by omega) | exact .inr (.inl (by omega)) | exact .inr (.inr (by assumption)))))]; rfl)
       ·replace hg89 := of_decide_eq_false hg89
        refine wl_opG (k := 4) (k' := 5) rfl rfl ⟨_, _, _, rfl, rfl, rfl, rfl⟩ rfl (wo_run rfl rfl (run_move rfl rfl) ?_)
        refine wl_opG (k := 5) (k' := 6) rfl rfl ⟨_, _, _, rfl, rfl, rfl, rfl⟩ rfl (wo_run rfl rfl (run_move rfl rfl) ?_)
        refine wl_opG (k := 6) (k' := 7) rfl rfl ⟨_, _, _, rfl, rfl, rfl, rfl⟩ rfl (wo_run rfl rfl (run_lenS rfl rfl rfl rfl rfl rfl Tryd.underlying9) ?_)
        refine wl_opG (k := 7) (k' := 8) rfl rfl ⟨_, _, _, rfl, rfl, rfl, rfl⟩ rfl (wo_run rfl rfl (run_geq rfl rfl rfl) ?_)
        refine wlo 8 9 rfl rfl rfl (wo_run rfl rfl (run_pickF rfl rfl rfl) ?_)
        refine wlm 9 10 rfl rfl rfl rfl rfl rfl rfl ?_
        refine wl_split (t := 95) rfl (fun hg95 => ?_) (fun hg95 => ?_)
        ·replace hg95 := of_decide_eq_true hg95
         refine wl_no (k := 10) (k' := 11) (d := 96) rfl rfl ⟨_, _, _, rfl, rfl, rfl, rfl⟩ rfl rfl ?_
         refine wl_no (k := 11) (k' := 12) (d := 97) rfl rfl ⟨_, _, _, rfl, rfl, rfl, rfl⟩ rfl rfl ?_
         refine wl_no (k := 12) (k' := 13) (d := 98) rfl rfl ⟨_, _, _, rfl, rfl, rfl, rfl⟩ rfl rfl ?_
         refine wl_no (k := 13) (k' := 14) (d := 99) rfl rfl ⟨_, _, _, rfl, rfl, rfl, rfl⟩ rfl rfl ?_
         refine wl_no (k := 14) (k' := 15) (d := 100) rfl rfl ⟨_, _, _, rfl, rfl, rfl, rfl⟩ rfl rfl ?_
         refine wlo 15 16 rfl rfl rfl (wo_run rfl rfl (run_pickT rfl rfl rfl) ?_)
         refine wl_end rfl ?_
         refine nm_sub [(0, _), (1, _), (4, _), (6, _), (7, _), (8, _), (101, _)] ⟨rfl, rfl, rfl, rfl, rfl, rfl, rfl, trivial⟩ ?_
         refine nm_thn ?_
         refine ws_condTN crossIn_n55 rfl rfl rfl ?_
         refine ws_seqN crossIn_n57 crossIn_n58 rfl rfl rfl ?_
         refine ws_region rfl ?_
         refine wlo 0 1 rfl rfl rfl (wo_run rfl rfl (run_build (l := [_, _, _, _, _]) rfl rfl st49 rfl rfl) ?_)
         refine wlm 1 2 rfl rfl rfl rfl rfl rfl rfl ?_
         refine wlo 2 3 rfl rfl rfl (wo_storeB (i := 1) (us := [_, _, _, _, _]) (l' := [_, _, _, _, _]) (H' := [_, _]) rfl rfl S10 rfl rfl rfl rfl sz49 rfl rfl rfl rfl ?_)
         intro w46 S54; clear S10
         refine wla 3 4 rfl rfl rfl rfl rfl rfl rfl ?_
         refine wl_end rfl ?_
         refine nm_sub [(4, _), (5, _)] ⟨rfl, rfl, trivial⟩ ?_
         refine nm_thn ?_
         refine ws_ret hC [_, _] rfl rfl ⟨⟨_, rfl, loadVarN (us := [_, _, _, _, _]) Tryd.underlying49 rfl sz49 (S54.boxcs (i := 1) rfl ⟨rfl, rfl, rfl, rfl, rfl, trivial⟩)⟩, rfl, trivial⟩ ?_
         refine ⟨_, rfl, _, (hle1.trans hle2).trans hle3, (S54.pick [] [] (by decide) trivial), ?_⟩
         exact (by rw [(crR_no (j + 1) (by omega) (cI_stop hci (by first | exact if_pos (by omega) | exact if_neg (by omega)) hq (by first | exact .inl (by omega) | exact .inr (.inl (by omega)) | exact .inr (.inr (by assumption)))))]; rfl)
        ·replace hg95 := of_decide_eq_false hg95
         refine wl_opG (k := 10) (k' := 11) rfl rfl ⟨_, _, _, rfl, rfl, rfl, rfl⟩ rfl (wo_run rfl rfl (run_move rfl rfl) ?_)
         refine wl_opG (k := 11) (k' := 12) rfl rfl ⟨_, _, _, rfl, rfl, rfl, rfl⟩ rfl (wo_run rfl rfl (run_move rfl rfl) ?_)
         refine wl_opG (k := 12) (k' := 13) rfl rfl ⟨_, _, _, rfl, rfl, rfl, rfl⟩ rfl (wo_run rfl rfl (run_indexS i2 rfl rfl rfl Tryd.underlying9 ((by first | omega | (simp only [lens]; omega)))) ?_)
         refine wl_opG (k := 13) (k' := 14) rfl rfl ⟨_, _, _, rfl, rfl, rfl, rfl⟩ rfl (wo_run rfl rfl (run_move rfl rfl) ?_)
         refine wl_opG (k := 14) (k' := 15) rfl rfl ⟨_, _, _, rfl, rfl, rfl, rfl⟩ rfl (wo_run rfl rfl (run_neqB (p := (ga s i2)) (q := 44) rfl rfl rfl) ?_)
         refine wlo 15 16 rfl rfl rfl (wo_run rfl rfl (run_pickF rfl rfl rfl) ?_)
         refine wl_end rfl ?_
         refine nm_sub [(0, _), (1, _), (4, _), (6, _), (7, _), (8, _), (101, _)] ⟨rfl, rfl, rfl, rfl, rfl, rfl, rfl, trivial⟩ ?_
         refine nm_thn ?_
         refine ws_condN crossIn_n55 crossIn_n56 rfl rfl rfl rfl (fun hb101 => ?_) (fun hb101 => ?_)
         ·replace hb101 := of_decide_eq_true hb101
          refine ws_seqN crossIn_n57 crossIn_n58 rfl rfl rfl ?_
          refine ws_region rfl ?_
          refine wlo 0 1 rfl rfl rfl (wo_run rfl rfl (run_build (l := [_, _, _, _, _]) rfl rfl st49 rfl rfl) ?_)
          refine wlm 1 2 rfl rfl rfl rfl rfl rfl rfl ?_
          refine wlo 2 3 rfl rfl rfl (wo_storeB (i := 1) (us := [_, _, _, _, _]) (l' := [_, _, _, _, _]) (H' := [_, _]) rfl rfl S10 rfl rfl rfl rfl sz49 rfl rfl rfl rfl ?_)
          intro w47 S55; clear S10
          refine wla 3 4 rfl rfl rfl rfl rfl rfl rfl ?_
          refine wl_end rfl ?_
          refine nm_sub [(4, _), (5, _)] ⟨rfl, rfl, trivial⟩ ?_
          refine nm_thn ?_
          refine ws_ret hC [_, _] rfl rfl ⟨⟨_, rfl, loadVarN (us := [_, _, _, _, _]) Tryd.underlying49 rfl sz49 (S55.boxcs (i := 1) rfl ⟨rfl, rfl, rfl, rfl, rfl, trivial⟩)⟩, rfl, trivial⟩ ?_
          refine ⟨_, rfl, _, (hle1.trans hle2).trans hle3, (S55.pick [] [] (by decide) trivial), ?_⟩
          exact (by rw [(crR_no (j + 1) (by omega) (cI_stop hci (by first | exact if_pos (by omega) | exact if_neg (by omega)) hq (by first | exact .inl (by omega) | exact .inr (.inl (by omega)) | exact .inr (.inr (by assumption)))))]; rfl)
         ·replace hb101 := of_decide_eq_false hb101
          refine ws_skip rfl ?_
          refine nm_sub [(0, _), (1, _), (4, _), (6, _), (7, _), (8, _)] ⟨rfl, rfl, rfl, rfl, rfl, rfl, trivial⟩ ?_
          refine nm_thn ?_
          refine ws_seqN crossIn_n59 crossIn_n60 rfl rfl rfl ?_
          refine ws_region rfl ?_
          refine wlm 0 1 rfl rfl rfl rfl rfl rfl rfl ?_
          refine wlo 1 2 rfl rfl rfl (wo_run rfl rfl (run_add rfl rfl rfl (by first | omega | (simp only [lens]; omega))) ?_)
          refine wla 2 3 rfl rfl rfl rfl rfl rfl rfl ?_
          refine wl_end rfl ?_
          refine nm_sub [(0, _), (1, _), (4, _), (6, _), (7, _), (8, _)] ⟨rfl, rfl, rfl, rfl, rfl, rfl, trivial⟩ ?_
          refine nm_thn ?_
          refine ws_region rfl ?_
          refine wlm 0 1 rfl rfl rfl rfl rfl rfl rfl ?_
          refine wlm 1 2 rfl rfl rfl rfl rfl rfl rfl ?_
          refine wlo 2 3 rfl rfl rfl (wo_buildSlice1 (C := cdInt) (l := [_]) rfl rfl rfl rfl sl75 rfl rfl rfl rfl S10 ?_)
          intro gb9 w48 S56; clear S10
          refine wlo 3 4 rfl rfl rfl (wo_append1 (C := cdInt) (i := 1) (q := 0) (x : Int) rfl rfl rfl rfl rfl rfl rfl rfl sl75 S56 rfl rfl rfl (by show (_ + 1) * 8 ≤ _; first | omega | (simp only [lens]; omega)) ?_)
          intro vro8 w49 S57; clear S56
          have S58 := S57.pick [1, 2] [_, _] (by decide) ⟨rfl, rfl, trivial⟩; clear S57
          refine wla 4 5 rfl rfl rfl rfl rfl rfl rfl ?_
          refine wl_end rfl ?_
          refine nm_blk ?_
          refine nm_lp ?_
          intro ax_ hax_
          refine ⟨_, ?hq13m, ⟨j + 1, i2 + 1, l ++ [(x : Int)], _, _, (hle2.trans hle3), rfl, hax_.sub ⟨rfl, rfl, rfl, rfl, rfl, trivial⟩, S58.pick [0, 1] [_, _] (by decide) ⟨rfl, rfl, trivial⟩, ?hq13f0, ?hq13f1, ?hq13f2, ?hq13f3⟩⟩
          case hq13f0 => omega
          case hq13f1 => (rw [List.length_append]; simp only [List.length_cons, List.length_nil]; omega)
          case hq13f2 => first | exact cI_go (c := _) hci (by first | rw [if_pos (by omega)] | rw [if_neg (by omega)]) hq (by omega) (by omega) (by first | assumption | exact Classical.not_not.1 (by assumption)) | (exfalso; omega)
          case hq13f3 => omega
          case hq13m => (rw [List.length_append]; simp only [List.length_cons, List.length_nil]; omega)
   ·replace hb49 := of_decide_eq_false hb49
    refine ws_exit rfl rfl ?_
    refine nm_sub [(0, _), (1, _), (4, _), (6, _), (7, _)] ⟨rfl, rfl, rfl, rfl, rfl, trivial⟩ ?_
    refine nm_thn ?_
    refine ws_seqN crossIn_n61 crossIn_n62 rfl rfl rfl ?_
    have hl4 : l.length = 4 := by omega
    have hhd1 := hd.1
    refine ws_draw rfl (by kernel_rfl) S9 21 rfl ?_
    clear S9
    refine wa_takeP (i := 0) (d := 110) 20 rfl (by kernel_rfl) (by kernel_rfl) (by kernel_rfl) rfl rfl rfl (fun w50 => run_move rfl rfl) ?_
    refine wa_take (i := 1) (d := 111) 19 rfl (by kernel_rfl) (by kernel_rfl) (by kernel_rfl) rfl rfl rfl (fun M5 N2 w51 hle5 S60 => .inl (run_indexR (C := cdInt) (i := 0) 0 rfl rfl rfl sl75 S60.suf rfl (by first | rfl | omega) (by first | omega | (simp only [lens]; omega)))) ?_
    refine wa_take (i := 2) (d := 112) 18 rfl (by kernel_rfl) (by kernel_rfl) (by kernel_rfl) rfl rfl rfl (fun M6 N3 w52 hle6 S61 => .inl (run_load1 rfl rfl Tryd.underlying3 rfl (S61.suf.rowc (i := 0) (e := 0) (j := 0) rfl (by first | omega | (simp only [lens]; omega)) rfl rfl))) ?_
    refine wa_takeP (i := 3) (d := 113) 17 rfl (by kernel_rfl) (by kernel_rfl) (by kernel_rfl) rfl rfl rfl (fun w53 => run_move rfl rfl) ?_
    refine wa_take (i := 4) (d := 114) 16 rfl (by kernel_rfl) (by kernel_rfl) (by kernel_rfl) rfl rfl rfl (fun M8 N5 w54 hle8 S63 => .inl (run_indexR (C := cdInt) (i := 0) 1 rfl rfl rfl sl75 S63.suf rfl (by first | rfl | omega) (by first | omega | (simp only [lens]; omega)))) ?_
    refine wa_take (i := 5) (d := 115) 15 rfl (by kernel_rfl) (by kernel_rfl) (by kernel_rfl) rfl rfl rfl (fun M9 N6 w55 hle9 S64 => .inl (run_load1 rfl rfl Tryd.underlying3 rfl (S64.suf.rowc (i := 0) (e := 1) (j := 0) rfl (by first | omega | (simp only [lens]; omega)) rfl rfl))) ?_
    refine wa_takeP (i := 6) (d := 116) 14 rfl (by kernel_rfl) (by kernel_rfl) (by kernel_rfl) rfl rfl rfl (fun w56 => run_move rfl rfl) ?_
    refine wa_take (i := 7) (d := 117) 13 rfl (by kernel_rfl) (by kernel_rfl) (by kernel_rfl) rfl rfl rfl (fun M11 N8 w57 hle11 S66 => .inl (run_indexR (C := cdInt) (i := 0) 2 rfl rfl rfl sl75 S66.suf rfl (by first | rfl | omega) (by first | omega | (simp only [lens]; omega)))) ?_
    refine wa_take (i := 8) (d := 118) 12 rfl (by kernel_rfl) (by kernel_rfl) (by kernel_rfl) rfl rfl rfl (fun M12 N9 w58 hle12 S67 => .inl (run_load1 rfl rfl Tryd.underlying3 rfl (S67.suf.rowc (i := 0) (e := 2) (j := 0) rfl (by first | omega | (simp only [lens]; omega)) rfl rfl))) ?_
    refine wa_takeP (i := 9) (d := 119) 11 rfl (by kernel_rfl) (by kernel_rfl) (by kernel_rfl) rfl rfl rfl (fun w59 => run_move rfl rfl) ?_
    refine wa_take (i := 10) (d := 120) 10 rfl (by kernel_rfl) (by kernel_rfl) (by kernel_rfl) rfl rfl rfl (fun M14 N11 w60 hle14 S69 => .inl (run_indexR (C := cdInt) (i := 0) 3 rfl rfl rfl sl75 S69.suf rfl (by first | rfl | omega) (by first | omega | (simp only [lens]; omega)))) ?_
    refine wa_take (i := 11) (d := 121) 9 rfl (by kernel_rfl) (by kernel_rfl) (by kernel_rfl) rfl rfl rfl (fun M15 N12 w61 hle15 S70 => .inl (run_load1 rfl rfl Tryd.underlying3 rfl (S70.suf.rowc (i := 0) (e := 3) (j := 0) rfl (by first | omega | (simp only [lens]; omega)) rfl rfl))) ?_
    refine wa_takeP (i := 12) (d := 122) 8 rfl (by kernel_rfl) (by kernel_rfl) (by kernel_rfl) rfl rfl rfl (fun w62 => run_move rfl rfl) ?_
    refine wa_takeP (i := 13) (d := 123) 7 rfl (by kernel_rfl) (by kernel_rfl) (by kernel_rfl) rfl rfl rfl (fun w63 => run_move rfl rfl) ?_
    refine wa_takeP (i := 14) (d := 124) 6 rfl (by kernel_rfl) (by kernel_rfl) (by kernel_rfl) rfl rfl rfl (fun w64 => run_add rfl rfl rfl (by first | omega | (simp only [lens]; omega))) ?_
    refine wa_take (i := 15) (d := 125) 5 rfl (by kernel_rfl) (by kernel_rfl) (by kernel_rfl) rfl rfl rfl (fun M19 N16 w65 hle19 S74 => .inl (run_indexS (k + 1) rfl rfl rfl Tryd.underlying9 ((by first | omega | (simp only [lens]; omega))))) ?_
    refine wa_takeP (i := 16) (d := 126) 4 rfl (by kernel_rfl) (by kernel_rfl) (by kernel_rfl) rfl rfl rfl (fun w66 => run_eqlB (p := (ga s (k + 1))) (q := 43) rfl rfl rfl) ?_
    refine wa_take (i := 17) (d := 127) 3 rfl (by kernel_rfl) (by kernel_rfl) (by kernel_rfl) rfl rfl rfl (fun M21 N18 w67 hle21 S76 => .inl (run_build (l := [_, _, _, _, _]) rfl rfl st49 rfl rfl)) ?_
    refine wa_takeP (i := 18) (d := 128) 2 rfl (by kernel_rfl) (by kernel_rfl) (by kernel_rfl) rfl rfl rfl (fun w68 => run_move rfl rfl) ?_
    refine wa_only (i := 19) 1 rfl (by kernel_rfl) rfl rfl (fun w70 S79 => ?_)
    refine (wo_storeB (i := 1) (us := [_, _, _, _, _]) (l' := [_, _, _, _, _]) (H' := [_, _]) rfl rfl S79 rfl rfl rfl rfl sz49 rfl rfl rfl rfl ?_)
    intro w71 S80; clear S79
    refine LeftW.turn (by kernel_rfl) S80 ?_; clear S80
    change WA _ _ _ _ _ _ _ _ _ _ _ _ [_, _]
    refine wa_takeP (i := 20) (d := 5) 0 rfl (by kernel_rfl) (by kernel_rfl) (by kernel_rfl) rfl rfl rfl (fun w72 => run_assign rfl rfl) ?_
    refine wa_end (by kernel_rfl) (fun w73 S82 => ?_)
    refine nm_sub [(4, _), (5, _)] ⟨rfl, rfl, trivial⟩ ?_
    refine nm_thn ?_
    refine ws_ret hC [_, _] rfl rfl ⟨⟨_, rfl, loadVarN (us := [_, _, _, _, _]) Tryd.underlying49 rfl sz49 (S82.boxcs (i := 1) rfl ⟨rfl, rfl, rfl, rfl, rfl, trivial⟩)⟩, rfl, trivial⟩ ?_
    refine ⟨_, rfl, _, hle1.trans hle2, (S82.pick [] [] (by decide) trivial), ?_⟩
    exact (by have h4 : j = 4 := (by omega); subst h4; rw [crR_ok hci]; rfl)
end Go.Proofs.YtklcecpjgingpaaDoor
