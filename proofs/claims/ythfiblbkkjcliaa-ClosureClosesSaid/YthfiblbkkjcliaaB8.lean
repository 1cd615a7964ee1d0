/- Walks printed by eng.py. -/
import Derived.Test.YthfiblbkkjcliaaB7
set_option linter.unusedSimpArgs false
set_option linter.unusedVariables false
namespace Go.Proofs.Ythfiblbkkjcliaa
open Go.ChangeShapes Go.WideShapes Go.ChangeAt Go.RowKit
theorem idxF_at {v : Int} {xs : List Int} (h : v ∈ xs) : ga xs (plL xs v) = v := by
  have h0 := idxF_in h
  unfold plL
  revert h0
  unfold idxF
  split
  · rename_i i e
    intro _
    rw [List.findIdx?_eq_some_iff_getElem] at e
    obtain ⟨h1, h2, _⟩ := e
    rw [show ((i : Int)).toNat = i by omega, ga_eq h1]
    exact of_decide_eq_true h2
  · intro h0; omega
theorem plL_lt {v : Int} {xs : List Int} (h : v ∈ xs) : plL xs v < xs.length := by
  have := idxF_in h; unfold plL; omega
/-- A permutation of the numbers up to n that keeps 0. -/
def permP (n : Nat) (p : List Int) : Prop := holds n p ∧ ga p 0 = 0 ∧ (∀ x, x ≤ n → 0 ≤ ga p x ∧ ga p x ≤ n) ∧ ∀ x y, x ≤ n → y ≤ n → ga p x = ga p y → x = y
def invP (n : Nat) (p w : List Int) : Prop := ∀ j, j < n → ga p ((ga w j).toNat + 1) = (j : Int) + 1
theorem idL_ga (n x : Nat) (h : x ≤ n) : ga (idL n) x = (x : Int) := by
  rw [ga_eq (by simp [idL]; omega)]; simp [idL]
theorem rgL_ga (n x : Nat) (h : x < n) : ga (rgL n) x = (x : Int) := by
  rw [ga_eq (by simpa [rgL] using h)]; simp [rgL]
theorem permP.id_ (n : Nat) : permP n (idL n) := by
  refine ⟨holds_id n, idL_ga n 0 (by omega), fun x hx => ?_, fun x y hx hy e => ?_⟩
  · rw [idL_ga n x hx]; omega
  · rw [idL_ga n x hx, idL_ga n y hy] at e; omega
theorem invP.id_ (n : Nat) : invP n (idL n) (rgL n) := fun j hj => by
  rw [rgL_ga n j hj, idL_ga n _ (by omega)]; omega
theorem thenL_ga {n : Nat} {p : List Int} (h : permP n p) {i : Int} (hi : 1 ≤ i ∧ i < n) (x : Nat) (hx : x ≤ n) : ga (thenL p i) x = if ga p x = i then i + 1 else if ga p x = i + 1 then i else ga p x := by
  obtain ⟨hh, _, hr, hinj⟩ := h
  have hl := hh.1
  have m1 : i ∈ p := holds_mem hh (by omega)
  have m2 : i + 1 ∈ p := holds_mem hh (by omega)
  have a1 := idxF_at m1
  have a2 := idxF_at m2
  have l1 := plL_lt m1
  have l2 := plL_lt m2
  unfold thenL
  rw [ga_set _ _ _ _ (by simpa using l2), ga_set _ _ _ _ l1, a1, a2]
  by_cases c1 : ga p x = i
  · have e : plL p i = x := hinj _ _ (by omega) hx (by rw [a1, c1])
    rw [if_neg (by intro e2; rw [e2] at a2; omega), if_pos e, if_pos c1]
  · by_cases c2 : ga p x = i + 1
    · have e : plL p (i + 1) = x := hinj _ _ (by omega) hx (by rw [a2, c2])
      rw [if_pos e, if_neg c1, if_pos c2]
    · rw [if_neg (by intro e2; rw [e2] at a2; exact c2 a2), if_neg (by intro e2; rw [e2] at a1; exact c1 a1), if_neg c1, if_neg c2]
theorem permP.step {n : Nat} {p : List Int} (h : permP n p) {i : Int} (hi : 1 ≤ i ∧ i < n) : permP n (thenL p i) := by
  have hg := thenL_ga h hi
  obtain ⟨hh, h0, hr, hinj⟩ := h
  refine ⟨holds_then hh (by omega), ?_, fun x hx => ?_, fun x y hx hy e => ?_⟩
  · rw [hg 0 (by omega), h0, if_neg (by omega), if_neg (by omega)]
  · rw [hg x hx]
    have := hr x hx
    split
    · omega
    · split
      · omega
      · exact this
  · rw [hg x hx, hg y hy] at e
    apply hinj x y hx hy
    repeat' split at e
    all_goals omega
theorem invP.step {n : Nat} {p w : List Int} (h : permP n p) (hw : okW n w) (hv : invP n p w) {x : Int} (hx : 1 ≤ max x (-x) ∧ max x (-x) < n) : invP n (thenL p (max x (-x))) (whoS w x) := by
  have hg := thenL_ga h hx
  obtain ⟨hl, hw⟩ := hw
  intro j hj
  have hI : (max x (-x) - 1).toNat + 1 < n := by omega
  have v1 := hv (max x (-x) - 1).toNat (by omega)
  have v2 := hv ((max x (-x) - 1).toNat + 1) hI
  have vj := hv j hj
  have w1 := hw (max x (-x) - 1).toNat (by omega)
  have w2 := hw ((max x (-x) - 1).toNat + 1) hI
  have wj := hw j hj
  unfold whoS
  rw [ga_set _ _ _ _ (by simp; omega)]
  split
  · rename_i e
    rw [hg _ (by omega), v1, if_pos (by omega)]; omega
  · rw [ga_set _ _ _ _ (by omega)]
    split
    · rename_i e
      rw [hg _ (by omega), v2, if_neg (by omega), if_pos (by omega)]; omega
    · rw [hg _ (by omega), vj, if_neg (by omega), if_neg (by omega)]
theorem ends_inv {n : Nat} {l : List Int} (hb : ∀ i, i < l.length → 1 ≤ max (ga l i) (-(ga l i)) ∧ max (ga l i) (-(ga l i)) < n) : ∀ k, k ≤ l.length → permP n (endsP n (l.take k)) ∧ okW n (whoP n (l.take k)) ∧ invP n (endsP n (l.take k)) (whoP n (l.take k)) := by
  intro k
  induction k with
  | zero => intro _; exact ⟨permP.id_ n, okW.rg n, invP.id_ n⟩
  | succ k ih =>
    intro hk
    obtain ⟨h1, h2, h3⟩ := ih (by omega)
    have hbk := hb k (by omega)
    rw [endsP_take _ _ _ (by omega), whoP_take _ _ _ (by omega)]
    exact ⟨h1.step hbk, h2.step hbk, invP.step h1 h2 h3 hbk⟩
theorem outP_ga {n : Nat} {w p : List Int} (hw : okW n w) (hv : invP n p w) : ∀ k, k ≤ n → ∀ i, i < k → ga (outP n w k) (ga w i).toNat = (i : Int) + 1 := by
  intro k
  induction k with
  | zero => intro _ i hi; omega
  | succ k ih =>
    intro hk i hi
    have wk := hw.2 k (by omega)
    have wi := hw.2 i (by omega)
    rw [outP_succ, ga_set _ _ _ _ (by rw [outP_len]; omega)]
    split
    · rename_i e
      have v1 := hv k (by omega)
      have v2 := hv i (by omega)
      rw [e, v2] at v1; omega
    · rename_i e
      refine ih (by omega) i ?_
      by_cases c : i = k
      · subst c; exact absurd rfl e
      · omega
theorem ends_law {n : Nat} {l : List Int} (hb : ∀ i, i < l.length → 1 ≤ max (ga l i) (-(ga l i)) ∧ max (ga l i) (-(ga l i)) < n) : outP n (whoP n l) n = (endsP n l).drop 1 := by
  have h := ends_inv hb l.length (Nat.le_refl _)
  rw [List.take_length] at h
  obtain ⟨hp, hw, hv⟩ := h
  have hl := hp.1.1
  apply ga_ext
  · rw [outP_len, List.length_drop]; omega
  · intro x hx
    rw [outP_len] at hx
    have e0 : ga ((endsP n l).drop 1) x = ga (endsP n l) (x + 1) := by
      rw [ga_eq (by rw [List.length_drop]; omega), ga_eq (by omega), List.getElem_drop]
      congr 1; omega
    rw [e0]
    obtain ⟨_, h0, hr, hinj⟩ := hp
    have r := hr (x + 1) (by omega)
    have ne : ga (endsP n l) (x + 1) ≠ 0 := fun e => by
      have := hinj (x + 1) 0 (by omega) (by omega) (by rw [e, h0]); omega
    have v := hv (ga (endsP n l) (x + 1) - 1).toNat (by omega)
    have wi := hw.2 (ga (endsP n l) (x + 1) - 1).toNat (by omega)
    have e1 := hinj _ (x + 1) (by omega) (by omega) (v.trans (by omega))
    have := outP_ga hw hv n (Nat.le_refl _) (ga (endsP n l) (x + 1) - 1).toNat (by omega)
    rw [show (ga (whoP n l) (ga (endsP n l) (x + 1) - 1).toNat).toNat = x by omega] at this
    rw [this]; omega

end Go.Proofs.Ythfiblbkkjcliaa
