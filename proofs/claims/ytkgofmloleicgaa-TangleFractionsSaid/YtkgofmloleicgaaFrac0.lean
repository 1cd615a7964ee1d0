/- Lists of twists: plain facts on their fractions, no program in sight. -/
import Derived.Test.YtkgofmloleicgaaMem
namespace Go.Proofs.Ytkgofmloleicgaa
open Go.RowKit

def okA (a : Int) : Bool := decide (-16 ≤ a ∧ a ≤ 16)
def sumA (l : List Int) : Nat := (l.map Int.natAbs).sum
/-- Which error a list of twists has. -/
def chkL (l : List Int) : Int := if l.all okA = true then (if l.length % 2 = 0 ∨ 16 < sumA l then 2 else 0) else 3

theorem sumA_snoc (l : List Int) (a : Int) : sumA (l ++ [a]) = sumA l + a.natAbs := by simp [sumA]
theorem sumA_take (l : List Int) (k : Nat) (h : k < l.length) : sumA (l.take (k + 1)) = sumA (l.take k) + (gi l k).natAbs := by rw [take_gi l k h, sumA_snoc]
theorem sumA_le (l : List Int) (h : l.all okA = true) : sumA l ≤ 16 * l.length := by
  induction l with
  | nil => simp [sumA]
  | cons a l ih =>
    rw [List.all_cons, Bool.and_eq_true] at h
    have h1 := ih h.2
    have h2 := h.1
    unfold okA at h2
    rw [decide_eq_true_iff] at h2
    have : sumA (a :: l) = a.natAbs + sumA l := by simp [sumA]
    rw [this, List.length_cons]
    omega
theorem sumA_mono (l : List Int) (k : Nat) : sumA (l.take k) ≤ sumA l := by
  have h : l = l.take k ++ l.drop k := (List.take_append_drop k l).symm
  have h2 : sumA l = sumA (l.take k) + sumA (l.drop k) := by
    have : ∀ a b : List Int, sumA (a ++ b) = sumA a + sumA b := by intro a b; simp [sumA]
    rw [← this, List.take_append_drop]
  omega
theorem all_snoc (l : List Int) (k : Nat) (h : k < l.length) (h1 : (l.take k).all okA = true) (h2 : okA (gi l k) = true) : (l.take (k + 1)).all okA = true := by
  rw [take_gi l k h, List.all_append, h1]; simp [h2]
theorem not_all (l : List Int) (k : Nat) (h : k < l.length) (h2 : okA (gi l k) = false) : l.all okA = false := by
  rw [List.all_eq_false]
  exact ⟨gi l k, by rw [gi_eq h]; exact List.getElem_mem h, by simp [h2]⟩
theorem chk_bad {l : List Int} (h : l.all okA = false) : chkL l = 3 := by unfold chkL; rw [if_neg (by simp [h])]
theorem chk_ok {l : List Int} (h : l.all okA = true) : chkL l = if l.length % 2 = 0 ∨ 16 < sumA l then 2 else 0 := by unfold chkL; rw [if_pos h]

/-- The fraction, not turned into its lowest form. -/
def rf (l : List Int) : Int × Int := l.foldl (fun x a => (x.2 + a * x.1, x.1)) (1, 0)
theorem rf_snoc (l : List Int) (a : Int) : rf (l ++ [a]) = ((rf l).2 + a * (rf l).1, (rf l).1) := by simp [rf]
theorem rf_take (l : List Int) (k : Nat) (h : k < l.length) : rf (l.take (k + 1)) = ((rf (l.take k)).2 + gi l k * (rf (l.take k)).1, (rf (l.take k)).1) := by rw [take_gi l k h, rf_snoc]

theorem gcd_step' (x y a : Int) : Int.gcd (y + a * x) x = Int.gcd x y := by
  rw [Int.gcd_comm (y + a * x) x, Int.mul_comm, Int.gcd_add_mul_left_right]
theorem rf_gcd (l : List Int) : Int.gcd (rf l).1 (rf l).2 = 1 := by
  rw [← List.reverse_reverse l]
  induction l.reverse with
  | nil => rfl
  | cons a l ih =>
    rw [List.reverse_cons, rf_snoc]
    rw [gcd_step']
    exact ih

theorem two_pow (n : Nat) : n + 1 ≤ 2 ^ n := Nat.lt_two_pow_self
theorem rf_size (l : List Int) : (rf l).1.natAbs ≤ 2 ^ sumA l ∧ (rf l).2.natAbs ≤ 2 ^ sumA l := by
  rw [← List.reverse_reverse l]
  induction l.reverse with
  | nil => decide
  | cons a l ih =>
    rw [List.reverse_cons, rf_snoc, sumA_snoc, Nat.pow_add]
    have h1 := two_pow a.natAbs
    have h2 : (a * (rf l.reverse).1).natAbs = a.natAbs * (rf l.reverse).1.natAbs := Int.natAbs_mul _ _
    have h3 := Nat.mul_le_mul_left a.natAbs ih.1
    have h4 := Nat.mul_le_mul_left (2 ^ sumA l.reverse) h1
    have h5 := Int.natAbs_add_le (rf l.reverse).2 (a * (rf l.reverse).1)
    have h6 : 2 ^ sumA l.reverse * (a.natAbs + 1) = a.natAbs * 2 ^ sumA l.reverse + 2 ^ sumA l.reverse := by rw [Nat.mul_add, Nat.mul_one, Nat.mul_comm]
    have h7 : 2 ^ sumA l.reverse * 1 ≤ 2 ^ sumA l.reverse * 2 ^ a.natAbs := Nat.mul_le_mul_left _ (Nat.one_le_two_pow)
    refine ⟨?_, by omega⟩
    show ((rf l.reverse).2 + a * (rf l.reverse).1).natAbs ≤ _
    omega
theorem rf_small (l : List Int) (k : Nat) (h : sumA l ≤ 16) : -65536 ≤ (rf (l.take k)).1 ∧ (rf (l.take k)).1 ≤ 65536 ∧ -65536 ≤ (rf (l.take k)).2 ∧ (rf (l.take k)).2 ≤ 65536 := by
  have h1 := rf_size (l.take k)
  have h2 := sumA_mono l k
  have h3 : 2 ^ sumA (l.take k) ≤ 2 ^ 16 := Nat.pow_le_pow_right (by omega) (by omega)
  have h4 : (2 : Nat) ^ 16 = 65536 := rfl
  omega

/-- The lowest form of a fraction without a common divisor. -/
def nrm (x : Int × Int) : Int × Int := if x.2 = 0 then (1, 0) else if x.2 < 0 then (-x.1, -x.2) else x
theorem nrm_cases (x : Int × Int) (h : Int.gcd x.1 x.2 = 1) : (x.2 = 0 ∧ nrm x = (1, 0) ∧ (x.1 = 1 ∨ x.1 = -1)) ∨ (x.2 < 0 ∧ nrm x = (-x.1, -x.2)) ∨ (0 < x.2 ∧ nrm x = x) := by
  unfold nrm
  by_cases h0 : x.2 = 0
  · refine .inl ⟨h0, by rw [if_pos h0], ?_⟩
    rw [h0, Int.gcd_zero_right] at h
    omega
  · by_cases h1 : x.2 < 0
    · exact .inr (.inl ⟨h1, by rw [if_neg h0, if_pos h1]⟩)
    · exact .inr (.inr ⟨by omega, by rw [if_neg h0, if_neg h1]⟩)
theorem nrm_gcd (x : Int × Int) (h : Int.gcd x.1 x.2 = 1) : Int.gcd (nrm x).1 (nrm x).2 = 1 := by
  rcases nrm_cases x h with ⟨_, e, _⟩ | ⟨_, e⟩ | ⟨_, e⟩ <;> rw [e]
  · rfl
  · rw [Int.gcd_neg, Int.neg_gcd]; exact h
  · exact h
theorem nrm_size (x : Int × Int) (n : Int) (hn : 1 ≤ n) (h : Int.gcd x.1 x.2 = 1) (h1 : -n ≤ x.1 ∧ x.1 ≤ n) (h2 : -n ≤ x.2 ∧ x.2 ≤ n) : -n ≤ (nrm x).1 ∧ (nrm x).1 ≤ n ∧ 0 ≤ (nrm x).2 ∧ (nrm x).2 ≤ n := by
  rcases nrm_cases x h with ⟨_, e, _⟩ | ⟨_, e⟩ | ⟨_, e⟩ <;> rw [e] <;> refine ⟨?_, ?_, ?_, ?_⟩ <;> first | omega | (show _ ≤ _; dsimp only; omega)
/-- One step of the program: turned over, then the next number added. -/
theorem nrm_step (x : Int × Int) (a : Int) (h : Int.gcd x.1 x.2 = 1) :
    (let y := nrm ((nrm x).2, (nrm x).1); if y.2 = 0 then y else nrm (y.1 + a * y.2, y.2)) = nrm (x.2 + a * x.1, x.1) := by
  obtain ⟨p, q⟩ := x
  dsimp only at *
  rcases nrm_cases (p, q) h with ⟨h0, e, h1⟩ | ⟨h0, e⟩ | ⟨h0, e⟩ <;> dsimp only at h0 <;> rw [e] <;> dsimp only
  · rw [h0]
    rcases h1 with h1 | h1 <;> dsimp only at h1 <;> rw [h1] <;> simp [nrm]
  all_goals
    rcases Int.lt_trichotomy p 0 with h1 | h1 | h1
    · have h3 : ¬ 0 < p := by omega
      have h5 : ¬ p = 0 := by omega
      have h7 : a * -p = -(a * p) := Int.mul_neg a p
      simp [nrm, h1, h3, h5] <;> omega
    · simp [nrm, h1]
    · have h5 : ¬ p = 0 := by omega
      have h6 : ¬ p < 0 := by omega
      simp [nrm, h1, h5, h6] <;> omega
end Go.Proofs.Ytkgofmloleicgaa
