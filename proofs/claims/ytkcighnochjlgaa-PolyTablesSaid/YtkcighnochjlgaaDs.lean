/- Determinants by sets of places. Nothing of one program stands here. -/
import Derived.Test.YtkcighnochjlgaaWk
import Derived.Test.YtkcighnochjlgaaE19
namespace Go.Proofs.Ytkcighnochjlgaa
open Go.ChangeShapes Go.WideShapes Go.ChangeAt Go.RowKit

def tb (s : Nat) : Nat → Bool := fun c => s.testBit c
theorem pcN_bl (s k : Nat) : pcN s k = bl (tb s) k := by
  induction k with
  | zero => rfl
  | succ k ih => rw [pcN, bl, ih]; rfl
theorem bl_flat {S : Nat → Bool} {n : Nat} (h : ∀ c, n ≤ c → S c = false) (d : Nat) : bl S (n + d) = bl S n := by
  induction d with
  | zero => rfl
  | succ d ih => rw [show n + (d + 1) = n + d + 1 by omega, bl, ih, if_neg (by rw [h _ (by omega)]; exact Bool.false_ne_true)]; rfl
theorem bl_le (S : Nat → Bool) (n : Nat) : bl S n ≤ n := by
  induction n with
  | zero => exact Nat.le_refl _
  | succ n ih => rw [bl]; split <;> omega
theorem tb_high {s n c : Nat} (h : s < 2 ^ n) (hc : n ≤ c) : tb s c = false := Nat.testBit_lt_two_pow (Nat.lt_of_lt_of_le h (Nat.pow_le_pow_right (by decide) hc))
theorem pc_eq {s n : Nat} (h : s < 2 ^ n) (hn : n ≤ 12) : pcN s 12 = bl (tb s) n ∧ bl (tb s) n ≤ n := by
  refine ⟨?_, bl_le _ _⟩
  rw [pcN_bl]
  have := bl_flat (S := tb s) (n := n) (fun c hc => tb_high h hc) (12 - n)
  rw [show n + (12 - n) = 12 by omega] at this
  exact this
theorem pc_pos {s : Nat} (h : s < 4096) (h1 : 1 ≤ s) : 1 ≤ pcN s 12 := by
  rw [pcN_bl]
  refine Nat.one_le_iff_ne_zero.2 fun e => ?_
  have hz : ∀ c, c < 12 → tb s c = false := fun c hc => by
    cases hb : tb s c with
    | false => rfl
    | true => have := bl_lt hc hb; omega
  have : s = 0 := Nat.eq_of_testBit_eq fun i => by
    rw [Nat.zero_testBit]
    by_cases hi : i < 12
    · exact hz i hi
    · exact tb_high (n := 12) h (by omega)
  omega
theorem tb_clr {s n : Nat} (hs : s < 4096) (hn : n ≤ 12) : tb (clr s n) = del (tb s) n := clr_testBit (Nat.lt_trans hs (by decide)) (by omega)
theorem clr_pow {s n k : Nat} (h : s < 2 ^ n) : clr s k < 2 ^ n := Nat.lt_of_le_of_lt (clr_le s k) h
theorem pc_clr {s k : Nat} (hs : s < 4096) (hk : k < 12) (h : tb s k = true) : pcN (clr s k) 12 + 1 = pcN s 12 := by
  rw [pcN_bl, pcN_bl, tb_clr hs (by omega)]
  exact card_del hk h
theorem bl_shift (S : Nat → Bool) (a m : Nat) : bl (fun j => S (a + j)) m + bl S a = bl S (a + m) := by
  induction m with
  | zero => show 0 + bl S a = bl S a; omega
  | succ m ih => rw [bl, show a + (m + 1) = a + m + 1 by omega, bl, ← ih]; omega
theorem pc_above {s n k : Nat} (h : s < 2 ^ n) (hn : n ≤ 12) (_ : k < n) : pcN (s / 2 ^ (k + 1)) 12 = ab (tb s) n k := by
  have e : tb (s / 2 ^ (k + 1)) = fun j => tb s (k + 1 + j) := by
    funext j
    unfold tb
    rw [Nat.testBit_div_two_pow]
    congr 1; omega
  rw [pcN_bl, e]
  have h1 := bl_shift (tb s) (k + 1) 12
  have h2 := bl_flat (S := tb s) (n := n) (fun c hc => tb_high h hc) (k + 1 + 12 - n)
  rw [show n + (k + 1 + 12 - n) = k + 1 + 12 by omega] at h2
  unfold ab
  omega
theorem bit_iff (s k : Nat) : tb s k = true ↔ s / 2 ^ k % 2 = 1 := by
  unfold tb
  rw [Nat.testBit_eq_decide_div_mod_eq, decide_eq_true_iff]
theorem sg_mono (b : Nat) (y : Pol) {c : Int} (h : c = 1 - 2 * ((b : Int) % 2)) : y * mono 0 c = sg b y := by
  subst h
  unfold sg
  by_cases hb : b % 2 = 1
  · rw [if_pos hb, show (1 : Int) - 2 * ((b : Int) % 2) = -1 by omega, ← mono_neg, Pol.mul_neg]
    exact congrArg _ (Pol.mul_one y)
  · rw [if_neg hb, show (1 : Int) - 2 * ((b : Int) % 2) = 1 by omega]
    exact Pol.mul_one y
def rv : Nat → List Nat
  | 0 => []
  | r + 1 => r :: rv r
theorem rv_eq (n : Nat) : rv n = (List.range n).reverse := by
  induction n with
  | zero => rfl
  | succ n ih => rw [rv, ih, List.range_succ, List.reverse_append]; rfl
/-- What a set of places comes to. -/
def dS (m : Nat → Nat → Pol) (n s : Nat) : Pol := dL m n (rv (pcN s 12)) (tb s)
def dTerm (m : Nat → Nat → Pol) (n s r c : Nat) : Pol := if tb s c = true then sg (ab (tb s) n c) (m r c * dS m n (clr s c)) else Pol.o
theorem dS_step {m : Nat → Nat → Pol} {n s r : Nat} (hs : s < 4096) (hn : n ≤ 12) (hr : pcN s 12 = r + 1) : dS m n s = sm n (dTerm m n s r) := by
  unfold dS
  rw [hr, rv, dL]
  refine sm_congr fun c hc => ?_
  unfold dTerm
  by_cases h : tb s c = true
  · rw [if_pos h, if_pos h]
    have := pc_clr hs (show c < 12 by omega) h
    show _ = sg (ab (tb s) n c) (m r c * dL m n (rv (pcN (clr s c) 12)) (tb (clr s c)))
    rw [show pcN (clr s c) 12 = r by omega, tb_clr hs (by omega)]
  · rw [if_neg h, if_neg h]
theorem dS_zero (m : Nat → Nat → Pol) (n : Nat) : dS m n 0 = Pol.i := by
  have : pcN 0 12 = 0 := by decide
  unfold dS
  rw [this]; rfl
/-- The determinant. -/
def detP (m : Nat → Nat → Pol) (n : Nat) : Pol := dF m n (List.range n) (fun c => decide (c < n))
theorem tb_full (n : Nat) : tb (2 ^ n - 1) = fun c => decide (c < n) := by
  funext c
  exact Nat.testBit_two_pow_sub_one n c
theorem bl_full (n k : Nat) (h : k ≤ n) : bl (fun c => decide (c < n)) k = k := by
  induction k with
  | zero => rfl
  | succ k ih => rw [bl, ih (by omega), if_pos (by simp; omega)]
theorem pow_pos2 (n : Nat) : 0 < 2 ^ n := Nat.pow_pos (by decide)
theorem pc_full {n : Nat} (hn : n ≤ 12) : pcN (2 ^ n - 1) 12 = n := by
  rw [(pc_eq (s := 2 ^ n - 1) (n := n) (by have := pow_pos2 n; omega) hn).1, tb_full, bl_full n n (Nat.le_refl _)]
theorem dS_full (m : Nat → Nat → Pol) {n : Nat} (hn : n ≤ 12) : dS m n (2 ^ n - 1) = detP m n := by
  unfold dS detP
  rw [pc_full hn, tb_full, rv_eq, ← dF_dL n (List.range n) _ (by simp) (bl_full n n (Nat.le_refl _))]
theorem els_full (n : Nat) : els (fun c => decide (c < n)) n = List.range n := by
  unfold els
  exact List.filter_eq_self.2 fun x hx => by simp at hx; simp [hx]
theorem dT_detP (m : Nat → Nat → Pol) (n : Nat) : dT n ((List.range n).map fun r => (List.range n).map (m r)) = detP m n := by
  have := dT_dF m n (List.range n) (fun c => decide (c < n)) (by rw [List.length_range]; exact bl_full n n (Nat.le_refl _))
  rw [List.length_range, els_full] at this
  exact this
theorem pow_le12 {n : Nat} (h : n ≤ 12) : 2 ^ n ≤ 4096 := Nat.pow_le_pow_right (by decide) h
theorem bd_step {s k B : Nat} (h : pcN (clr s k) 12 + 1 = pcN s 12) : B + pcN (clr s k) 12 * B ≤ pcN s 12 * B := by
  rw [← h, Nat.succ_mul]; omega
theorem pc_le12 (s : Nat) : pcN s 12 ≤ 12 := by rw [pcN_bl]; exact bl_le _ _
theorem pc_mul (s B : Nat) : pcN s 12 * B ≤ 12 * B := Nat.mul_le_mul_right _ (pc_le12 s)
end Go.Proofs.Ytkcighnochjlgaa
