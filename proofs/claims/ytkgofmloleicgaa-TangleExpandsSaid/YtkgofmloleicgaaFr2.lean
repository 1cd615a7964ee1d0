/- Contracts of the tests of fractions, and of what says whether two links are the same. -/
import Derived.Test.YtkgofmloleicgaaFr1
namespace Go.Proofs.Ytkgofmloleicgaa
open Go.ChangeShapes Go.WideShapes Go.ChangeAt Go.RowKit

/-- May a fraction be expanded? -/
def lowB (p q : Int) : Bool := decide (1 ≤ p ∧ p ≤ 1000 ∧ (p = 1 ∧ q = 1 ∨ 0 < q ∧ q < p ∧ Nat.gcd p.toNat q.toNat = 1))

def BoolPost (b : Bool) (w : World) (e : Ending) (w' : World) : Prop := e = .returned (.bool b) ∧ Below w.heap.size w w'

theorem lowB_out {p q : Int} (h : ¬ (1 ≤ p ∧ p ≤ 1000 ∧ (p = 1 ∧ q = 1 ∨ 0 < q ∧ q < p))) : lowB p q = false := by
  unfold lowB; rw [decide_eq_false_iff_not]; omega
theorem lowB_in {a b : Nat} (h1 : a ≤ 1000) (h2 : 1 ≤ b) (h3 : b < a) : lowB a b = decide (Nat.gcd a b = 1) := by
  unfold lowB
  rw [decide_eq_decide, show ((a : Int)).toNat = a by omega, show ((b : Int)).toNat = b by omega]
  exact ⟨fun h => by rcases h with ⟨_, _, h | h⟩; (exfalso; omega); exact h.2.2, fun h => ⟨by omega, by omega, .inr ⟨by omega, by omega, h⟩⟩⟩

theorem low_cases (p q : Int) : (p < 1) ∨ (1 < p ∧ 1000 < p) ∨ (1 ≤ p ∧ p ≤ 1 ∧ q < 1) ∨ (1 ≤ p ∧ p ≤ 1 ∧ 1 < q) ∨ (1 < p ∧ p ≤ 1000 ∧ q ≤ 0) ∨ (1 < p ∧ p ≤ 1000 ∧ 0 < q ∧ p ≤ q) ∨ (p = 1 ∧ q = 1) ∨
    (∃ a b : Nat, p = a ∧ q = b ∧ 1 < a ∧ a ≤ 1000 ∧ 1 ≤ b ∧ b < a) := by
  by_cases h : 1 < p ∧ p ≤ 1000 ∧ 1 ≤ q ∧ q < p
  · right; right; right; right; right; right; right
    exact ⟨p.toNat, q.toNat, by omega, by omega, by omega, by omega, by omega, by omega⟩
  · omega

set_option maxHeartbeats 1000000 in
theorem right_any (p q : Int) (w : World) : Calls Try.prog 20 #[.int .i64 p, .int .i64 q] w (BoolPost (lowB p q) w) := by
  rcases low_cases p q with h | h | h | h | h | h | h | ⟨a, b, rfl, rfl, h⟩
  case inr.inr.inr.inr.inr.inr.inr =>
    obtain ⟨h1, h2, h3, h4⟩ := h
    have e0 : (((a : Int) == 1) : Bool) = false := by rw [beq_eq_false_iff_ne]; omega
    rw [lowB_in h2 h3 h4]
    go_enter Try.func20, Try.ntmps20
    go_wp2_with (go_at_call 32; refine (gcd_any _ _ _ (by omega) (by omega)).mono ?_; rintro e w' ⟨rfl, hb⟩)
    go_ret
    exact ⟨ret_bool (by rw [Bool.eq_iff_iff, beq_iff_eq, decide_eq_true_iff]; omega), hb⟩
  case inr.inr.inr.inr.inr.inr.inl =>
    obtain ⟨rfl, rfl⟩ := h
    go_enter Try.func20, Try.ntmps20
    go_wp2_with fail
    go_ret
    exact ⟨rfl, Below.refl _ _⟩
  all_goals
    have hf : lowB p q = false := lowB_out (by omega)
    rw [hf]
    clear hf
    go_enter Try.func20, Try.ntmps20
    go_wp2_with fail
    go_ret
    exact ⟨ret_bool (by first | rfl | (rw [beq_eq_false_iff_ne]; omega) | (simp; omega)), Below.refl _ _⟩

set_option maxHeartbeats 1000000 in
theorem lowest_any (p q : Int) (w : World) : Calls Try.prog 8 #[.int .i64 p, .int .i64 q] w (BoolPost (lowB p q) w) := by
  rcases low_cases p q with h | h | h | h | h | h | h | ⟨a, b, rfl, rfl, h⟩
  case inr.inr.inr.inr.inr.inr.inr =>
    obtain ⟨h1, h2, h3, h4⟩ := h
    have e0 : (((a : Int) == 1) : Bool) = false := by rw [beq_eq_false_iff_ne]; omega
    rw [lowB_in h2 h3 h4]
    go_enter Try.func8, Try.ntmps8
    go_wp2_with (go_at_call 21; refine (divisor_any _ _ _ (by omega) (by omega) (by omega)).mono ?_; rintro e w' ⟨n, rfl, hb, rfl⟩)
    go_ret
    exact ⟨ret_bool (by rw [Bool.eq_iff_iff, beq_iff_eq, decide_eq_true_iff, ← hb]; omega), Below.refl _ _⟩
  case inr.inr.inr.inr.inr.inr.inl =>
    obtain ⟨rfl, rfl⟩ := h
    go_enter Try.func8, Try.ntmps8
    go_wp2_with fail
    go_ret
    exact ⟨rfl, Below.refl _ _⟩
  all_goals
    have hf : lowB p q = false := lowB_out (by omega)
    rw [hf]
    clear hf
    have e2 : ((q == 1) : Bool) = false ∨ ((p == 1) : Bool) = false := by rw [beq_eq_false_iff_ne, beq_eq_false_iff_ne]; omega
    rcases e2 with e2 | e2
    all_goals
      go_enter Try.func8, Try.ntmps8
      go_wp2_with fail
      all_goals
        go_ret
        exact ⟨ret_bool (by first | rfl | (rw [beq_eq_false_iff_ne]; omega) | (simp; omega)), Below.refl _ _⟩

/-- What the fractions' links are: the same? -/
def sameB (p q r s : Int) : Bool := decide (p = r ∧ (q = s ∨ (q * s - 1) % p = 0))

theorem low_range {p q : Int} (h : lowB p q = true) : 1 ≤ p ∧ p ≤ 1000 ∧ 1 ≤ q ∧ q ≤ p ∧ (q = p → p = 1) := by
  unfold lowB at h; rw [decide_eq_true_iff] at h; omega

def TwoPost (b : Bool) (n : Int) (w : World) (e : Ending) (w' : World) : Prop := e = .returned (.tuple #[.bool b, .int .i64 n]) ∧ Below w.heap.size w w'

theorem mul_range {q s : Int} (h1 : 1 ≤ q) (h2 : q ≤ 1000) (h3 : 1 ≤ s) (h4 : s ≤ 1000) : 1 ≤ q * s ∧ q * s ≤ 1000000 := by
  have a := Int.mul_le_mul h2 h4 (by omega) (by omega)
  have b := Int.mul_le_mul h1 h3 (by omega) (by omega)
  omega

theorem mod_same {p q s : Int} : ((q * s) % p = 1 % p) ↔ (q * s - 1) % p = 0 := by
  rw [Int.emod_eq_emod_iff_emod_sub_eq_zero]

set_option maxHeartbeats 1000000 in
theorem same_no (p q r s : Int) (w : World) (h : lowB p q = false ∨ lowB r s = false) :
    Calls Try.prog 7 #[.int .i64 p, .int .i64 q, .int .i64 r, .int .i64 s] w (TwoPost false 3 w) := by
  cases h1 : lowB p q
  · have H := Lib.hid h1
    clear h1 h
    go_enter Try.func7, Try.ntmps7
    go_wp2_with (go_at_call 20; refine (right_any _ _ _).mono ?_; rintro e w' ⟨rfl, hb⟩; rw [H.out])
    go_ret2
    exact ⟨rfl, by assumption⟩
  · have h2 : lowB r s = false := by rw [h1] at h; simpa using h
    have H := Lib.hid h1
    have H2 := Lib.hid h2
    clear h1 h h2
    go_enter Try.func7, Try.ntmps7
    go_wp2_with fail
    refine (right_any _ _ _).mono ?_; rintro e w' ⟨rfl, hb⟩; rw [H.out]
    go_wp2_with fail
    refine (right_any _ _ _).mono ?_; rintro e w'' ⟨rfl, hb'⟩; rw [H2.out]
    go_wp2_with fail
    go_ret2
    exact ⟨rfl, hb.trans (hb'.mono hb.size)⟩

set_option maxHeartbeats 1000000 in
theorem same_yes (p q r s : Int) (w : World) (h1 : lowB p q = true) (h2 : lowB r s = true) :
    Calls Try.prog 7 #[.int .i64 p, .int .i64 q, .int .i64 r, .int .i64 s] w (TwoPost (sameB p q r s) 0 w) := by
  have r1 := low_range h1
  have r2 := low_range h2
  have r3 := mul_range (q := q) (s := s) (by omega) (by omega) (by omega) (by omega)
  have H := Lib.hid h1
  have H2 := Lib.hid h2
  clear h1 h2
  obtain ⟨r1a, r1b, r1c, r1d, r1e⟩ := r1
  obtain ⟨r2a, r2b, r2c, r2d, r2e⟩ := r2
  obtain ⟨r3a, r3b⟩ := r3
  have R1 := Lib.hid r1e
  have R2 := Lib.hid r2e
  clear r1e r2e
  generalize hb : sameB p q r s = b
  have HB := Lib.hid hb
  clear hb
  by_cases hpr : p = r
  · have e1 : ((p == r) : Bool) = true := by rw [beq_iff_eq]; exact hpr
    have e1' := Lib.hid hpr
    clear hpr
    by_cases hqs : q = s
    · have e2 : ((q == s) : Bool) = true := by rw [beq_iff_eq]; exact hqs
      have e2' := Lib.hid hqs
      clear hqs
      go_enter Try.func7, Try.ntmps7
      go_wp2_with fail
      refine (right_any _ _ _).mono ?_; rintro e w' ⟨rfl, hb⟩; rw [H.out]
      go_wp2_with fail
      refine (right_any _ _ _).mono ?_; rintro e w'' ⟨rfl, hb'⟩; rw [H2.out]
      go_wp2_with fail
      go_ret2
      exact ⟨by rw [← HB.out]; simp [sameB, e1'.out, e2'.out], hb.trans (hb'.mono hb.size)⟩
    · have e2 : ((q == s) : Bool) = false := by rw [beq_eq_false_iff_ne]; exact hqs
      have e2' := Lib.hid hqs
      clear hqs
      go_enter Try.func7, Try.ntmps7
      go_wp2_with fail
      refine (right_any _ _ _).mono ?_; rintro e w' ⟨rfl, hb⟩; rw [H.out]
      go_wp2_with fail
      refine (right_any _ _ _).mono ?_; rintro e w'' ⟨rfl, hb'⟩; rw [H2.out]
      go_wp2_with fail
      go_ret2
      exact ⟨by rw [← HB.out]; simp [sameB, e1'.out, e2'.out, Bool.beq_eq_decide_eq], hb.trans (hb'.mono hb.size)⟩
  · have e1 : ((p == r) : Bool) = false := by rw [beq_eq_false_iff_ne]; exact hpr
    have e1' := Lib.hid hpr
    clear hpr
    go_enter Try.func7, Try.ntmps7
    go_wp2_with fail
    refine (right_any _ _ _).mono ?_; rintro e w' ⟨rfl, hb⟩; rw [H.out]
    go_wp2_with fail
    refine (right_any _ _ _).mono ?_; rintro e w'' ⟨rfl, hb'⟩; rw [H2.out]
    go_wp2_with fail
    go_ret2
    exact ⟨by rw [← HB.out]; simp [sameB, e1'.out], hb.trans (hb'.mono hb.size)⟩

set_option maxHeartbeats 1000000 in
theorem sameRef (p q r s : Int) (w : World) (h1 : lowB p q = true) (h2 : lowB r s = true) :
    Calls Try.prog 9 #[.int .i64 p, .int .i64 q, .int .i64 r, .int .i64 s] w (BoolPost (sameB p q r s) w) := by
  have r1 := low_range h1
  have r2 := low_range h2
  have r3 := mul_range (q := q) (s := s) (by omega) (by omega) (by omega) (by omega)
  clear h1 h2
  obtain ⟨r1a, r1b, r1c, r1d, r1e⟩ := r1
  obtain ⟨r2a, r2b, r2c, r2d, r2e⟩ := r2
  obtain ⟨r3a, r3b⟩ := r3
  clear r1e r2e
  have hms := Lib.hid (mod_same (p := p) (q := q) (s := s))
  generalize hb : sameB p q r s = b
  have HB := Lib.hid hb
  clear hb
  by_cases hpr : p = r
  · have e1 : ((p == r) : Bool) = true := by rw [beq_iff_eq]; exact hpr
    have e1' := Lib.hid hpr
    clear hpr
    by_cases hqs : q = s
    · have e2 : ((q == s) : Bool) = true := by rw [beq_iff_eq]; exact hqs
      have e2' := Lib.hid hqs
      clear hqs
      go_enter Try.func9, Try.ntmps9
      go_wp2_with fail
      go_quiet (fail)
      go_wp2
      go_ret
      exact ⟨by rw [← HB.out]; simp [sameB, e1'.out, e2'.out], below_drewN (Below.refl _ _) _⟩
    · have e2 : ((q == s) : Bool) = false := by rw [beq_eq_false_iff_ne]; exact hqs
      have e2' := Lib.hid hqs
      clear hqs
      go_enter Try.func9, Try.ntmps9
      go_wp2_with fail
      go_quiet (fail)
      go_wp2
      go_ret
      obtain rfl := e1'.out
      have hm := hms.out
      exact ⟨by rw [← HB.out]; simp [sameB, e2'.out, Bool.beq_eq_decide_eq, ← hm], below_drewN (Below.refl _ _) _⟩
  · have e1 : ((p == r) : Bool) = false := by rw [beq_eq_false_iff_ne]; exact hpr
    have e1' := Lib.hid hpr
    clear hpr
    go_enter Try.func9, Try.ntmps9
    go_wp2_with fail
    go_quiet (fail)
    go_wp2
    go_ret
    exact ⟨by rw [← HB.out]; simp [sameB, e1'.out], below_drewN (Below.refl _ _) _⟩

set_option maxHeartbeats 1000000 in
theorem lawSame (p q r s : Int) (w : World) :
    Calls Try.prog 3 #[.int .i64 p, .int .i64 q, .int .i64 r, .int .i64 s] w (BoolPost true w) := by
  cases h1 : lowB p q
  · have H1 := Lib.hid h1
    clear h1
    go_enter Try.func3, Try.ntmps3
    go_wp2_with fail
    refine (same_no _ _ _ _ _ (.inl H1.out)).mono ?_; rintro e w1 ⟨rfl, hb1⟩
    go_wp2_with fail
    refine (lowest_any _ _ _).mono ?_; rintro e w2 ⟨rfl, hb2⟩; rw [H1.out]
    go_wp2_with fail
    go_ret
    exact ⟨rfl, hb1.trans (hb2.mono hb1.size)⟩
  · cases h2 : lowB r s
    · have H1 := Lib.hid h1
      have H2 := Lib.hid h2
      clear h1 h2
      go_enter Try.func3, Try.ntmps3
      go_wp2_with fail
      refine (same_no _ _ _ _ _ (.inr H2.out)).mono ?_; rintro e w1 ⟨rfl, hb1⟩
      go_wp2_with fail
      refine (lowest_any _ _ _).mono ?_; rintro e w2 ⟨rfl, hb2⟩; rw [H1.out]
      go_wp2_with fail
      refine (lowest_any _ _ _).mono ?_; rintro e w3 ⟨rfl, hb3⟩; rw [H2.out]
      go_wp2_with fail
      go_ret
      exact ⟨rfl, (hb1.trans (hb2.mono hb1.size)).trans (hb3.mono (Nat.le_trans hb1.size hb2.size))⟩
    · have H1 := Lib.hid h1
      have H2 := Lib.hid h2
      clear h1 h2
      have HR := Lib.hid (fun w' => sameRef p q r s w' H1.out H2.out)
      have HY := Lib.hid (fun w' => same_yes p q r s w' H1.out H2.out)
      generalize sameB p q r s = b at *
      go_enter Try.func3, Try.ntmps3
      go_wp2_with fail
      refine (HY.out _).mono ?_; rintro e w1 ⟨rfl, hb1⟩
      go_wp2_with fail
      refine (lowest_any _ _ _).mono ?_; rintro e w2 ⟨rfl, hb2⟩; rw [H1.out]
      go_wp2_with fail
      refine (lowest_any _ _ _).mono ?_; rintro e w3 ⟨rfl, hb3⟩; rw [H2.out]
      go_wp2_with fail
      refine (HR.out _).mono ?_; rintro e w4 ⟨rfl, hb4⟩
      go_wp2_with fail
      go_ret
      exact ⟨by simp, (((hb1.trans (hb2.mono hb1.size)).trans (hb3.mono (Nat.le_trans hb1.size hb2.size)))).trans (hb4.mono (Nat.le_trans (Nat.le_trans hb1.size hb2.size) hb3.size))⟩

end Go.Proofs.Ytkgofmloleicgaa
