/- Contracts of the small functions under TangleSame: the greatest common divisor, and the reference's. -/
import Derived.Test.YtkgofmloleicgaaMem
namespace Go.Proofs.Ytkgofmloleicgaa
open Go.ChangeShapes Go.WideShapes Go.ChangeAt Go.RowKit

theorem gcd_step (x y : Nat) : Nat.gcd y (x % y) = Nat.gcd x y := by
  rw [Nat.gcd_comm x y, Nat.gcd_rec y x, Nat.gcd_comm]

set_option maxHeartbeats 400000 in
theorem gcd_any (a b : Nat) (w : World) (h1 : a ≤ 1000) (h3 : b ≤ 1000) :
    Calls Try.prog 32 #[.int .i64 a, .int .i64 b] w fun e w' => e = .returned (.int .i64 (Nat.gcd a b)) ∧ Below w.heap.size w w' := by
  go_enter Try.func32, Try.ntmps32
  go_wp2
  go_loopw [0, 1] (fun u v wr => ∃ x y : Nat, x ≤ 1000 ∧ y ≤ 1000 ∧ u = .int .i64 x ∧ v = .int .i64 y ∧ Hid (Nat.gcd x y = Nat.gcd a b) ∧ Below w.heap.size w wr) (fun _ v _ => (intOf v).toNat)
  case atStart => exact ⟨a, b, h1, h3, rfl, rfl, rfl, Below.refl _ _⟩
  case round =>
    obtain ⟨x, y, hx, hy, rfl, rfl, hg, hb⟩ := hrel
    by_cases hy0 : y = 0
    · subst hy0
      go_wp2
      go_ret
      have hg' := hg.out
      simp at hg'
      exact ⟨ret_int (by omega), hb⟩
    · have hpos : 0 < y := by omega
      have hlt : x % y < y := Nat.mod_lt _ hpos
      go_wp2
      go_quiet (fail)
      go_wp2
      go_roundw
      case rel => exact ⟨y, x % y, hy, by omega, rfl, by simp, by rw [Hid, gcd_step x y]; exact hg.out, below_drewN hb _⟩
      case measure => simp [intOf]; omega

theorem div_one (a b : Nat) (ha : 1 ≤ a) (h : ∀ m : Nat, 1 < m → m ≤ a → ¬(a % m = 0 ∧ b % m = 0)) : Nat.gcd a b = 1 := by
  have hp : 0 < Nat.gcd a b := Nat.gcd_pos_of_pos_left _ (by omega)
  have h1 : a % Nat.gcd a b = 0 := Nat.mod_eq_zero_of_dvd (Nat.gcd_dvd_left a b)
  have h2 : b % Nat.gcd a b = 0 := Nat.mod_eq_zero_of_dvd (Nat.gcd_dvd_right a b)
  have h3 : Nat.gcd a b ≤ a := Nat.le_of_dvd (by omega) (Nat.gcd_dvd_left a b)
  rcases Nat.lt_or_ge 1 (Nat.gcd a b) with hl | hl
  · exact absurd ⟨h1, h2⟩ (h _ hl h3)
  · omega

theorem div_more (a b n : Nat) (hn : 1 < n) (h1 : a % n = 0) (h2 : b % n = 0) : Nat.gcd a b ≠ 1 := by
  intro h
  have := Nat.dvd_gcd (Nat.dvd_of_mod_eq_zero h1) (Nat.dvd_of_mod_eq_zero h2)
  rw [h] at this
  have := Nat.le_of_dvd (by omega) this
  omega

/-- 'divisorOf': it is one just where the greatest common divisor is. -/
def DivPost (a b : Nat) (w : World) (e : Ending) (w' : World) : Prop :=
  ∃ n : Nat, e = .returned (.int .i64 n) ∧ (n = 1 ↔ Nat.gcd a b = 1) ∧ w' = w

set_option maxHeartbeats 400000 in
theorem divisor_any (a b : Nat) (w : World) (h0 : 1 ≤ a) (h1 : a ≤ 1000) (h3 : b ≤ 1000) :
    Calls Try.prog 21 #[.int .i64 a, .int .i64 b] w (DivPost a b w) := by
  go_enter Try.func21, Try.ntmps21
  go_wp2
  go_loop [5] (fun u => ∃ n : Nat, 1 ≤ n ∧ n ≤ a ∧ u = .int .i64 n ∧ Hid (∀ m : Nat, n < m → m ≤ a → ¬(a % m = 0 ∧ b % m = 0))) (fun u => (intOf u).toNat)
  case atStart => exact ⟨a, h0, Nat.le_refl _, rfl, fun m h h' => by omega⟩
  case round =>
    obtain ⟨n, hn1, hn2, rfl, hno⟩ := hrel
    by_cases hn : n = 1
    · subst hn
      go_wp2
      go_ret
      exact ⟨1, rfl, ⟨fun _ => div_one a b h0 hno.out, fun _ => rfl⟩, rfl⟩
    · have hlt : 1 < n := by omega
      by_cases hd : a % n = 0
      · by_cases he : b % n = 0
        · have e1 : ((((a : Int) % (n : Int)) == 0) : Bool) = true := by rw [beq_iff_eq]; omega
          have e2 : ((((b : Int) % (n : Int)) == 0) : Bool) = true := by rw [beq_iff_eq]; omega
          have hd' := Lib.hid hd
          have he' := Lib.hid he
          clear hd he
          go_wp2
          go_ret
          exact ⟨n, rfl, ⟨fun h => absurd h hn, fun h => absurd h (div_more a b n hlt hd'.out he'.out)⟩, rfl⟩
        · have e1 : ((((a : Int) % (n : Int)) == 0) : Bool) = true := by rw [beq_iff_eq]; omega
          have e2 : ((((b : Int) % (n : Int)) == 0) : Bool) = false := by rw [beq_eq_false_iff_ne]; omega
          have hd' := Lib.hid hd
          have he' := Lib.hid he
          clear hd he
          go_wp2
          go_round
          case rel => exact ⟨n - 1, by omega, by omega, by rw [show ((n - 1 : Nat) : Int) = (n : Int) - 1 by omega], fun m h h' => by rcases Nat.lt_or_ge n m with hm | hm; (exact hno.out m hm h'); (obtain rfl : m = n := by omega); exact fun hh => he'.out hh.2⟩
          case measure => simp [intOf]; omega
      · have e1 : ((((a : Int) % (n : Int)) == 0) : Bool) = false := by rw [beq_eq_false_iff_ne]; omega
        have hd' := Lib.hid hd
        clear hd
        go_wp2
        go_round
        case rel => exact ⟨n - 1, by omega, by omega, by rw [show ((n - 1 : Nat) : Int) = (n : Int) - 1 by omega], fun m h h' => by rcases Nat.lt_or_ge n m with hm | hm; (exact hno.out m hm h'); (obtain rfl : m = n := by omega); exact fun hh => hd'.out hh.1⟩
        case measure => simp [intOf]; omega
end Go.Proofs.Ytkgofmloleicgaa
