/- Bits: shifts, masks, counts. Nothing of one program stands here. -/
import Derived.Test.YtkcighnochjlgaaE17
namespace Go.Proofs.Ytkcighnochjlgaa
open Go.ChangeShapes Go.WideShapes Go.ChangeAt Go.RowKit

section
variable {P : Program} {o : Oper} {L : List (Nat × Value)} {w : World} {x y : Operand} {t t' src dst : TypeId} {a b : Int} {k k2 : IntKind}
theorem run_binK {bo : BinOp} {v : Value} (ho : o.op = .binOp bo t x y t') (hx : oev L x = some (.int k a)) (hy : oev L y = some (.int k2 b)) (h : ∀ w, (binOp bo t (.int k a) (.int k2 b)).run P w = .ok v w) : Run P o L w v w := by
  intro n c hc
  unfold execOp
  simp only [ho, hc.eval hx, hc.eval hy]
  have : ∀ w, (eqGuard bo t x y (.int k a) (.int k2 b)).run P w = .ok () w := by
    intro w
    unfold eqGuard
    split <;> simp
  simp [this, h]
theorem run_shrK (ho : o.op = .binOp .shr t x y t') (hx : oev L x = some (.int k a)) (hy : oev L y = some (.int k2 b)) (h : 0 ≤ b) : Run P o L w (.int k (a.fdiv (2 ^ min b.toNat k.bits))) w :=
  run_binK ho hx hy fun w => by simp [binOp, Op.shift, Int.not_lt.2 h]
theorem run_shlK (ho : o.op = .binOp .shl t x y t') (hx : oev L x = some (.int k a)) (hy : oev L y = some (.int k2 b)) (h : 0 ≤ b) : Run P o L w (.int k (k.wrap (a * 2 ^ min b.toNat k.bits))) w :=
  run_binK ho hx hy fun w => by simp [binOp, Op.shift, Int.not_lt.2 h]
theorem run_andK (ho : o.op = .binOp .and t x y t') (hx : oev L x = some (.int k a)) (hy : oev L y = some (.int k b)) : Run P o L w (.int k (k.wrap ((BitVec.ofInt k.bits a &&& BitVec.ofInt k.bits b).toNat : Nat))) w :=
  run_binK ho hx hy fun w => by simp [binOp, Op.intBits]
theorem run_andNotK (ho : o.op = .binOp .andNot t x y t') (hx : oev L x = some (.int k a)) (hy : oev L y = some (.int k b)) : Run P o L w (.int k (k.wrap ((BitVec.ofInt k.bits a &&& ~~~ BitVec.ofInt k.bits b).toNat : Nat))) w :=
  run_binK ho hx hy fun w => by simp [binOp, Op.intBits]
theorem run_addK (ho : o.op = .binOp .add t x y t') (hx : oev L x = some (.int k a)) (hy : oev L y = some (.int k b)) : Run P o L w (.int k (k.wrap (a + b))) w :=
  run_binK ho hx hy fun w => by simp [binOp, Op.intArith]
theorem run_convI (ho : o.op = .convert src dst x) (hx : oev L x = some (.int k a)) (hs : ∃ d, P.underlying src = some d) (hd : P.underlying dst = some (.int k2)) : Run P o L w (.int k2 (k2.wrap a)) w := by
  intro n c he
  obtain ⟨d, hs⟩ := hs
  unfold execOp
  simp only [ho, he.eval hx, convert, Sem.run_bind, run_underlying hs, run_underlying hd, Result.andThen_ok, Conv.intToInt, Sem.run_pure]
theorem run_shrN {s n : Nat} (ho : o.op = .binOp .shr t x y t') (hx : oev L x = some (.int .i64 (s : Int))) (hy : oev L y = some (.int .i64 (n : Int))) (h : n ≤ 64) : Run P o L w (.int .i64 ((s / 2 ^ n : Nat) : Int)) w := by
  have := run_shrK (w := w) (P := P) ho hx hy (by omega)
  rw [show min ((n : Int).toNat) IntKind.i64.bits = n by show min _ 64 = n; omega, Int.fdiv_eq_ediv_of_nonneg _ (by exact Int.le_of_lt (Int.pow_pos (by decide)))] at this
  rw [show ((s / 2 ^ n : Nat) : Int) = (s : Int) / 2 ^ n by rw [Int.natCast_ediv, Int.natCast_pow]; rfl]
  exact this
theorem run_shl1N {n : Nat} (ho : o.op = .binOp .shl t x y t') (hx : oev L x = some (.int .i64 1)) (hy : oev L y = some (.int .i64 (n : Int))) (h : n ≤ 62) : Run P o L w (.int .i64 ((2 ^ n : Nat) : Int)) w := by
  have := run_shlK (w := w) (P := P) ho hx hy (by omega)
  rw [show min ((n : Int).toNat) IntKind.i64.bits = n by show min _ 64 = n; omega] at this
  have e : IntKind.i64.wrap (1 * 2 ^ n) = ((2 ^ n : Nat) : Int) := by
    have h1 : (2 : Int) ^ n = ((2 ^ n : Nat) : Int) := by rw [Int.natCast_pow]; rfl
    have h2 : 2 ^ n ≤ 2 ^ 62 := Nat.pow_le_pow_right (by decide) h
    rw [Int.one_mul, h1]
    have h3 : 2 ^ n ≤ 4611686018427387904 := h2
    generalize 2 ^ n = m at *
    exact wr_id (by omega)
  rw [e] at this
  exact this
theorem ofInt_nat (s : Nat) : BitVec.ofInt 64 (s : Int) = BitVec.ofNat 64 s := by
  apply BitVec.eq_of_toNat_eq
  simp
theorem run_and1N {s : Nat} (ho : o.op = .binOp .and t x y t') (hx : oev L x = some (.int .i64 (s : Int))) (hy : oev L y = some (.int .i64 1)) : Run P o L w (.int .i64 ((s % 2 : Nat) : Int)) w := by
  have := run_andK (w := w) (P := P) ho hx hy
  have e : (BitVec.ofInt IntKind.i64.bits (s : Int) &&& BitVec.ofInt IntKind.i64.bits 1).toNat = s % 2 := by
    show (BitVec.ofInt 64 (s : Int) &&& BitVec.ofInt 64 ((1 : Nat) : Int)).toNat = s % 2
    rw [ofInt_nat, ofInt_nat, BitVec.toNat_and, BitVec.toNat_ofNat, BitVec.toNat_ofNat, Nat.mod_eq_of_lt (show 1 < 2 ^ 64 by decide), Nat.and_one_is_mod]
    omega
  rw [e] at this
  have e2 : IntKind.i64.wrap ((s % 2 : Nat) : Int) = ((s % 2 : Nat) : Int) := wr_id (by omega)
  rw [e2] at this
  exact this
theorem run_convN {s : Nat} (ho : o.op = .convert src dst x) (hx : oev L x = some (.int .i64 (s : Int))) (hs : ∃ d, P.underlying src = some d) (hd : P.underlying dst = some (.int .u64)) (h : s < 9223372036854775808) : Run P o L w (.int .u64 (s : Int)) w := by
  have := run_convI (w := w) ho hx hs hd
  rw [show IntKind.u64.wrap (s : Int) = (s : Int) from by
    show (s : Int) % 18446744073709551616 = _
    omega] at this
  exact this
/-- A bit cleared. -/
def clr (s n : Nat) : Nat := s &&& (2 ^ 64 - (2 ^ n + 1))
theorem clr_bit (s n i : Nat) (hn : n ≤ 62) (hi : i < 64) : (clr s n).testBit i = (s.testBit i && !decide (n = i)) := by
  unfold clr
  have h2 : 2 ^ n < 2 ^ 64 := Nat.pow_lt_pow_right (by decide) (by omega)
  rw [Nat.testBit_and, Nat.testBit_two_pow_sub_succ h2, Nat.testBit_two_pow]
  simp [hi]
theorem clr_le (s n : Nat) : clr s n ≤ s := Nat.and_le_left
theorem clr_lt {s n : Nat} (hn : n ≤ 62) (h : s.testBit n = true) : clr s n < s := by
  refine Nat.lt_of_le_of_ne (clr_le s n) fun e => ?_
  have := clr_bit s n n hn (by omega)
  rw [e, h] at this
  simp at this
theorem clr_testBit {s n : Nat} (hs : s < 2 ^ 62) (hn : n ≤ 62) : (fun i => (clr s n).testBit i) = fun i => s.testBit i && !decide (i = n) := by
  funext i
  by_cases hi : i < 64
  · rw [clr_bit s n i hn hi]
    congr 2
    exact decide_eq_decide.2 eq_comm
  · have h2 : s < 2 ^ i := Nat.lt_of_lt_of_le hs (Nat.pow_le_pow_right (by decide) (by omega))
    rw [Nat.testBit_lt_two_pow h2, Nat.testBit_lt_two_pow (Nat.lt_of_le_of_lt (clr_le s n) h2)]
    rfl
theorem run_clrN {s n : Nat} (ho : o.op = .binOp .andNot t x y t') (hx : oev L x = some (.int .i64 (s : Int))) (hy : oev L y = some (.int .i64 ((2 ^ n : Nat) : Int))) (hs : s < 2 ^ 62) (hn : n ≤ 62) : Run P o L w (.int .i64 ((clr s n : Nat) : Int)) w := by
  have := run_andNotK (w := w) (P := P) ho hx hy
  have h2 : 2 ^ n < 2 ^ 64 := Nat.pow_lt_pow_right (by decide) (by omega)
  have e : (BitVec.ofInt IntKind.i64.bits (s : Int) &&& ~~~ BitVec.ofInt IntKind.i64.bits ((2 ^ n : Nat) : Int)).toNat = clr s n := by
    show (BitVec.ofInt 64 (s : Int) &&& ~~~ BitVec.ofInt 64 ((2 ^ n : Nat) : Int)).toNat = clr s n
    rw [ofInt_nat, ofInt_nat, BitVec.toNat_and, BitVec.toNat_not, BitVec.toNat_ofNat, BitVec.toNat_ofNat, Nat.mod_eq_of_lt h2, Nat.mod_eq_of_lt (Nat.lt_trans hs (by decide))]
    unfold clr
    congr 1
    omega
  rw [e] at this
  have e2 : IntKind.i64.wrap ((clr s n : Nat) : Int) = ((clr s n : Nat) : Int) := wr_id (by have := clr_le s n; omega)
  rw [e2] at this
  exact this
end
/-! How many bits are set. -/
def ocS (a : Int) (n : Nat) : Int := a.fdiv (2 ^ n)
def ocA (a b : Int) : Int := IntKind.u64.wrap ((BitVec.ofInt 64 a &&& BitVec.ofInt 64 b).toNat : Nat)
def ocP (a b : Int) : Int := IntKind.u64.wrap (a + b)
def oc1 (x : Int) : Int := ocP (ocA (ocS x 1) 6148914691236517205) (ocA x 6148914691236517205)
def oc2 (x : Int) : Int := ocP (ocA (ocS (oc1 x) 2) 3689348814741910323) (ocA (oc1 x) 3689348814741910323)
def oc3 (x : Int) : Int := ocA (ocP (ocS (oc2 x) 4) (oc2 x)) 1085102592571150095
def oc4 (x : Int) : Int := ocP (oc3 x) (ocS (oc3 x) 8)
def oc5 (x : Int) : Int := ocP (oc4 x) (ocS (oc4 x) 16)
def oc6 (x : Int) : Int := ocP (oc5 x) (ocS (oc5 x) 32)
def ocR (x : Int) : Int := IntKind.i64.wrap ((BitVec.ofInt 64 (IntKind.i64.wrap (oc6 x)) &&& BitVec.ofInt 64 127).toNat : Nat)
def pcN (s : Nat) : Nat → Nat
  | 0 => 0
  | c + 1 => pcN s c + if s.testBit c = true then 1 else 0
set_option maxRecDepth 100000 in
theorem oc_all : (List.range 4096).all (fun x => decide (ocR (x : Int) = (pcN x 12 : Int))) = true := by decide +kernel
theorem oc_law {x : Nat} (h : x < 4096) : ocR (x : Int) = (pcN x 12 : Int) := of_decide_eq_true (List.all_eq_true.1 oc_all x (List.mem_range.2 h))
end Go.Proofs.Ytkcighnochjlgaa
