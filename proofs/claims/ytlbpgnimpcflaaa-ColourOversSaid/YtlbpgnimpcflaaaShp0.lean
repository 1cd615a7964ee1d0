/- A diagram at work: plain facts, and the small functions. -/
import Derived.Test.YtlbpgnimpcflaaaMay
import Derived.Test.YtlbpgnimpcflaaaSam
namespace Go.Proofs.Ytlbpgnimpcflaaa
open Go.ChangeShapes Go.WideShapes Go.ChangeAt Go.RowKit

/-- The last of the first J places where the arc a comes in (or, back, goes out). -/
def lastP (d : Dg) (a : Int) (back : Bool) : Nat → Nat × Nat
  | 0 => (0, 0)
  | J + 1 => if endP d a back J = true then (J / 4, J % 4) else lastP d a back J
theorem lastP_none {d : Dg} {a : Int} {back : Bool} {J : Nat} (h : ∀ j, j < J → endP d a back j = false) : lastP d a back J = (0, 0) := by
  induction J with
  | zero => rfl
  | succ J ih =>
    unfold lastP
    rw [if_neg (by simp [h J (by omega)])]
    exact ih fun j hj => h j (by omega)
theorem cntP_zero {d : Dg} {a : Int} {back : Bool} {J : Nat} (h : cntP d a back J = 0) : ∀ j, j < J → endP d a back j = false := by
  intro j hj
  unfold cntP at h
  rw [List.countP_eq_zero] at h
  have := h j (by simpa using hj)
  simpa using this
theorem cntP_one {d : Dg} {a : Int} {back : Bool} {J : Nat} (h : cntP d a back J = 1) :
    ∃ j, j < J ∧ endP d a back j = true ∧ (∀ i, i < J → endP d a back i = true → i = j) ∧ lastP d a back J = (j / 4, j % 4) := by
  induction J with
  | zero => simp [cntP] at h
  | succ J ih =>
    rw [cntP_succ] at h
    by_cases hJ : endP d a back J = true
    · rw [if_pos hJ] at h
      have h0 := cntP_zero (show cntP d a back J = 0 by omega)
      refine ⟨J, by omega, hJ, fun i hi hi' => ?_, by unfold lastP; rw [if_pos hJ]⟩
      rcases Nat.lt_or_ge i J with h1 | h1
      · rw [h0 i h1] at hi'; cases hi'
      · omega
    · rw [if_neg hJ] at h
      obtain ⟨j, h1, h2, h3, h4⟩ := ih (by omega)
      refine ⟨j, by omega, h2, fun i hi hi' => ?_, by unfold lastP; rw [if_neg hJ]; exact h4⟩
      rcases Nat.lt_or_ge i J with h5 | h5
      · exact h3 i h5 hi'
      · obtain rfl : i = J := by omega
        exact absurd hi' hJ
theorem lastP_end {d : Dg} {a : Int} {back : Bool} (h : cntP d a back (4 * d.crs.length) = 1) : lastP d a back (4 * d.crs.length) = endOf d a back := by
  obtain ⟨j, h1, h2, h3, h4⟩ := cntP_one h
  rw [h4, endOf_hit h1 h2 fun i hi => by
    cases hq : endP d a back i
    · rfl
    · have := h3 i (by omega) hq
      omega]

/-- The arc at place number j. -/
def arcJ (d : Dg) (j : Nat) : Int := arcAt d (j / 4) (j % 4)
def rngB (d : Dg) (j : Nat) : Bool := decide (1 ≤ arcJ d j ∧ arcJ d j ≤ 2 * (d.crs.length : Int))
/-- How many of the first J places have one of the first m arcs. -/
def hitsM (d : Dg) (m J : Nat) : Nat := (List.range J).countP fun j => decide (1 ≤ arcJ d j ∧ arcJ d j ≤ (m : Int))
theorem hitsM_succ (d : Dg) (m J : Nat) : hitsM d (m + 1) J = hitsM d m J + (cntP d ((m + 1 : Nat) : Int) false J + cntP d ((m + 1 : Nat) : Int) true J) := by
  induction J with
  | zero => simp [hitsM, cntP]
  | succ J ih =>
    have e : ∀ m, hitsM d m (J + 1) = hitsM d m J + if 1 ≤ arcJ d J ∧ arcJ d J ≤ (m : Int) then 1 else 0 := by
      intro m
      unfold hitsM
      rw [List.range_succ, List.countP_append, List.countP_singleton]
      simp
    rw [e, e, ih, cntP_succ, cntP_succ]
    unfold endP
    change _ + (if 1 ≤ arcJ d J ∧ arcJ d J ≤ ((m + 1 : Nat) : Int) then 1 else 0) = _
    have h1 : arcAt d (J / 4) (J % 4) = arcJ d J := rfl
    rw [h1]
    by_cases hm : arcJ d J = ((m + 1 : Nat) : Int)
    · rw [if_pos (by omega), if_neg (by omega)]
      cases entryB d (J / 4) (J % 4) <;> simp [hm] <;> omega
    · have e2 : decide (arcJ d J = ((m + 1 : Nat) : Int)) = false := by simpa using hm
      rw [e2]
      simp only [Bool.false_and, Bool.false_eq_true, if_false]
      by_cases h2 : 1 ≤ arcJ d J ∧ arcJ d J ≤ (m : Int)
      · rw [if_pos (by omega), if_pos h2]; omega
      · rw [if_neg (by omega), if_neg h2]; omega
theorem hitsM_all {d : Dg} {m : Nat} (h : ∀ a : Nat, 1 ≤ a → a ≤ m → cntP d a false (4 * d.crs.length) = 1 ∧ cntP d a true (4 * d.crs.length) = 1) : hitsM d m (4 * d.crs.length) = 2 * m := by
  induction m with
  | zero =>
    unfold hitsM
    rw [List.countP_eq_zero.2 (by intro j _; simp; omega)]
  | succ m ih =>
    rw [hitsM_succ, ih fun a h0 h1 => h a h0 (by omega)]
    have := h (m + 1) (by omega) (by omega)
    omega
/-- Does each arc come in once and go out once? -/
def arcsB (d : Dg) : Bool := (List.range (2 * d.crs.length)).all fun a => arcOk d ((a + 1 : Nat) : Int)
theorem mayB_arcs (d : Dg) : mayB d = (decide (d.crs.length ≤ 16 ∧ 0 ≤ d.loops ∧ d.loops ≤ 16 ∧ ¬ (d.crs.length = 0 ∧ d.loops = 0)) && arcsB d) := rfl
theorem arcsB_out {d : Dg} (h : arcsB d = true) (a : Nat) (h0 : 1 ≤ a) (h1 : a ≤ 2 * d.crs.length) : cntP d a false (4 * d.crs.length) = 1 ∧ cntP d a true (4 * d.crs.length) = 1 := by
  have := List.all_eq_true.1 h (a - 1) (by simp; omega)
  rw [show a - 1 + 1 = a by omega] at this
  unfold arcOk at this
  simpa using this
theorem arcsB_no {d : Dg} {a : Nat} (h0 : 1 ≤ a) (h1 : a ≤ 2 * d.crs.length) (h : arcOk d a = false) : arcsB d = false := by
  refine List.all_eq_false.2 ⟨a - 1, by simp; omega, ?_⟩
  rw [show a - 1 + 1 = a by omega, h]; simp
theorem arcsB_yes {d : Dg} (h2 : ∀ a : Nat, 1 ≤ a → a ≤ 2 * d.crs.length → arcOk d a = true) : arcsB d = true := by
  refine List.all_eq_true.2 fun a ha => h2 (a + 1) (by omega) ?_
  simp at ha
  omega
/-- Where each arc comes in once and goes out once, no place has another arc. -/
theorem arcs_rng {d : Dg} (h : arcsB d = true) {j : Nat} (hj : j < 4 * d.crs.length) : 1 ≤ arcJ d j ∧ arcJ d j ≤ 2 * (d.crs.length : Int) := by
  have h1 := hitsM_all (m := 2 * d.crs.length) (arcsB_out h)
  unfold hitsM at h1
  have h2 : (List.range (4 * d.crs.length)).countP (fun j => decide (1 ≤ arcJ d j ∧ arcJ d j ≤ ((2 * d.crs.length : Nat) : Int))) = (List.range (4 * d.crs.length)).length := by rw [h1]; simp; omega
  rw [List.countP_eq_length] at h2
  have := h2 j (by simpa using hj)
  rw [decide_eq_true_iff] at this
  omega
theorem arcs_not {d : Dg} {j : Nat} (hj : j < 4 * d.crs.length) (h : ¬ (1 ≤ arcJ d j ∧ arcJ d j ≤ 2 * (d.crs.length : Int))) : arcsB d = false := by
  cases hm : arcsB d
  · rfl
  · exact absurd (arcs_rng hm hj) h

set_option maxRecDepth 100000 in
set_option maxHeartbeats 1000000 in
theorem arc_any (x : Cr) (k : Nat) (w : World) (hk : k < 4) : Calls Try.prog 85 #[crV x, .int .i64 k] w (IntPost (crArc x k) w) := by
  have hkk : k = 0 ∨ k = 1 ∨ k = 2 ∨ k = 3 := by omega
  unfold crV
  obtain ⟨a, b, c, d, p⟩ := x
  have i0 : ∀ w, (Instr.index 132 (.agg #[.int .i64 a, .int .i64 b, .int .i64 c, .int .i64 d]) (.int .i64 0)).run Try.prog w = .ok (.int .i64 a) w := fun _ => by kernel_rfl
  have i1 : ∀ w, (Instr.index 132 (.agg #[.int .i64 a, .int .i64 b, .int .i64 c, .int .i64 d]) (.int .i64 1)).run Try.prog w = .ok (.int .i64 b) w := fun _ => by kernel_rfl
  have i2 : ∀ w, (Instr.index 132 (.agg #[.int .i64 a, .int .i64 b, .int .i64 c, .int .i64 d]) (.int .i64 2)).run Try.prog w = .ok (.int .i64 c) w := fun _ => by kernel_rfl
  have i3 : ∀ w, (Instr.index 132 (.agg #[.int .i64 a, .int .i64 b, .int .i64 c, .int .i64 d]) (.int .i64 3)).run Try.prog w = .ok (.int .i64 d) w := fun _ => by kernel_rfl
  rcases hkk with rfl | rfl | rfl | rfl
  all_goals
    go_enter Try.func85, Try.ntmps85
    go_wp2_with fail
    go_ret
    exact ⟨rfl, (Kp.refl _).alloc _⟩

def overIn (x : Cr) : Nat := if x.plus = true then 3 else 1
set_option maxHeartbeats 1000000 in
theorem overIn_any (x : Cr) (w : World) : Calls Try.prog 63 #[crV x] w (IntPost (overIn x) w) := by
  obtain ⟨a, b, c, d, p⟩ := x
  unfold crV overIn
  cases p
  all_goals
    go_enter Try.func63, Try.ntmps63
    go_wp2_with fail
    go_ret
    exact ⟨rfl, (Kp.refl _).alloc _⟩

set_option maxHeartbeats 1000000 in
theorem comes_any (x : Cr) (k : Nat) (w : World) (hk : k < 4) : Calls Try.prog 95 #[crV x, .int .i64 k] w (BoPost (crIn x k) w) := by
  have hkk : k = 0 ∨ k = 1 ∨ k = 2 ∨ k = 3 := by omega
  have ho := Lib.hid fun w' => overIn_any x w'
  obtain ⟨a, b, c, d, p⟩ := x
  unfold crV overIn at *
  rcases hkk with rfl | rfl | rfl | rfl
  · go_enter Try.func95, Try.ntmps95
    go_wp2_with fail
    go_ret
    exact ⟨rfl, (Kp.refl _).alloc _⟩
  all_goals
    cases p
    all_goals
      go_enter Try.func95, Try.ntmps95
      go_wp2_with fail
      refine (ho.out _).mono ?_; rintro e w1 ⟨rfl, hk1⟩
      go_wp2_with fail
      go_ret
      exact ⟨rfl, Kp.trans ((Kp.refl _).alloc _) hk1⟩
end Go.Proofs.Ytlbpgnimpcflaaa
