/- Strands: the rings of arcs of which each one has a next one: plain facts. -/
import Derived.Test.YtlbpgnimpcflaaaShp3
namespace Go.Proofs.Ytlbpgnimpcflaaa
open Go.RowKit

/-- Marks to come. -/
def free (seen : List Bool) : Nat := seen.countP (fun b => !b)
theorem free_set {seen : List Bool} {x : Nat} (h : x < seen.length) (hx : ga seen x = false) : free (seen.set x true) + 1 = free seen := by
  induction seen generalizing x with
  | nil => simp at h
  | cons b seen ih =>
    cases x with
    | zero =>
      have : b = false := by simpa [ga] using hx
      subst this
      simp [free]
    | succ x =>
      have h1 : ga (b :: seen) (x + 1) = ga seen x := by simp [ga]
      rw [h1] at hx
      have h2 := ih (by simpa using h) hx
      unfold free at *
      rw [List.set_cons_succ, List.countP_cons, List.countP_cons]
      omega

/-- One ring: on by nx until a mark is met. -/
def ringF (nx : Nat → Nat) (seen : List Bool) (x : Nat) (acc : List Int) : List Bool × List Int :=
  if _h : x < seen.length ∧ ga seen x = false then ringF nx (seen.set x true) (nx x) (acc ++ [(x : Int)]) else (seen, acc)
termination_by free seen
decreasing_by have := free_set _h.1 _h.2; omega
theorem ringF_go {nx : Nat → Nat} {seen : List Bool} {x : Nat} {acc : List Int} (h : x < seen.length) (hx : ga seen x = false) : ringF nx seen x acc = ringF nx (seen.set x true) (nx x) (acc ++ [(x : Int)]) := by
  rw [ringF]; simp [h, hx]
theorem ringF_stop {nx : Nat → Nat} {seen : List Bool} {x : Nat} {acc : List Int} (hx : ga seen x = true) : ringF nx seen x acc = (seen, acc) := by
  rw [ringF]; simp [hx]
theorem ringF_len (nx : Nat → Nat) (seen : List Bool) (x : Nat) (acc : List Int) : (ringF nx seen x acc).1.length = seen.length := by
  induction hk : free seen using Nat.strongRecOn generalizing seen x acc with
  | _ k ih =>
    by_cases h : x < seen.length ∧ ga seen x = false
    · rw [ringF_go h.1 h.2]
      have := free_set h.1 h.2
      rw [ih (free (seen.set x true)) (by omega) _ _ _ rfl, List.length_set]
    · rw [ringF]; simp [h]

/-- All rings, behind the first A arcs. -/
def ringsF (nx : Nat → Nat) (N : Nat) : Nat → List Bool × List (List Int)
  | 0 => (List.replicate N false, [])
  | A + 1 =>
    let s := ringsF nx N A
    if ga s.1 (A + 1) = true then s else ((ringF nx s.1 (A + 1) []).1, s.2 ++ [(ringF nx s.1 (A + 1) []).2])
theorem ringsF_len (nx : Nat → Nat) (N A : Nat) : (ringsF nx N A).1.length = N := by
  induction A with
  | zero => simp [ringsF]
  | succ A ih =>
    unfold ringsF
    dsimp only
    split
    · exact ih
    · rw [ringF_len]; exact ih
theorem ringsF_skip {nx : Nat → Nat} {N A : Nat} (h : ga (ringsF nx N A).1 (A + 1) = true) : ringsF nx N (A + 1) = ringsF nx N A := by
  show (if _ then _ else _) = _
  rw [if_pos h]
theorem ringsF_ring {nx : Nat → Nat} {N A : Nat} (h : ga (ringsF nx N A).1 (A + 1) = false) :
    ringsF nx N (A + 1) = ((ringF nx (ringsF nx N A).1 (A + 1) []).1, (ringsF nx N A).2 ++ [(ringF nx (ringsF nx N A).1 (A + 1) []).2]) := by
  show (if _ then _ else _) = _
  rw [if_neg (by simp [h])]

def nextN (d : Dg) (a : Nat) : Nat := (nextA d (a : Int)).toNat
theorem nextN_eq {d : Dg} (h : arcsB d = true) {a : Nat} (h0 : 1 ≤ a) (h1 : a ≤ 2 * d.crs.length) : nextA d (a : Int) = (nextN d a : Int) ∧ 1 ≤ nextN d a ∧ nextN d a ≤ 2 * d.crs.length := by
  obtain ⟨e1, e2, _⟩ := endOf_lt h h0 h1 false
  have hr := arcs_rng h (j := 4 * (endOf d a false).1 + ((endOf d a false).2 + 2) % 4) (by omega)
  have hj : arcJ d (4 * (endOf d a false).1 + ((endOf d a false).2 + 2) % 4) = nextA d a := by
    unfold arcJ nextA
    rw [show (4 * (endOf d (a : Int) false).1 + ((endOf d (a : Int) false).2 + 2) % 4) / 4 = (endOf d (a : Int) false).1 by omega, show (4 * (endOf d (a : Int) false).1 + ((endOf d (a : Int) false).2 + 2) % 4) % 4 = ((endOf d (a : Int) false).2 + 2) % 4 by omega]
  rw [hj] at hr
  unfold nextN
  omega
/-- The strands of a diagram. -/
def strandsL (d : Dg) : List (List Int) := (ringsF (nextN d) (2 * d.crs.length + 1) (2 * d.crs.length)).2
end Go.Proofs.Ytlbpgnimpcflaaa
