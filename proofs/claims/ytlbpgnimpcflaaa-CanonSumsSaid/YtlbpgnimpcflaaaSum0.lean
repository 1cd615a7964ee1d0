/- Two links tied to one: plain facts. -/
import Derived.Test.YtlbpgnimpcflaaaDow0
import Derived.Test.YtlbpgnimpcflaaaMir1
namespace Go.Proofs.Ytlbpgnimpcflaaa
open Go.RowKit

def shC (k : Int) (x : Cr) : Cr := ⟨x.a + k, x.b + k, x.c + k, x.d + k, x.plus⟩
def setC (x : Cr) (s : Nat) (v : Int) : Cr := if s = 0 then ⟨v, x.b, x.c, x.d, x.plus⟩ else if s = 1 then ⟨x.a, v, x.c, x.d, x.plus⟩ else if s = 2 then ⟨x.a, x.b, v, x.d, x.plus⟩ else ⟨x.a, x.b, x.c, v, x.plus⟩
def catL (a b : Dg) : List Cr := a.crs ++ b.crs.map (shC (2 * (a.crs.length : Int)))
def sumL1 (a b : Dg) (x y : Nat) : List Cr := (catL a b).set (endOf a x false).1 (setC (ga (catL a b) (endOf a x false).1) (endOf a x false).2 ((y : Int) + 2 * (a.crs.length : Int)))
def sumL (a b : Dg) (x y : Nat) : List Cr := (sumL1 a b x y).set (a.crs.length + (endOf b y false).1) (setC (ga (sumL1 a b x y) (a.crs.length + (endOf b y false).1)) (endOf b y false).2 (x : Int))
def sumR (a b : Dg) (x y : Int) : Dg × Int :=
  if x < 1 ∨ 2 * (a.crs.length : Int) < x ∨ y < 1 ∨ 2 * (b.crs.length : Int) < y then (⟨[], 0⟩, 3)
  else if 16 < a.crs.length + b.crs.length ∨ 16 < a.loops + b.loops then (⟨[], 0⟩, 2)
  else (⟨sumL a b x.toNat y.toNat, a.loops + b.loops⟩, 0)
theorem catL_len (a b : Dg) : (catL a b).length = a.crs.length + b.crs.length := by simp [catL]
theorem sumL1_len (a b : Dg) (x y : Nat) : (sumL1 a b x y).length = a.crs.length + b.crs.length := by simp [sumL1, catL_len]
theorem sumL_len (a b : Dg) (x y : Nat) : (sumL a b x y).length = a.crs.length + b.crs.length := by simp [sumL, sumL1_len]

/-- What the reference puts at a place. -/
def refS (d : Dg) (i : Nat) (more x new : Int) (k : Nat) : Int := if entryB d i k = true ∧ arcAt d i k + more = x then new else arcAt d i k + more
def refE (d : Dg) (i : Nat) (more x new : Int) : Cr := ⟨refS d i more x new 0, refS d i more x new 1, refS d i more x new 2, refS d i more x new 3, (ga d.crs i).plus⟩
def refC (a b : Dg) (x y : Nat) (i : Nat) : Cr :=
  if i < a.crs.length then refE a i 0 (x : Int) ((y : Int) + 2 * (a.crs.length : Int)) else refE b (i - a.crs.length) (2 * (a.crs.length : Int)) ((y : Int) + 2 * (a.crs.length : Int)) (x : Int)

theorem refE_hit {d : Dg} (h : arcsB d = true) {x : Nat} (h0 : 1 ≤ x) (h1 : x ≤ 2 * d.crs.length) (more new : Int) : refE d (endOf d x false).1 more ((x : Int) + more) new = setC (shC more (ga d.crs (endOf d x false).1)) (endOf d x false).2 new := by
  obtain ⟨e1, e2, _, e4, e5⟩ := endOf_lt h h0 h1 false
  have key : ∀ k, k < 4 → refS d (endOf d x false).1 more ((x : Int) + more) new k = if k = (endOf d x false).2 then new else arcAt d (endOf d x false).1 k + more := by
    intro k hk
    unfold refS
    by_cases hkk : k = (endOf d x false).2
    · subst hkk
      rw [if_pos rfl, if_pos ⟨by simpa using e5, by omega⟩]
    · rw [if_neg hkk, if_neg]
      rintro ⟨h2, h3⟩
      have h4 := endOf_at h e1 hk h2
      rw [show arcAt d (endOf d x false).1 k = (x : Int) by omega] at h4
      exact hkk (by rw [h4])
  unfold refE
  rw [key 0 (by omega), key 1 (by omega), key 2 (by omega), key 3 (by omega)]
  unfold arcAt
  generalize endOf d x false = p at *
  obtain ⟨p1, p2⟩ := p
  dsimp only at *
  have hp : p2 = 0 ∨ p2 = 1 ∨ p2 = 2 ∨ p2 = 3 := by omega
  rcases hp with rfl | rfl | rfl | rfl <;> simp [setC, shC, crArc]
theorem refE_miss {d : Dg} (h : arcsB d = true) {x : Nat} (i : Nat) (hi : i < d.crs.length) (hne : i ≠ (endOf d x false).1) (more new : Int) : refE d i more ((x : Int) + more) new = shC more (ga d.crs i) := by
  have key : ∀ k, k < 4 → refS d i more ((x : Int) + more) new k = arcAt d i k + more := by
    intro k hk
    unfold refS
    rw [if_neg]
    rintro ⟨h2, h3⟩
    have h4 := endOf_at h hi hk h2
    rw [show arcAt d i k = (x : Int) by omega] at h4
    exact hne (by rw [h4])
  unfold refE
  rw [key 0 (by omega), key 1 (by omega), key 2 (by omega), key 3 (by omega)]
  simp [shC, arcAt, crArc]
theorem shC0 (x : Cr) : shC 0 x = x := by simp [shC]

theorem sumL_ref {a b : Dg} (ha : arcsB a = true) (hb : arcsB b = true) {x y : Nat} (x0 : 1 ≤ x) (x1 : x ≤ 2 * a.crs.length) (y0 : 1 ≤ y) (y1 : y ≤ 2 * b.crs.length) : sumL a b x y = (List.range (a.crs.length + b.crs.length)).map (refC a b x y) := by
  obtain ⟨e1, e2, _⟩ := endOf_lt ha x0 x1 false
  obtain ⟨f1, f2, _⟩ := endOf_lt hb y0 y1 false
  have hL : ∀ i, i < a.crs.length → ga (catL a b) i = ga a.crs i := fun i hi => ga_append_left _ _ _ hi
  have hR : ∀ i, i < b.crs.length → ga (catL a b) (a.crs.length + i) = shC (2 * (a.crs.length : Int)) (ga b.crs i) := fun i hi => by
    unfold catL
    rw [ga_append_right _ _ _ (by omega), show a.crs.length + i - a.crs.length = i by omega, ga_map _ _ _ hi]
  apply ga_ext (by simp [sumL_len])
  intro i hi
  rw [sumL_len] at hi
  have hr : ga ((List.range (a.crs.length + b.crs.length)).map (refC a b x y)) i = refC a b x y i := by rw [ga_eq (by simpa using hi)]; simp
  rw [hr]
  unfold sumL
  rw [ga_set _ _ _ _ (by rw [sumL1_len]; omega)]
  unfold refC
  by_cases hia : i < a.crs.length
  · rw [if_neg (by omega), if_pos hia]
    unfold sumL1
    rw [ga_set _ _ _ _ (by rw [catL_len]; omega)]
    by_cases hp : (endOf a x false).1 = i
    · rw [if_pos hp, hL _ e1]
      have := refE_hit ha x0 x1 0 ((y : Int) + 2 * (a.crs.length : Int))
      rw [shC0, hp, Int.add_zero] at this
      rw [hp]
      exact this.symm
    · rw [if_neg hp, hL i hia]
      have := refE_miss ha (x := x) i hia (fun e => hp e.symm) 0 ((y : Int) + 2 * (a.crs.length : Int))
      rw [shC0, Int.add_zero] at this
      exact this.symm
  · rw [if_neg hia]
    obtain ⟨j, rfl⟩ : ∃ j, i = a.crs.length + j := ⟨i - a.crs.length, by omega⟩
    have hj : j < b.crs.length := by omega
    have h1 : ∀ j, j < b.crs.length → ga (sumL1 a b x y) (a.crs.length + j) = shC (2 * (a.crs.length : Int)) (ga b.crs j) := fun j hj => by
      unfold sumL1
      rw [ga_set _ _ _ _ (by rw [catL_len]; omega), if_neg (by omega), hR j hj]
    rw [show a.crs.length + j - a.crs.length = j by omega]
    by_cases hq : (endOf b y false).1 = j
    · rw [if_pos (by omega), h1 _ f1]
      have := refE_hit hb y0 y1 (2 * (a.crs.length : Int)) (x : Int)
      rw [hq] at this
      rw [hq]
      exact this.symm
    · rw [if_neg (by omega), h1 j hj]
      exact (refE_miss hb (x := y) j hj (fun e => hq e.symm) (2 * (a.crs.length : Int)) (x : Int)).symm
end Go.Proofs.Ytlbpgnimpcflaaa
