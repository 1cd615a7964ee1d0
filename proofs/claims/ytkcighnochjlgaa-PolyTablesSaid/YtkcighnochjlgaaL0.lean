/- Lists. Nothing of one program stands here. -/
import Derived.Test.YtkcighnochjlgaaRows
import Derived.WalkKit
import Derived.ProofKit
import Derived.OpenShut
import Derived.BigQuiet
import Derived.IntWalk
import Derived.Lib.Hide
import Derived.SizedLaws
import Derived.Maps.AppendAt
namespace Go.Proofs.Ytkcighnochjlgaa
open Go.ChangeShapes Go.WideShapes Go.ChangeAt Go.RowKit

/-! ### Lists -/

/-- The element at i, or the default one. -/
def ga {α : Type} [Inhabited α] (xs : List α) (i : Nat) : α := xs.getD i default
section
variable {α : Type} [Inhabited α]
theorem ga_eq {xs : List α} {i : Nat} (h : i < xs.length) : ga xs i = xs[i] := by simp [ga, h]
theorem ga_get? {xs : List α} {i : Nat} (h : i < xs.length) : xs[i]? = some (ga xs i) := by simp [ga, h]
theorem ga_set (xs : List α) (i j : Nat) (y : α) (h : i < xs.length) : ga (xs.set i y) j = if i = j then y else ga xs j := by
  unfold ga
  rw [List.getD_eq_getElem?_getD, List.getD_eq_getElem?_getD, List.getElem?_set]
  by_cases hij : i = j
  · subst hij; simp [h]
  · simp [hij]
theorem ga_ext {xs ys : List α} (hl : xs.length = ys.length) (h : ∀ i, i < xs.length → ga xs i = ga ys i) : xs = ys := by
  apply List.ext_getElem hl
  intro i h1 h2
  have := h i h1
  rwa [ga_eq h1, ga_eq h2] at this
theorem ga_append_left (xs ys : List α) (i : Nat) (h : i < xs.length) : ga (xs ++ ys) i = ga xs i := by
  unfold ga; simp [List.getElem?_append_left h]
theorem ga_append_right (xs ys : List α) (i : Nat) (h : xs.length ≤ i) : ga (xs ++ ys) i = ga ys (i - xs.length) := by
  unfold ga; simp [List.getElem?_append_right h]
theorem take_ga (xs : List α) (k : Nat) (h : k < xs.length) : xs.take (k + 1) = xs.take k ++ [ga xs k] := by
  rw [List.take_succ_eq_append_getElem h, ga_eq h]
theorem ga_take (xs : List α) (k i : Nat) (h : i < k) : ga (xs.take k) i = ga xs i := by
  unfold ga; simp [List.getElem?_take_of_lt h]
theorem ga_map {β : Type} [Inhabited β] (f : α → β) (xs : List α) (i : Nat) (h : i < xs.length) : ga (xs.map f) i = f (ga xs i) := by
  rw [ga_eq (by simpa using h), ga_eq h]; simp
theorem ga_rep (n i : Nat) (x : α) (h : i < n) : ga (List.replicate n x) i = x := by
  rw [ga_eq (by simpa using h)]; simp
theorem ga_mem {xs : List α} {i : Nat} (h : i < xs.length) : ga xs i ∈ xs := by rw [ga_eq h]; exact List.getElem_mem h
end
theorem flat_get {α : Type} {f : α → List Value} {k : Nat} (hf : ∀ x, (f x).length = k) {xs : List α} {i j : Nat} (hi : i < xs.length) (hj : j < k) :
    (xs.flatMap f)[i * k + j]? = (f xs[i])[j]? := by
  induction xs generalizing i with
  | nil => simp at hi
  | cons x xs ih =>
    rw [List.flatMap_cons]
    cases i with
    | zero => rw [Nat.zero_mul, Nat.zero_add, List.getElem?_append_left (by rw [hf]; exact hj)]; rfl
    | succ i =>
      rw [List.getElem?_append_right (by rw [hf, Nat.succ_mul]; omega), hf, show (i + 1) * k + j - k = i * k + j by rw [Nat.succ_mul]; omega, ih (by simpa using hi)]
      rfl
theorem flat_len {α : Type} {f : α → List Value} {k : Nat} (hf : ∀ x, (f x).length = k) (xs : List α) : (xs.flatMap f).length = xs.length * k := by
  induction xs with
  | nil => simp
  | cons x xs ih => rw [List.flatMap_cons, List.length_append, hf, ih, List.length_cons, Nat.succ_mul, Nat.add_comm]
end Go.Proofs.Ytkcighnochjlgaa
