/- Walks printed by eng.py. -/
import Derived.Test.YthfiblbkkjcliaaC1
set_option linter.unusedSimpArgs false
set_option linter.unusedVariables false
namespace Go.Proofs.Ythfiblbkkjcliaa
open Go.ChangeShapes Go.WideShapes Go.ChangeAt Go.RowKit
/-- Marks to come. -/
def free (seen : List Bool) : Nat := seen.countP (fun b => !b)
theorem free_set {seen : List Bool} {x : Nat} (h : x < seen.length) (hx : ga seen x = false) : free (seen.set x true) + 1 = free seen := by
  induction seen generalizing x with
  | nil => simp at h
  | cons b seen ih =>
    cases x with
    | zero =>
      have : b = false := by simpa [ga] using hx
      subst this
      simp [free]
    | succ x =>
      have h1 : ga (b :: seen) (x + 1) = ga seen x := by simp [ga]
      rw [h1] at hx
      have h2 := ih (by simpa using h) hx
      unfold free at *
      rw [List.set_cons_succ, List.countP_cons, List.countP_cons]
      omega
theorem free_rep (n : Nat) : free (List.replicate n false) = n := by
  unfold free
  induction n with
  | zero => rfl
  | succ n ih => rw [List.replicate_succ, List.countP_cons, ih]; rfl
/-- On the way through the letters: the letters' arcs, the place, the next arc; the last letter and its side (0: none; 1: from the left; 2: from the right). -/
structure CS where
  t : List A4
  p : Nat
  x : Nat
  q : Nat
  k : Nat
def leC (l : List Int) (k : Nat) : Nat := (max (ga l k) (-(ga l k))).toNat
def letC (l : List Int) (s : CS) (k : Nat) : CS :=
  if s.p = leC l k then ⟨s.t.set k ⟨s.x, s.x + 1, (ga s.t k).c, (ga s.t k).d⟩, leC l k + 1, s.x + 1, 1, k⟩
  else if s.p = leC l k + 1 then ⟨s.t.set k ⟨(ga s.t k).a, (ga s.t k).b, s.x, s.x + 1⟩, leC l k, s.x + 1, 2, k⟩
  else s
def wordC (l : List Int) (s : CS) (k : Nat) : CS := (List.range k).foldl (letC l) s
theorem wordC_succ (l : List Int) (s : CS) (k : Nat) : wordC l s (k + 1) = letC l (wordC l s k) k := by
  unfold wordC; rw [List.range_succ, List.foldl_append]; rfl
def ringC (l : List Int) (wk : List Bool) (s : CS) : List Bool × CS :=
  if _h : s.p < wk.length ∧ ga wk s.p = false then ringC l (wk.set s.p true) (wordC l s l.length) else (wk, s)
termination_by free wk
decreasing_by have := free_set _h.1 _h.2; omega
theorem ringC_go {l : List Int} {wk : List Bool} {s : CS} (h : s.p < wk.length) (hx : ga wk s.p = false) : ringC l wk s = ringC l (wk.set s.p true) (wordC l s l.length) := by
  rw [ringC]; simp [h, hx]
theorem ringC_stop {l : List Int} {wk : List Bool} {s : CS} (hx : ga wk s.p = true) : ringC l wk s = (wk, s) := by
  rw [ringC]; simp [hx]
/-- The last arc of a ring is its first one. -/
def tieC (s : CS) (x : Nat) : List A4 := match s.q with
  | 0 => s.t
  | 1 => s.t.set s.k ⟨(ga s.t s.k).a, x, (ga s.t s.k).c, (ga s.t s.k).d⟩
  | _ => s.t.set s.k ⟨(ga s.t s.k).a, (ga s.t s.k).b, (ga s.t s.k).c, x⟩
structure CR where
  wk : List Bool
  t : List A4
  x : Nat
  lp : Int
def startC (l : List Int) (r : CR) (p : Nat) : CR :=
  if ga r.wk p = true then r
  else
    let y := ringC l r.wk ⟨r.t, p, r.x, 0, 0⟩
    ⟨y.1, tieC y.2 r.x, y.2.x, r.lp + (if y.2.q = 0 then 1 else 0)⟩
def closeF (l : List Int) (n : Nat) : Nat → CR
  | 0 => ⟨List.replicate (n + 1) false, List.replicate l.length ⟨0, 0, 0, 0⟩, 1, 0⟩
  | p + 1 => startC l (closeF l n p) (p + 1)
theorem closeF_skip {l : List Int} {n p x : Nat} {wk : List Bool} {t : List A4} {lp : Int} (h : closeF l n p = ⟨wk, t, x, lp⟩) (hw : ga wk (p + 1) = true) : closeF l n (p + 1) = ⟨wk, t, x, lp⟩ := by
  show startC l (closeF l n p) (p + 1) = _
  rw [h]; unfold startC; rw [if_pos hw]
theorem closeF_ring {l : List Int} {n p x : Nat} {wk wk' : List Bool} {t : List A4} {s : CS} {lp : Int} (h : closeF l n p = ⟨wk, t, x, lp⟩) (hw : ga wk (p + 1) = false) (hr : ringC l wk ⟨t, p + 1, x, 0, 0⟩ = (wk', s)) : closeF l n (p + 1) = ⟨wk', tieC s x, s.x, lp + (if s.q = 0 then 1 else 0)⟩ := by
  show startC l (closeF l n p) (p + 1) = _
  rw [h]; unfold startC; dsimp only; rw [if_neg (by rw [hw]; exact Bool.false_ne_true), hr]
def crC (x : Int) (a : A4) : Cr := if 0 < x then ⟨a.c, a.b, a.d, a.a, true⟩ else ⟨a.a, a.c, a.b, a.d, false⟩
def closeL (l : List Int) (t : List A4) (k : Nat) : List Cr := (List.range k).map fun k => crC (ga l k) (ga t k)
theorem closeL_succ (l : List Int) (t : List A4) (k : Nat) : closeL l t (k + 1) = closeL l t k ++ [crC (ga l k) (ga t k)] := by
  unfold closeL; rw [List.range_succ, List.map_append]; rfl
theorem closeL_len (l : List Int) (t : List A4) (k : Nat) : (closeL l t k).length = k := by simp [closeL]
/-- The closed braid. -/
def closeD (n : Nat) (l : List Int) : Dg := ⟨closeL l (closeF l n n).t l.length, (closeF l n n).lp⟩
def closeR (n : Int) (l : List Int) : Dg × Int := if checkI n [l] ≠ 0 then (⟨[], 0⟩, checkI n [l]) else if 16 < l.length then (⟨[], 0⟩, 2) else (closeD n.toNat l, 0)
def DgE (r : Dg × Int) (u : Value) (M : Hp) : Prop := ∃ A c, u = .tuple [.agg [.slice A r.1.crs.length c, .int .i64 r.1.loops].toArray, .int .i64 r.2].toArray ∧ RdA cdCr M A c r.1.crs
def DgO (d : Dg) (u : Value) (M : Hp) : Prop := ∃ A c, u = .agg [.slice A d.crs.length c, .int .i64 d.loops].toArray ∧ RdA cdCr M A c d.crs
/-- A pointer at the last arc. -/
def lpA (v : Value) (q k : Nat) : Option Addr := match q with
  | 0 => none
  | q + 1 => some ⟨rb v, k * 4 + (2 * q + 1), none⟩

end Go.Proofs.Ythfiblbkkjcliaa
