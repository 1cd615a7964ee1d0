/- Part 6 of the proof of the law MovesDo: the walks through its functions and the plain laws that they need. -/
import Derived.Test.YthppkofceancjaaGreatMvZ5
import Derived.Lib.AppendZeros
import Derived.OrdersIn
set_option linter.unusedSimpArgs false
set_option linter.unusedVariables false
noncomputable section
namespace Go.Proofs.YthppkofceancjaaGreat
open Go.ChangeShapes Go.WideShapes Go.ChangeAt Go.RowKit
section
variable (e1 e2 : Nat → Nat) (N : Nat)
def frG (cl : List Int) (k : Nat) : Int := max (ga cl (e1 k)) (ga cl (e2 k))
def toG (cl : List Int) (k : Nat) : Int := min (ga cl (e1 k)) (ga cl (e2 k))
def clsG : Nat → List Int
 | 0 => iniW N N
 | k + 1 => relN (clsG k) (frG e1 e2 (clsG k) k) (toG e1 e2 (clsG k) k) N
theorem clsG_len (k : Nat) : (clsG e1 e2 N k).length = N := by
 induction k with
 | zero => exact U3v _ _
 | succ k ih => rw [clsG, relN_len, ih]
theorem clsG_ga (k x : Nat) (hx : x < N) : ga (clsG e1 e2 N (k + 1)) x = if ga (clsG e1 e2 N k) x = frG e1 e2 (clsG e1 e2 N k) k then toG e1 e2 (clsG e1 e2 N k) k else ga (clsG e1 e2 N k) x := by
 rw [clsG, relN_ga _ _ _ _ (by rw [clsG_len]; exact Nat.le_refl _)]
 by_cases h9 : ga (clsG e1 e2 N k) x = frG e1 e2 (clsG e1 e2 N k) k
 ·rw [if_pos ⟨hx, h9⟩, if_pos h9]
 ·rw [if_neg (fun h => h9 h.2), if_neg h9]
theorem clsG_zero (y : Nat) (hy : y < N) : ga (clsG e1 e2 N 0) y = (y : Int) := iniW_ga _ _ (Nat.le_refl _) y hy
theorem frG_or (cl : List Int) (k : Nat) : frG e1 e2 cl k = ga cl (e1 k) ∨ frG e1 e2 cl k = ga cl (e2 k) := by unfold frG; omega
theorem toG_or (cl : List Int) (k : Nat) : toG e1 e2 cl k = ga cl (e1 k) ∨ toG e1 e2 cl k = ga cl (e2 k) := by unfold toG; omega
variable {e1 e2 N}
theorem clsG_ok {K : Nat} (he : ∀ k, k < K → e1 k < N ∧ e2 k < N) (k : Nat) (hk : k ≤ K) : ClsOk N (clsG e1 e2 N k) := by
 induction k with
 | zero => exact ⟨U3v _ _, fun x hx => by
   rw [clsG_zero e1 e2 N x hx]
   refine ⟨by omega, by omega, ?_⟩
   rw [show ((x : Int)).toNat = x by omega, clsG_zero e1 e2 N x hx]⟩
 | succ k ih =>
  have ih := ih (by omega)
  obtain ⟨b1, b2⟩ := he k (by omega)
  obtain ⟨p1, _, p3⟩ := ih.2 _ b1
  obtain ⟨q1, _, q3⟩ := ih.2 _ b2
  refine ok_step ih (clsG_len _ _ _ _) (fun x hx => clsG_ga e1 e2 N k x hx) (by unfold frG toG; omega) (by unfold toG; omega) ?_
  rcases toG_or e1 e2 (clsG e1 e2 N k) k with e | e <;> rw [e] <;> assumption
theorem clsG_keep {j x y : Nat} (hx : x < N) (hy : y < N) (e : ga (clsG e1 e2 N j) x = ga (clsG e1 e2 N j) y) : ga (clsG e1 e2 N (j + 1)) x = ga (clsG e1 e2 N (j + 1)) y := by
 rw [clsG_ga e1 e2 N j x hx, clsG_ga e1 e2 N j y hy, e]
theorem clsG_same {k : Nat} (b1 : e1 k < N) (b2 : e2 k < N) (j : Nat) (hj : k < j) : ga (clsG e1 e2 N j) (e1 k) = ga (clsG e1 e2 N j) (e2 k) := by
 induction j with
 | zero => omega
 | succ j ih =>
  by_cases e : k = j
  ·subst e
   rw [clsG_ga e1 e2 N k _ b1, clsG_ga e1 e2 N k _ b2]
   unfold frG toG
   split <;> split <;> omega
  ·exact clsG_keep b1 b2 (ih (by omega))
theorem clsG_con {K : Nat} (he : ∀ k, k < K → e1 k < N ∧ e2 k < N) (Z : Nat → Prop) (hZ : ∀ k, k < K → (Z (e1 k) ↔ Z (e2 k))) (j : Nat) (hj : j ≤ K) : ∀ x y, x < N → y < N → ga (clsG e1 e2 N j) x = ga (clsG e1 e2 N j) y → (Z x ↔ Z y) := by
 induction j with
 | zero =>
  intro x y hx hy e
  rw [clsG_zero e1 e2 N x hx, clsG_zero e1 e2 N y hy] at e
  obtain rfl : x = y := by omega
  exact Iff.rfl
 | succ j ih =>
  have ih := ih (by omega)
  obtain ⟨b1, b2⟩ := he j (by omega)
  have hz := hZ j (by omega)
  have hf : ∀ x, x < N → ga (clsG e1 e2 N j) x = frG e1 e2 (clsG e1 e2 N j) j → (Z x ↔ Z (e1 j)) := fun x hx e => by
   rcases frG_or e1 e2 (clsG e1 e2 N j) j with h2 | h2
   ·exact ih x _ hx b1 (e.trans h2)
   ·exact (ih x _ hx b2 (e.trans h2)).trans hz.symm
  have ht : ∀ x, x < N → ga (clsG e1 e2 N j) x = toG e1 e2 (clsG e1 e2 N j) j → (Z x ↔ Z (e1 j)) := fun x hx e => by
   rcases toG_or e1 e2 (clsG e1 e2 N j) j with h2 | h2
   ·exact ih x _ hx b1 (e.trans h2)
   ·exact (ih x _ hx b2 (e.trans h2)).trans hz.symm
  intro x y hx hy e
  rw [clsG_ga e1 e2 N j x hx, clsG_ga e1 e2 N j y hy] at e
  by_cases hfx : ga (clsG e1 e2 N j) x = frG e1 e2 (clsG e1 e2 N j) j
  ·rw [if_pos hfx] at e
   by_cases hfy : ga (clsG e1 e2 N j) y = frG e1 e2 (clsG e1 e2 N j) j
   ·exact (hf x hx hfx).trans (hf y hy hfy).symm
   ·rw [if_neg hfy] at e
    exact (hf x hx hfx).trans (ht y hy e.symm).symm
  ·rw [if_neg hfx] at e
   by_cases hfy : ga (clsG e1 e2 N j) y = frG e1 e2 (clsG e1 e2 N j) j
   ·rw [if_pos hfy] at e
    exact (ht x hx e).trans (hf y hy hfy).symm
   ·rw [if_neg hfy] at e
    exact ih x y hx hy e
end
def rdsG (e1 e2 : Nat → Nat) (N K : Nat) : Nat → List Int
 | 0 => iniW N N
 | j + 1 => U3t e1 e2 (rdsG e1 e2 N K j) K
theorem rdsG_len (e1 e2 : Nat → Nat) (N K j : Nat) : (rdsG e1 e2 N K j).length = N := by
 induction j with
 | zero => exact U3v _ _
 | succ j ih => rw [rdsG, roundG_len, ih]
theorem rds_law {e1 e2 : Nat → Nat} {N K : Nat} (he : ∀ k, k < K → e1 k < N ∧ e2 k < N) : rdsG e1 e2 N K N = clsG e1 e2 N K := by
 have hok := clsG_ok he K (Nat.le_refl _)
 have hl := labels (N := N) (K := K) e1 e2 he (fun x => (ga (clsG e1 e2 N K) x).toNat)
  (fun k hk => congrArg Int.toNat (clsG_same (he k hk).1 (he k hk).2 _ hk))
  (fun Z hZ x y hx hy e hz => (clsG_con he Z hZ _ (Nat.le_refl _) x y hx hy (by
   have hX := hok.2 x hx
   have hY := hok.2 y hy
   have e' : (ga (clsG e1 e2 N K) x).toNat = (ga (clsG e1 e2 N K) y).toNat := e
   omega)).1 hz)
  (rdsG e1 e2 N K) (rdsG_len _ _ _ _ 0) (fun x hx => iniW_ga _ _ (Nat.le_refl _) x hx) (fun j => rfl)
 refine ga_ext (by rw [rdsG_len, clsG_len]) fun x hx => ?_
 rw [rdsG_len] at hx
 obtain ⟨z, z1, z2, z3, z4⟩ := hl x hx
 obtain ⟨x1, x2, x3⟩ := hok.2 x hx
 obtain ⟨w1, w2, w3⟩ := hok.2 z z1
 have a1 := z4 (ga (clsG e1 e2 N K) x).toNat (by omega) (by show (ga (clsG e1 e2 N K) (ga (clsG e1 e2 N K) x).toNat).toNat = _; rw [x3])
 replace z3 : (ga (clsG e1 e2 N K) z).toNat = (ga (clsG e1 e2 N K) x).toNat := z3
 rw [z2]
 omega
end Go.Proofs.YthppkofceancjaaGreat
namespace Go.Proofs.YthppkofceancjaaGreat
open Go.ChangeShapes Go.WideShapes Go.ChangeAt Go.RowKit
theorem relN_self (cl : List Int) (f : Int) (a : Nat) (ha : a ≤ cl.length) : relN cl f f a = cl := by
 refine ga_ext (relN_len _ _ _ _) fun x _ => ?_
 rw [relN_ga _ _ _ _ ha]
 split
 ·rename_i h; exact h.2.symm
 ·rfl
theorem cls_one {N : Nat} {c1 c2 : List Int} (h1 : ClsOk N c1) (h2 : ClsOk N c2) (h : ∀ x y, x < N → y < N → (ga c1 x = ga c1 y ↔ ga c2 x = ga c2 y)) : c1 = c2 := by
 refine ga_ext (by rw [h1.1, h2.1]) fun x hx => ?_
 rw [h1.1] at hx
 obtain ⟨p1, p2, p3⟩ := h1.2 x hx
 obtain ⟨q1, q2, q3⟩ := h2.2 x hx
 have a1 := (h (ga c1 x).toNat x (by omega) hx).1 p3
 have a2 := (h (ga c2 x).toNat x (by omega) hx).2 q3
 obtain ⟨_, b2, _⟩ := h2.2 (ga c1 x).toNat (by omega)
 obtain ⟨_, d2, _⟩ := h1.2 (ga c2 x).toNat (by omega)
 omega
theorem clsG_perm {e1 e2 f1 f2 : Nat → Nat} {N K L : Nat} (he : ∀ k, k < K → e1 k < N ∧ e2 k < N) (hf : ∀ k, k < L → f1 k < N ∧ f2 k < N)
  (h12 : ∀ k, k < K → e1 k = e2 k ∨ ∃ j, j < L ∧ ((e1 k = f1 j ∧ e2 k = f2 j) ∨ (e1 k = f2 j ∧ e2 k = f1 j))) (h21 : ∀ j, j < L → ∃ k, k < K ∧ ((e1 k = f1 j ∧ e2 k = f2 j) ∨ (e1 k = f2 j ∧ e2 k = f1 j))) : clsG e1 e2 N K = clsG f1 f2 N L := by
 refine cls_one (clsG_ok he K (Nat.le_refl _)) (clsG_ok hf L (Nat.le_refl _)) fun x y hx hy => ⟨fun h => ?_, fun h => ?_⟩
 ·exact (clsG_con he (fun z => ga (clsG f1 f2 N L) x = ga (clsG f1 f2 N L) z) (fun k hk => by
   rcases h12 k hk with e | ⟨j, hj, ⟨e1, e2⟩ | ⟨e1, e2⟩⟩
   ·rw [e]
   ·rw [e1, e2, clsG_same (hf j hj).1 (hf j hj).2 L hj]
   ·rw [e1, e2, clsG_same (hf j hj).1 (hf j hj).2 L hj]) K (Nat.le_refl _) x y hx hy h).1 rfl
 ·exact (clsG_con hf (fun z => ga (clsG e1 e2 N K) x = ga (clsG e1 e2 N K) z) (fun j hj => by
   obtain ⟨k, hk, ⟨a, b⟩ | ⟨a, b⟩⟩ := h21 j hj
   ·rw [← a, ← b, clsG_same (he k hk).1 (he k hk).2 K hk]
   ·rw [← a, ← b, clsG_same (he k hk).1 (he k hk).2 K hk]) L (Nat.le_refl _) x y hx hy h).1 rfl
def tE1 (d : Dg) (gn : Nat → Bool) (i : Nat) : Nat := if gn (i / 2) = true then (if i % 2 = 0 then (ga d.crs (i / 2)).a.toNat else (abv (ga d.crs (i / 2))).1.toNat) else 0
def tE2 (d : Dg) (gn : Nat → Bool) (i : Nat) : Nat := if gn (i / 2) = true then (if i % 2 = 0 then (ga d.crs (i / 2)).c.toNat else (abv (ga d.crs (i / 2))).2.toNat) else 0
def tCN (d : Dg) (gn : Nat → Bool) (i : Nat) : List Int := clsG (tE1 d gn) (tE2 d gn) (2 * d.crs.length + 1) i
def tC (d : Dg) (gn : Nat → Bool) : List Int := tCN d gn (2 * d.crs.length)
theorem tv_bd {d : Dg} (h : U1b d = true) {k : Nat} (hk : k < d.crs.length) : (1 ≤ (ga d.crs k).a ∧ (ga d.crs k).a ≤ 2 * (d.crs.length : Int)) ∧ (1 ≤ (ga d.crs k).b ∧ (ga d.crs k).b ≤ 2 * (d.crs.length : Int)) ∧ (1 ≤ (ga d.crs k).c ∧ (ga d.crs k).c ≤ 2 * (d.crs.length : Int)) ∧ (1 ≤ (ga d.crs k).d ∧ (ga d.crs k).d ≤ 2 * (d.crs.length : Int)) :=
 ⟨U2b h hk (k := 0) (by omega), U2b h hk (k := 1) (by omega), U2b h hk (k := 2) (by omega), U2b h hk (k := 3) (by omega)⟩
theorem av_bd {d : Dg} (h : U1b d = true) {k : Nat} (hk : k < d.crs.length) : 1 ≤ (abv (ga d.crs k)).1 ∧ (abv (ga d.crs k)).1 ≤ 2 * (d.crs.length : Int) ∧ 1 ≤ (abv (ga d.crs k)).2 ∧ (abv (ga d.crs k)).2 ≤ 2 * (d.crs.length : Int) := by
 obtain ⟨_, hb, _, hd⟩ := tv_bd h hk
 unfold abv
 split <;> dsimp only <;> omega
theorem tE_bd {d : Dg} (h : U1b d = true) (gn : Nat → Bool) {i : Nat} (hi : i < 2 * d.crs.length) : tE1 d gn i < 2 * d.crs.length + 1 ∧ tE2 d gn i < 2 * d.crs.length + 1 ∧ (gn (i / 2) = true → 1 ≤ tE1 d gn i ∧ 1 ≤ tE2 d gn i) ∧ (gn (i / 2) = false → tE1 d gn i = 0 ∧ tE2 d gn i = 0) := by
 obtain ⟨ha, hb, hc, hd⟩ := tv_bd h (k := i / 2) (by omega)
 have hv := av_bd h (k := i / 2) (by omega)
 unfold tE1 tE2
 cases hg : gn (i / 2) with
 | true =>
  rw [if_pos rfl, if_pos rfl]
  refine ⟨by split <;> omega, by split <;> omega, fun _ => ⟨by split <;> omega, by split <;> omega⟩, fun h => by cases h⟩
 | false =>
  rw [if_neg Bool.false_ne_true, if_neg Bool.false_ne_true]
  exact ⟨by omega, by omega, fun h => (by cases h), fun _ => ⟨rfl, rfl⟩⟩
theorem tCN_len (d : Dg) (gn : Nat → Bool) (i : Nat) : (tCN d gn i).length = 2 * d.crs.length + 1 := clsG_len _ _ _ _
theorem tCN_ok {d : Dg} (h : U1b d = true) (gn : Nat → Bool) (i : Nat) (hi : i ≤ 2 * d.crs.length) : ClsOk (2 * d.crs.length + 1) (tCN d gn i) := clsG_ok (K := 2 * d.crs.length) (fun k hk => ⟨(tE_bd h gn hk).1, (tE_bd h gn hk).2.1⟩) i hi
theorem tCN_skip {d : Dg} {gn : Nat → Bool} {c : Nat} (hg : gn c = false) : tCN d gn (2 * (c + 1)) = tCN d gn (2 * c) := by
 have e : ∀ i, i / 2 = c → tCN d gn (i + 1) = tCN d gn i := fun i hi => by
  have e1 : tE1 d gn i = 0 := by unfold tE1; rw [hi, if_neg (by rw [hg]; exact Bool.false_ne_true)]
  have e2 : tE2 d gn i = 0 := by unfold tE2; rw [hi, if_neg (by rw [hg]; exact Bool.false_ne_true)]
  unfold tCN
  rw [clsG]
  have e3 : frG (tE1 d gn) (tE2 d gn) (clsG (tE1 d gn) (tE2 d gn) (2 * d.crs.length + 1) i) i = toG (tE1 d gn) (tE2 d gn) (clsG (tE1 d gn) (tE2 d gn) (2 * d.crs.length + 1) i) i := by unfold frG toG; rw [e1, e2]; omega
  rw [e3]
  exact relN_self _ _ _ (by rw [clsG_len]; exact Nat.le_refl _)
 rw [show 2 * (c + 1) = 2 * c + 1 + 1 by omega, e _ (by omega), e _ (by omega)]
def uE1 (d : Dg) (gs : List Nat) (i : Nat) : Nat := (U1g d (ga gs (i / 2)) (i % 2)).toNat
def uE2 (d : Dg) (gs : List Nat) (i : Nat) : Nat := (U1g d (ga gs (i / 2)) (i % 2 + 2)).toNat
def inG (gs : List Nat) (c : Nat) : Bool := gs.contains c
theorem inG_iff {gs : List Nat} {c : Nat} : inG gs c = true ↔ c ∈ gs := by unfold inG; exact List.contains_iff_mem
theorem uE_bd {d : Dg} (h : U1b d = true) {gs : List Nat} (hg : ∀ x ∈ gs, x < d.crs.length) {i : Nat} (hi : i < 2 * gs.length) : uE1 d gs i < 2 * d.crs.length + 1 ∧ uE2 d gs i < 2 * d.crs.length + 1 := by
 have hm := hg _ (U2m (xs := gs) (i := i / 2) (by omega))
 have h1 := U2b h hm (k := i % 2) (by omega)
 have h2 := U2b h hm (k := i % 2 + 2) (by omega)
 unfold uE1 uE2
 omega
theorem two_ties {d : Dg} {gs : List Nat} {c i : Nat} (hi : i < 2 * gs.length) (hc : ga gs (i / 2) = c) (hg : inG gs c = true) : (tE1 d (inG gs) (2 * c + i % 2) = uE1 d gs i ∧ tE2 d (inG gs) (2 * c + i % 2) = uE2 d gs i) ∨ (tE1 d (inG gs) (2 * c + i % 2) = uE2 d gs i ∧ tE2 d (inG gs) (2 * c + i % 2) = uE1 d gs i) := by
 have e1 : (2 * c + i % 2) / 2 = c := by omega
 have e2 : (2 * c + i % 2) % 2 = i % 2 := by omega
 unfold tE1 tE2 uE1 uE2
 rw [e1, e2, hg, hc, if_pos rfl, if_pos rfl]
 rcases Nat.mod_two_eq_zero_or_one i with h0 | h0
 ·rw [h0, if_pos rfl, if_pos rfl]; exact .inl ⟨rfl, rfl⟩
 ·rw [h0, if_neg (by decide), if_neg (by decide)]
  unfold abv
  split
  ·exact .inr ⟨rfl, rfl⟩
  ·exact .inl ⟨rfl, rfl⟩
theorem tu_law {d : Dg} (h : U1b d = true) {gs : List Nat} (hg : ∀ x ∈ gs, x < d.crs.length) : rdsG (uE1 d gs) (uE2 d gs) (2 * d.crs.length + 1) (2 * gs.length) (2 * d.crs.length + 1) = tC d (inG gs) := by
 rw [rds_law fun k hk => uE_bd h hg hk]
 symm
 refine clsG_perm (fun k hk => ⟨(tE_bd h _ hk).1, (tE_bd h _ hk).2.1⟩) (fun k hk => uE_bd h hg hk) (fun k hk => ?_) (fun j hj => ?_)
 ·cases hq : inG gs (k / 2) with
  | false => left; unfold tE1 tE2; rw [hq]; rfl
  | true =>
   right
   obtain ⟨j, hj, e⟩ := List.mem_iff_getElem.1 (inG_iff.1 hq)
   refine ⟨2 * j + k % 2, by omega, ?_⟩
   have := two_ties (d := d) (gs := gs) (c := k / 2) (i := 2 * j + k % 2) (by omega) (by rw [show (2 * j + k % 2) / 2 = j by omega, U36 hj, e]) hq
   rwa [show 2 * (k / 2) + (2 * j + k % 2) % 2 = k by omega] at this
 ·have hm := U2m (xs := gs) (i := j / 2) (by omega)
  have hl := hg _ hm
  exact ⟨2 * ga gs (j / 2) + j % 2, by omega, two_ties hj rfl (inG_iff.2 hm)⟩
def lf1 (cl : List Int) (v : Cr) : Nat → Int → Bool
 | 0, _ => false
 | s + 1, x => lf1 cl v s x || decide (x = ga cl (U24 v s).toNat)
def lfL (cl : List Int) (l : List Cr) (x : Int) : Bool := l.any fun v => lf1 cl v 4 x
def tRN (d : Dg) (gn : Nat → Bool) : Nat → List Cr
 | 0 => []
 | c + 1 => if gn c = true then tRN d gn c else tRN d gn c ++ [ga d.crs c]
def tR (d : Dg) (gn : Nat → Bool) : List Cr := tRN d gn d.crs.length
theorem tRN_len (d : Dg) (gn : Nat → Bool) (c : Nat) : (tRN d gn c).length ≤ c := by
 induction c with
 | zero => exact Nat.le_refl _
 | succ c ih =>
  rw [tRN]
  split
  ·omega
  ·rw [List.length_append, List.length_singleton]; omega
theorem tRN_mem {d : Dg} {gn : Nat → Bool} {c : Nat} {v : Cr} (h : v ∈ tRN d gn c) : ∃ i, i < c ∧ v = ga d.crs i := by
 induction c with
 | zero => cases h
 | succ c ih =>
  rw [tRN] at h
  split at h
  ·obtain ⟨i, h1, h2⟩ := ih h; exact ⟨i, by omega, h2⟩
  ·rcases List.mem_append.1 h with h | h
   ·obtain ⟨i, h1, h2⟩ := ih h; exact ⟨i, by omega, h2⟩
   ·rw [List.mem_singleton] at h; exact ⟨c, by omega, h⟩
theorem tR_in {d : Dg} {gn : Nat → Bool} {c i : Nat} (h1 : i < c) (h2 : gn i = false) : ga d.crs i ∈ tRN d gn c := by
 induction c with
 | zero => omega
 | succ c ih =>
  rw [tRN]
  by_cases e : i = c
  ·subst e; rw [if_neg (by rw [h2]; exact Bool.false_ne_true)]; exact List.mem_append_right _ (List.mem_singleton.2 rfl)
  ·split
   ·exact ih (by omega)
   ·exact List.mem_append_left _ (ih (by omega))
theorem tR_arc {d : Dg} (h : U1b d = true) {gn : Nat → Bool} {c : Nat} (hc : c ≤ d.crs.length) {v : Cr} (hv : v ∈ tRN d gn c) {s : Nat} (hs : s < 4) : 1 ≤ U24 v s ∧ U24 v s ≤ 2 * (d.crs.length : Int) := by
 obtain ⟨i, h1, rfl⟩ := tRN_mem hv
 exact U2b h (by omega) hs
theorem lf1_iff {cl : List Int} {v : Cr} {s : Nat} {x : Int} : lf1 cl v s x = true ↔ ∃ t, t < s ∧ x = ga cl (U24 v t).toNat := by
 induction s with
 | zero => exact ⟨fun h => (by cases h), fun ⟨t, h, _⟩ => (by omega)⟩
 | succ s ih =>
  rw [lf1, Bool.or_eq_true, ih, decide_eq_true_iff]
  constructor
  ·rintro (⟨t, h1, h2⟩ | h)
   ·exact ⟨t, by omega, h2⟩
   ·exact ⟨s, by omega, h⟩
  ·rintro ⟨t, h1, h2⟩
   by_cases e : t = s
   ·subst e; exact .inr h2
   ·exact .inl ⟨t, by omega, h2⟩
theorem lfL_iff {cl : List Int} {l : List Cr} {x : Int} : lfL cl l x = true ↔ ∃ v ∈ l, ∃ t, t < 4 ∧ x = ga cl (U24 v t).toNat := by
 unfold lfL
 rw [List.any_eq_true]
 constructor
 ·rintro ⟨v, h1, h2⟩; exact ⟨v, h1, lf1_iff.1 h2⟩
 ·rintro ⟨v, h1, h2⟩; exact ⟨v, h1, lf1_iff.2 h2⟩
theorem lfL_snoc (cl : List Int) (l : List Cr) (v : Cr) (x : Int) : lfL cl (l ++ [v]) x = (lfL cl l x || lf1 cl v 4 x) := by
 unfold lfL; rw [List.any_append]; simp
theorem tC_pos {d : Dg} (h : U1b d = true) (gn : Nat → Bool) {x : Nat} (h1 : 1 ≤ x) (h2 : x < 2 * d.crs.length + 1) : 1 ≤ ga (tC d gn) x := by
 obtain ⟨o1, o2, o3⟩ := (tCN_ok h gn (2 * d.crs.length) (Nat.le_refl _)).2 x h2
 have hc := clsG_con (K := 2 * d.crs.length) (e1 := tE1 d gn) (e2 := tE2 d gn) (N := 2 * d.crs.length + 1) (fun k hk => ⟨(tE_bd h gn hk).1, (tE_bd h gn hk).2.1⟩) (fun y => y = 0) (fun k hk => by
  obtain ⟨_, _, g1, g2⟩ := tE_bd h gn hk
  cases hq : gn (k / 2) with
  | true => have := g1 hq; constructor <;> intro h9 <;> omega
  | false => have := g2 hq; constructor <;> intro h9 <;> omega) (2 * d.crs.length) (Nat.le_refl _) x (ga (tC d gn) x).toNat h2 (by show (ga (tCN d gn _) x).toNat < _; omega) o3.symm
 have e : tC d gn = tCN d gn (2 * d.crs.length) := rfl
 rw [e] at *
 rcases Nat.eq_zero_or_pos (ga (tCN d gn (2 * d.crs.length)) x).toNat with h9 | h9
 ·have := hc.2 h9; omega
 ·omega
theorem tlf_root {d : Dg} (h : U1b d = true) {gn : Nat → Bool} {x : Nat} (hl : lfL (tC d gn) (tR d gn) (x : Int) = true) : 1 ≤ x ∧ x < 2 * d.crs.length + 1 ∧ ga (tC d gn) x = (x : Int) := by
 obtain ⟨v, h1, t, h2, h3⟩ := lfL_iff.1 hl
 have ha := tR_arc h (Nat.le_refl _) h1 h2
 have hp := tC_pos h gn (x := (U24 v t).toNat) (by omega) (by omega)
 obtain ⟨o1, o2, o3⟩ := (tCN_ok h gn (2 * d.crs.length) (Nat.le_refl _)).2 (U24 v t).toNat (by omega)
 have e : tCN d gn (2 * d.crs.length) = tC d gn := rfl
 rw [e] at o1 o2 o3
 rw [← h3] at o3
 refine ⟨by omega, by omega, ?_⟩
 rwa [show ((x : Int)).toNat = x by omega] at o3
theorem tR_left {d : Dg} {gn : Nat → Bool} {v : Cr} (hv : v ∈ tR d gn) {s : Nat} (hs : s < 4) : lfL (tC d gn) (tR d gn) (ga (tC d gn) (U24 v s).toNat) = true := lfL_iff.2 ⟨v, hv, s, hs, rfl⟩
def rtB2 (cl : List Int) (l : List Cr) (a : Nat) : Bool := decide (1 ≤ a) && (decide (ga cl a = (a : Int)) && lfL cl l (a : Int))
def loB2 (cl : List Int) (l : List Cr) (a : Nat) : Bool := decide (1 ≤ a) && (decide (ga cl a = (a : Int)) && !lfL cl l (a : Int))
def nuA (cl : List Int) (l : List Cr) (y : Int) : Int := (cn (rtB2 cl l) ((ga cl y.toNat).toNat + 1) : Int)
def nuC (cl : List Int) (l : List Cr) (v : Cr) : Cr := ⟨nuA cl l v.a, nuA cl l v.b, nuA cl l v.c, nuA cl l v.d, v.plus⟩
def tkD (d : Dg) (gn : Nat → Bool) : Dg := ⟨(tR d gn).map (nuC (tC d gn) (tR d gn)), d.loops + cn (loB2 (tC d gn) (tR d gn)) (2 * d.crs.length + 1)⟩
theorem cn_yes {P : Nat → Bool} {a : Nat} (h : P a = true) : cn P (a + 1) = cn P a + 1 := by rw [cn, if_pos h]
theorem cn_no {P : Nat → Bool} {a : Nat} (h : P a = false) : cn P (a + 1) = cn P a := by rw [cn, if_neg (by rw [h]; decide)]; rfl
theorem tR_nu {d : Dg} (h : U1b d = true) {gn : Nat → Bool} {nu : List Int} (hnu : ∀ x, x < 2 * d.crs.length + 1 → rtB2 (tC d gn) (tR d gn) x = true → ga nu x = (cn (rtB2 (tC d gn) (tR d gn)) (x + 1) : Int)) {v : Cr} (hv : v ∈ tR d gn) {s : Nat} (hs : s < 4) :
  ga nu (ga (tC d gn) (U24 v s).toNat).toNat = nuA (tC d gn) (tR d gn) (U24 v s) := by
 have ha := tR_arc h (Nat.le_refl _) hv hs
 have hp := tC_pos h gn (x := (U24 v s).toNat) (by omega) (by omega)
 have hl := tR_left hv hs
 obtain ⟨o1, o2, o3⟩ := (tCN_ok h gn (2 * d.crs.length) (Nat.le_refl _)).2 (U24 v s).toNat (by omega)
 have e : tCN d gn (2 * d.crs.length) = tC d gn := rfl
 rw [e] at o1 o2 o3
 have e2 : (((ga (tC d gn) (U24 v s).toNat).toNat : Nat) : Int) = ga (tC d gn) (U24 v s).toNat := by omega
 rw [hnu _ (by omega) (by unfold rtB2; rw [e2, o3, hl]; simp; omega)]
 rfl
end Go.Proofs.YthppkofceancjaaGreat
namespace Go.Proofs.YthppkofceancjaaGreat
open Go.ChangeShapes Go.WideShapes Go.ChangeAt Go.RowKit
def apartL (H : List Rs) : Prop := H.Pairwise fun r s => ∀ b ∈ r.bl, b ∉ s.bl
theorem U48 {H : List Rs} : apartL H ↔ ∀ (i j : Nat) r s, i ≠ j → H[i]? = some r → H[j]? = some s → ∀ b ∈ r.bl, b ∉ s.bl := by
  unfold apartL
  rw [List.pairwise_iff_getElem]
  constructor
  · intro h i j r s hij hi hj b hb hbs
    obtain ⟨i1, e1⟩ := List.getElem?_eq_some_iff.1 hi
    obtain ⟨j1, e2⟩ := List.getElem?_eq_some_iff.1 hj
    rcases Nat.lt_or_ge i j with h1 | h1
    · exact h i j i1 j1 h1 b (by rw [e1]; exact hb) (by rw [e2]; exact hbs)
    · exact h j i j1 i1 (by omega) b (by rw [e2]; exact hbs) (by rw [e1]; exact hb)
  · intro h i j hi hj hij
    exact h i j _ _ (by omega) (List.getElem?_eq_getElem hi) (List.getElem?_eq_getElem hj)
section
variable {w : World} {M : Hp} {X : Fr} {A B H H' : List Rs}
theorem SH.bunC (S : SH w M X (A ++ B)) : SH w M X (Rs.bun A :: B) := by
  have hap := U48.2 S.ap
  obtain ⟨h1, h2, h3⟩ := List.pairwise_append.1 hap
  refine ⟨S.m, S.x, S.mx, fun r hr => ?_, fun r hr b hb => ?_, U48.1 (List.pairwise_cons.2 ⟨fun s hs b hb => ?_, h2⟩), S.like⟩
  · rcases List.mem_cons.1 hr with rfl | hr
    · exact ⟨fun r hr => S.ok r (by simp [hr]), U48.1 h1⟩
    · exact S.ok r (by simp [hr])
  · rcases List.mem_cons.1 hr with rfl | hr
    · obtain ⟨q, hq, hb⟩ := List.mem_flatMap.1 hb
      exact S.bl q (by simp [hq]) b hb
    · exact S.bl r (by simp [hr]) b hb
  · obtain ⟨q, hq, hb⟩ := List.mem_flatMap.1 hb
    exact h3 q hq s hs b hb
theorem SH.U2y (S : SH w M X (Rs.bun A :: B)) : SH w M X (A ++ B) := by
  obtain ⟨hok, hap⟩ := S.ok (Rs.bun A) (by simp)
  obtain ⟨h1, h2⟩ := List.pairwise_cons.1 (U48.2 S.ap)
  refine ⟨S.m, S.x, S.mx, fun r hr => ?_, fun r hr b hb => ?_, U48.1 (List.pairwise_append.2 ⟨U48.2 hap, h2, fun r hr s hs b hb => h1 s hs b (List.mem_flatMap.2 ⟨r, hr, hb⟩)⟩), S.like⟩
  · rcases List.mem_append.1 hr with hr | hr
    · exact hok r hr
    · exact S.ok r (by simp [hr])
  · rcases List.mem_append.1 hr with hr | hr
    · exact S.bl (Rs.bun A) (by simp) b (List.mem_flatMap.2 ⟨r, hr, hb⟩)
    · exact S.bl r (by simp [hr]) b hb
end
namespace InF
section
variable {P : Program} {n : Nat} {C : Ctx} {c : Code} {s : List K} {L : List (Nat × Value)} {w : World} {M : Hp} {X : Fr} {H : List Rs}
end
end InF
end Go.Proofs.YthppkofceancjaaGreat
namespace Go.Proofs.YthppkofceancjaaGreat
open Go.ChangeShapes Go.WideShapes Go.ChangeAt Go.RowKit
def okT (a : List Tm) (i : Nat) : Prop := (-1000 ≤ (ga a i).e ∧ (ga a i).e ≤ 1000) ∧ (-1000000 ≤ (ga a i).c ∧ (ga a i).c ≤ 1000000) ∧ (ga a i).c ≠ 0 ∧ (0 < i → (ga a ((i : Int) - 1).toNat).e < (ga a i).e)
instance (a : List Tm) (i : Nat) : Decidable (okT a i) := by unfold okT; infer_instance
end Go.Proofs.YthppkofceancjaaGreat
namespace Go.Proofs.YthppkofceancjaaGreat
open Go.ChangeShapes Go.WideShapes Go.ChangeAt Go.RowKit
theorem Ents.at_ {es dn l1 l2 : List (Int × Int)} {B : Nat} (h : Ents es B) {k v : Int} {lf : List (Int × Int)} (hp : (dn ++ lf).Perm es) (hl : lf = l1 ++ (k, v) :: l2) : (-(B : Int) ≤ k ∧ k ≤ B) ∧ wr v = v := h.2 (k, v) (hp.mem_iff.1 (by rw [hl]; simp))
end Go.Proofs.YthppkofceancjaaGreat
namespace Go.Proofs.YthppkofceancjaaGreat
open Go.ChangeShapes Go.WideShapes Go.ChangeAt Go.RowKit
section
variable {α : Type} {C : Cd α} {N N' : Hp} {vs vs' : List SlV} {xss yss : List (List α)}
def RdD (C : Cd α) (N : Hp) (svs : List (List SlV)) (mm : List (List (List α))) : Prop := svs.length = mm.length ∧ ∀ i, i < svs.length → Rd2 C N (ga svs i) (ga mm i)
variable {svs : List (List SlV)} {mm : List (List (List α))}
theorem RdD.nil_ : RdD C N [] [] := ⟨rfl, fun i hi => by simp at hi⟩
end
section
variable {P : Program} {o : Oper} {L : List (Nat × Value)} {w : World} {x hx : Operand} {t tn T : TypeId} {n d : Nat} {Kt : List (Nat × Value) → World → Prop} {M : Hp} {X : Fr} {H : List Rs}
end
end Go.Proofs.YthppkofceancjaaGreat
namespace Go.Proofs.YthppkofceancjaaGreat
open Go.ChangeShapes Go.WideShapes Go.ChangeAt Go.RowKit
section
variable {P : Program} {o : Oper} {L : List (Nat × Value)} {w : World} {n d : Nat} {Kt : List (Nat × Value) → World → Prop} {M : Hp} {X : Fr} {H : List Rs} {i : Nat} {r : Rs}
theorem SH.less (S : SH w M X H) (hi : nth H i = some r) : SH w M X (H.set i Rs.emp) := S.step hi rfl (Like.refl w) (fun _ _ _ => rfl) trivial (fun b hb => by cases hb)
theorem wo_c1F {f : FuncId} {vs cap : List Value} {ca : Call} {fo : Operand} {xs : List Operand} (hd : o.dst = some d) (hop : o.op = .call ca) (hca : ca.callee = .value fo) (hfo : oev L fo = some (.func (.func f) #[] cap.toArray))
    (hxs : ca.args = xs.toArray) (hvs : oevs L xs = some vs) (hn : Nat.blt d n = true) (hen : ∀ args w, (callFunc f args).run P w = .ok (.enter f args) w) (S : SH w M X H) (hi : nth H i = some r)
    {R : Value → Hp → Rs → Prop} (hcall : C1 P f (vs ++ cap) w M (XH w X (H.set i Rs.emp)) R) (h : ∀ v w' M' r', M.le M' → SH w' M' X (H.set i r') → R v M' r' → Kt ((d, v) :: L) w') : WO P n o L w Kt := by
  intro a ha next Q hk
  have hr : (execOp a.eval o).run P w = .ok (.enter f (vs ++ cap).toArray) w := by
    unfold execOp
    simp only [hop, resolve, hca, ha.eval hfo, hxs, List.map_toArray, ha.evals hvs, Deferred.ofValue, Sem.run_bind, Sem.run_pure, Result.andThen_ok, invoke, Array.empty_append, List.append_toArray]
    exact hen _ _
  unfold Oper.wp
  rw [hr, Oper.upon_enter, hd]
  refine hcall.mono ?_
  rintro e w' ⟨v, rfl, M', r', h1, h2, h4⟩
  exact hk _ _ _ (ha.put (by simpa using hn) v) (h v w' M' r' h1 (S.back1 hi h2 rfl) h4)
end
end Go.Proofs.YthppkofceancjaaGreat
namespace Go.Proofs.YthppkofceancjaaGreat
open Go.ChangeShapes Go.WideShapes Go.ChangeAt Go.RowKit
section
variable {P : Program} {o : Oper} {L : List (Nat × Value)} {w w' : World} {x y : Operand} {T E : TypeId} {a : Int} {v : Value} {M : Hp} {X : Fr} {H N : List Rs} {i g : Nat} {l : List Value}
theorem U39 {o : Oper} {fid : FuncId} {vs cap : List Value} {ca : Call} {fo : Operand} {xs : List Operand} {v : Value} (hop : o.op = .call ca) (hca : ca.callee = .value fo) (hfo : oev L fo = some (.func (.func fid) #[] cap.toArray))
    (hxs : ca.args = xs.toArray) (hvs : oevs L xs = some vs) (hen : ∀ args w, (callFunc fid args).run P w = .ok (.enter fid args) w) (S : SH w M X H) (hc : Cq P fid (vs ++ cap) w M (XH w X H) (fun u => u = v)) :
    Run P o L w v w ∨ ∃ fid vs, (∀ n a, Env n L a → (execOp a.eval o).run P w = .ok (.enter fid vs) w) ∧ Calls P fid vs w fun e w3 => e = .returned v ∧ SH w3 M X H := by
  refine .inr ⟨fid, (vs ++ cap).toArray, fun n a ha => ?_, hc.mono fun e w3 ⟨u, h1, h2, h3⟩ => ⟨by rw [h1, h3], S.back h2⟩⟩
  unfold execOp
  simp only [hop, resolve, hca, ha.eval hfo, hxs, List.map_toArray, ha.evals hvs, Deferred.ofValue, Sem.run_bind, Sem.run_pure, Result.andThen_ok, invoke, Array.empty_append, List.append_toArray]
  exact hen _ _
theorem nth_app (N H : List Rs) (i : Nat) : nth (N ++ H) (N.length + i) = nth H i := by
  rw [U1v, U1v, List.getElem?_append_right (by omega)]
  congr 1
  omega
theorem SH.boxMs (S : SH w M X (N ++ H)) (hi : nth H i = some (Rs.box g E l)) : BxM (M.un (XH w X (N ++ H)).h) g E l := S.boxM (i := N.length + i) (by rw [nth_app]; exact hi)
theorem run_indexA2 {e : Nat} {p q r s : Value} {dd : TypeDesc} (hop : o.op = .index T x y) (hx : oev L x = some (.agg [p, q, r, s].toArray)) (hy : oev L y = some (.int .i64 a)) (hu : P.underlying T = some (.array 2 E)) (hE : P.underlying E = some dd) (hf : flatD dd = false) (hk : (P.info? E).map (·.size) = some 2)
    (ha : a = (e : Int)) (he : e < 2) : Run P o L w (.agg [if e = 0 then p else r, if e = 0 then q else s].toArray) w := by
  intro n c hc
  unfold execOp
  have h1 : (0 : Int) ≤ (e : Int) ∧ (e : Int) < ((2 : Nat) : Int) := by omega
  simp only [hop, hc.eval hx, hc.eval hy, Instr.index, asIntOf, Sem.run_bind, Sem.run_pure, Result.andThen_ok, run_underlying hu, ha, h1, and_self, if_true, run_sizeOf hk, Int.toNat_natCast, part, U44 hE, hf, Bool.not_false]
  have : e = 0 ∨ e = 1 := by omega
  rcases this with rfl | rfl <;> rfl
theorem run_lenMap {κ ε : Type} [DecidableEq κ] {kc : κ → Value} {vc : ε → Value} {es : List (κ × ε)} {t K V : TypeId} {ca : Call} {xs : List Operand} {ts : List TypeId} (ho : o.op = .call ca) (hca : ca.callee = .builtin .len) (hxs : ca.args = xs.toArray) (hts : ca.argTypes = ts.toArray) (hx : oevs L xs = some [.map (some g)]) (ht : nth ts 0 = some t) (hu : P.underlying t = some (.map K V)) (S : SH w M X H) (hi : nth H i = some (Rs.mp kc vc g es)) : Run P o L w (.int .i64 (es.length : Int)) w := by
  intro n c hc
  obtain ⟨arr, clock, hg, ha, hstm⟩ := (S.get hi : MpOk kc vc g es (hp w))
  have hg' : w.heap[g]? = some (.map arr clock) := hg
  have hgo := MapKept.run_getObj_map (P := P) hg'
  have hl : arr.size = es.length := by have := congrArg List.length ha; simpa using this
  rw [U1v] at ht
  have ht' : ts.toArray[0]? = some t := by simpa using ht
  unfold execOp
  simp only [ho, resolve, hca, hxs, hts, List.map_toArray, hc.evals hx, invoke, builtin, Builtin.len_, Sem.run_bind, Sem.run_pure, Result.andThen_ok, ht', List.getElem?_toArray, List.getElem?_cons_zero, run_underlying hu, goInt, hgo, hl]
end
end Go.Proofs.YthppkofceancjaaGreat
namespace Go.Proofs.YthppkofceancjaaGreat
open Go.ChangeShapes Go.WideShapes Go.ChangeAt Go.RowKit
def idxG {α : Type} (p : α → Bool) (xs : List α) : Int := match xs.findIdx? p with
 | some i => (i : Int)
 | none => -1
section
variable {α : Type} [Inhabited α]
theorem idxG_hit {p : α → Bool} {xs : List α} {k : Nat} (hk : k < xs.length) (h : p (ga xs k) = true) (h0 : ∀ j, j < k → p (ga xs j) = false) : idxG p xs = k := by
 have : xs.findIdx? p = some k := by
  rw [List.findIdx?_eq_some_iff_getElem]
  refine ⟨hk, by rw [← U36 hk]; exact h, fun j hj => ?_⟩
  rw [← U36 (by omega), h0 j hj]; simp
 simp [idxG, this]
theorem idxG_none {p : α → Bool} {xs : List α} (h0 : ∀ j, j < xs.length → p (ga xs j) = false) : idxG p xs = -1 := by
 have : xs.findIdx? p = none := by
  rw [List.findIdx?_eq_none_iff]
  intro x hx
  obtain ⟨j, hj, rfl⟩ := List.mem_iff_getElem.1 hx
  rw [← U36 hj]; exact h0 j hj
 simp [idxG, this]
end
theorem idxG_any {α : Type} (p : α → Bool) (xs : List α) : decide (0 ≤ idxG p xs) = xs.any p := by
 unfold idxG
 cases h : xs.findIdx? p with
 | some i =>
  rw [List.findIdx?_eq_some_iff_getElem] at h
  obtain ⟨h1, h2, _⟩ := h
  rw [Bool.eq_iff_iff, decide_eq_true_iff, List.any_eq_true]
  exact ⟨fun _ => ⟨xs[i], List.getElem_mem h1, h2⟩, fun _ => by show (0 : Int) ≤ (i : Int); omega⟩
 | none =>
  rw [List.findIdx?_eq_none_iff] at h
  rw [Bool.eq_iff_iff, decide_eq_true_iff, List.any_eq_true]
  constructor
  ·intro h1; exact absurd h1 (by decide)
  ·rintro ⟨x, hx, hp⟩; rw [h x hx] at hp; cases hp
theorem inG_any (gs : List Nat) (c : Nat) : (gs.map fun x : Nat => (x : Int)).any (fun y => decide ((c : Int) = y)) = inG gs c := by
 rw [Bool.eq_iff_iff, List.any_eq_true, inG_iff]
 constructor
 ·rintro ⟨y, hy, e⟩
  obtain ⟨x, hx, rfl⟩ := List.mem_map.1 hy
  have := of_decide_eq_true e
  obtain rfl : c = x := by omega
  exact hx
 ·intro h
  exact ⟨(c : Int), List.mem_map.2 ⟨c, h, rfl⟩, decide_eq_true rfl⟩
theorem tie_vals {d : Dg} (h : U1b d = true) {gn : Nat → Bool} {c : Nat} (hc : c < d.crs.length) (hg : gn c = true) {j : Nat} (hj : j < 2) : Value.agg [if j = 0 then Value.int .i64 (ga d.crs c).a else Value.int .i64 (abv (ga d.crs c)).1, if j = 0 then Value.int .i64 (ga d.crs c).c else Value.int .i64 (abv (ga d.crs c)).2].toArray = Value.agg [.int .i64 ((tE1 d gn (2 * c + j) : Nat) : Int), .int .i64 ((tE2 d gn (2 * c + j) : Nat) : Int)].toArray := by
 obtain ⟨ha, _, hc', _⟩ := tv_bd h hc
 have hv := av_bd h hc
 have e1 : (2 * c + j) / 2 = c := by omega
 have e2 : (2 * c + j) % 2 = j := by omega
 unfold tE1 tE2
 rw [e1, e2, hg, if_pos rfl, if_pos rfl]
 split
 ·rw [Int.toNat_of_nonneg (by omega), Int.toNat_of_nonneg (by omega)]
 ·rw [Int.toNat_of_nonneg (by omega), Int.toNat_of_nonneg (by omega)]
noncomputable def Zha:=Tryz.f149.body.getD .skip
def Zhb := cL Zha
def Zhc := cR Zha
def Zhd := cL Zhc
def Zhe := cR Zhc
def Zhf := cL Zhd
def Zhg := cR Zhd
def Zhh := cL Zhg
def Zhi := cL Zhh
def Zhj := cL Zhi
def Zhk := cR Zhi
def Zhl := cL Zhk
def Zhm := cR Zhk
def Zhn := cL Zhl
def Zho := cR Zhl
def Zhp := cL Zhm
def Zhq := cR Zhm
def Zhr := cL Zhp
def Zhs := cL Zhr
def Zht := cR Zhr
def Zhu := cL Zht
def Zhv := cR Zht
def Zhw := cL Zhv
def Zhx := cR Zhv
def Zhy := cL Zhw
def Zhz := cR Zhw
def Zi0 := cL Zhe
def Zi1 := cR Zhe
set_option maxRecDepth 10000 in
theorem IndexI_q {w : World} {M : Hp} {X : Fr} (s : List Int) {sA : Option Addr} {sc : Nat} (v : Int) (hs : RdA Uv (M.un X.h) sA sc s) (S : SH w M X []) : Cq Tryz.prog 149 [.slice sA s.length sc, .int .i64 v] w M X (fun u => u = .int .i64 (idxG (fun y => decide (v = y)) s)) := by
 unfold Cq
 have rmhs : s.length * 8 ≤ 140737488355328 := hs.room
 refine Uo (b := Zha) Tryz.func149 rfl Tryz.ntmps149 rfl (fun C hC => (U14 [(0, _), (1, _)] ⟨rfl, rfl, trivial⟩ (U2 Zhb Zhc rfl rfl rfl (U1 rfl (mvs 0 1 rfl rfl (U5 rfl (nmk [0, 1] rfl (U4 (U2 Zhd Zhe rfl rfl rfl ?_)))))))))
 refine U2 Zhf Zhg rfl rfl rfl (U1 rfl (mvs 0 1 rfl rfl (wlr 1 rfl (U1f rfl rfl rfl rfl rfl rfl uT53) (mvs 2 1 rfl rfl (U5 rfl (nmk [0, 1, 7, 8] rfl (U4 (Uc Zhh 0 rfl rfl rfl ?_))))))))
 refine U11 (fun mx_ ax_ wx_ => ∃ (i : Nat), mx_ = s.length - i ∧ Env 19 [(0, .slice sA s.length sc), (1, .int .i64 v), (7, .int .i64 (s.length : Int)), (8, .int .i64 (i : Int))] ax_ ∧ SH wx_ M X [] ∧ i ≤ s.length ∧ (∀ j, j < i → decide (v = ga s j) = false)) rfl ?_ ?_
 ·intro ax_ hax_
  refine ⟨_, ⟨0, rfl, hax_.sub ⟨rfl, rfl, rfl, rfl, trivial⟩, S.pick [] [] (by decide) trivial, ?hq1f0, ?hq1f1⟩⟩
  case hq1f0 => omega
  case hq1f1 => (intro j hj; omega)
 ·rintro m1 a1 w1 ⟨i, rfl, he1, S1, hi, hq⟩
  clear S
  refine U1u he1 (c := Zhi) rfl ?_
  clear he1 a1
  refine U2 Zhj Zhk rfl rfl rfl (U1 rfl (wlr 0 rfl (U17 rfl rfl rfl) (U5 rfl (U4 (U2 Zhl Zhm rfl rfl rfl ?_)))))
  refine Ue Zhn Zho rfl rfl rfl rfl (fun hb9 => ?_) (fun hb9 => ?_)
  ·refine Uf rfl (nmk [0, 1, 7, 8] rfl (U4 (U2 Zhp Zhq rfl rfl rfl (Uc Zhr 1 rfl rfl rfl (U2 Zhs Zht rfl rfl rfl (U1 rfl (mvs 0 2 rfl rfl (U5 rfl ?_))))))))
   refine nmk [0, 1, 7, 8, 5] rfl (U4 (U2 Zhu Zhv rfl rfl rfl (U1 rfl (mvs 0 3 rfl rfl (wlr 3 rfl (Uj (C := Uv) i rfl rfl rfl sl53 (by first | rfl | omega) hs (by first | omega | (simp only [ls]; omega))) ?_)))))
   refine wlr 4 rfl (U3 rfl rfl uT3 rfl (hs.cell S1.um (i := i) (by first | omega | (simp only [ls]; omega)) 0 rfl rfl)) ?_
   refine wlr 5 rfl (Uz rfl rfl rfl) (U5 rfl (nmk [0, 1, 7, 8, 5, 16] rfl (U4 ?_)))
   refine Ue Zhw Zhx rfl rfl rfl rfl (fun hb16 => ?_) (fun hb16 => ?_)
   ·refine U2 Zhy Zhz rfl rfl rfl (U1 rfl (mvs 0 2 rfl rfl (U5 rfl (nmk [4] rfl (U4 (Uk hC [_] rfl rfl ⟨rfl, trivial⟩ ?_))))))
    exact ⟨_, rfl, (S1.pick [] [] (by decide) trivial), (by rw [idxG_hit (p := fun y => decide (v = y)) (k := i) (by omega) (decide_eq_true hb16) hq]; rfl)⟩
   ·refine Uf rfl (U12 (nmk [0, 1, 7, 8] rfl (U4 (U1 rfl (wlr 0 rfl (Ug rfl rfl rfl (by first | omega | (simp only [ls]; omega))) ?_)))))
    refine mvs 1 1 rfl rfl (U5 rfl (U15 ?_))
    intro ax_ hax_
    refine ⟨_, ?hq2m, ⟨i + 1, rfl, hax_.sub ⟨rfl, rfl, rfl, rfl, trivial⟩, S1.pick [] [] (by decide) trivial, ?hq2f0, ?hq2f1⟩⟩
    case hq2f0 => omega
    case hq2f1 => (intro j hj; by_cases e : j = i; (subst e; exact decide_eq_false hb16); exact hq j (by omega))
    case hq2m => omega
  ·refine U16 rfl rfl (U1a [] trivial (U4 (U2 Zi0 Zi1 rfl rfl rfl (U1 rfl (mvs 0 1 rfl rfl (U5 rfl (U4 (Uk hC [_] rfl rfl ⟨rfl, trivial⟩ ?_))))))))
   exact ⟨_, rfl, (S1.pick [] [] (by decide) trivial), (by rw [idxG_none (p := fun y => decide (v = y)) (fun j hj => hq j (by omega))]; rfl)⟩
noncomputable def Zi2:=Tryz.f136.body.getD .skip
def Zi3 := cL Zi2
def Zi4 := cR Zi2
def Zi5 := cL Zi4
def Zi6 := cR Zi4
set_option maxRecDepth 10000 in
theorem ContainsI_q {w : World} {M : Hp} {X : Fr} (s : List Int) {sA : Option Addr} {sc : Nat} (v : Nat) (hs : RdA Uv (M.un X.h) sA sc s) {gs : List Nat} (hsq : s = gs.map fun x : Nat => (x : Int)) (S : SH w M X []) : Cq Tryz.prog 136 [.slice sA s.length sc, .int .i64 (v : Int)] w M X (fun u => u = .bool (inG gs v)) := by
 unfold Cq
 have rmhs : s.length * 8 ≤ 140737488355328 := hs.room
 refine Uo (b := Zi2) Tryz.func136 rfl Tryz.ntmps136 rfl (fun C hC => (U14 [(0, _), (1, _)] ⟨rfl, rfl, trivial⟩ (U2 Zi3 Zi4 rfl rfl rfl (U1 rfl (mvs 0 1 rfl rfl (U5 rfl (nmk [0, 1] rfl (U4 (U2 Zi5 Zi6 rfl rfl rfl ?_)))))))))
 refine U1 rfl (mvs 0 2 rfl rfl (wlo 2 3 rfl rfl rfl (U20 rfl rfl rfl rfl rfl rfl rfl cf149 S (IndexI_q s (v : Int) (hs.mono S.Uw) S.lend) ?_)))
 rintro _ w1 S1 rfl; clear S
 refine wlr 3 rfl (U2q rfl rfl rfl) (mvs 4 1 rfl rfl (U5 rfl (nmk [4] rfl (U4 (Uk hC [_] rfl rfl ⟨rfl, trivial⟩ ?_)))))
 exact ⟨_, rfl, (S1.pick [] [] (by decide) trivial), (by show Value.bool _ = _; rw [idxG_any, hsq, inG_any])⟩
noncomputable def Zi7:=Tryz.f165.body.getD .skip
def Zi8 := cL Zi7
def Zi9 := cR Zi7
def Zia := cL Zi9
def Zib := cR Zi9
set_option maxRecDepth 10000 in
theorem Through_q {w : World} {M : Hp} {X : Fr} (x : Cr) (S : SH w M X []) : Cq Tryz.prog 165 [.agg [.int .i64 x.a, .int .i64 x.b, .int .i64 x.c, .int .i64 x.d, .bool x.plus].toArray] w M X (fun u => u = .agg [.int .i64 x.a, .int .i64 x.c, .int .i64 (abv x).1, .int .i64 (abv x).2].toArray) := by
 unfold Cq
 refine Uo (b := Zi7) Tryz.func165 rfl Tryz.ntmps165 rfl (fun C hC => (U14 [(0, _)] ⟨rfl, trivial⟩ (U2 Zi8 Zi9 rfl rfl rfl (U1 rfl (wlo 0 1 rfl rfl rfl (U18 (l := [_, _, _, _, _]) rfl rfl rfl rfl rfl S ?_))))))
 intro gb1 w1 S1; clear S
 refine wlo 1 2 rfl rfl rfl (Uh (l := [_, _, _, _]) rfl rfl rfl zr222 rfl S1 ?_)
 intro gb2 w2 S2; clear S1
 refine U5 rfl (nmk [1, 2] rfl (U4 (U2 Zia Zib rfl rfl rfl (Ux rfl (by kernel_rfl) S2 6 rfl ?_))))
 clear S2
 refine wat 0 5 rfl (by kernel_rfl) (fun _ _ _ hz Sz => .inl (U8 (us := [_, _, _, _, _]) rfl rfl uT77 rfl sz77 (Sz.suf.boxcs (i := 1) rfl ⟨rfl, rfl, rfl, rfl, rfl, trivial⟩))) ?_
 refine wat 1 4 rfl (by kernel_rfl) (fun _ _ _ hz Sz => Uq rfl rfl rfl rfl rfl cf138 Sz (Below_q x  Sz.lend)) ?_
 refine wat 2 3 rfl (by kernel_rfl) (fun _ _ _ hz Sz => .inl (U8 (us := [_, _, _, _, _]) rfl rfl uT77 rfl sz77 (Sz.suf.boxcs (i := 1) rfl ⟨rfl, rfl, rfl, rfl, rfl, trivial⟩))) ?_
 refine wat 3 2 rfl (by kernel_rfl) (fun _ _ _ hz Sz => Uq rfl rfl rfl rfl rfl cf139 Sz (Above_q x  Sz.lend)) ?_
 refine wat 4 1 rfl (by kernel_rfl) (fun _ _ _ hz Sz => .inl (U1n (l := [_, _, _, _]) (pl := [(0, 2), (2, 2)]) rfl rfl uT222 zr222 sz128 rfl rfl rfl)) ?_
 refine Um (i := 5) 0 rfl (by kernel_rfl) rfl rfl (fun w9 S9 => ?_)
 refine (U7 (i := 0) (us := [_, _, _, _]) (l' := [_, _, _, _]) (H' := [_, _]) rfl rfl S9 rfl rfl rfl rfl sz222 rfl rfl rfl rfl ?_)
 intro w10 S10; clear S9
 refine U10.turn (by kernel_rfl) S10 ?_; clear S10
 change WA _ _ _ _ _ _ _ _ _ _ _ _ [_, _]
 refine Uu (by kernel_rfl) (fun w11 S11 => ?_)
 refine nmk [2] rfl (U4 (Uk hC [_] rfl rfl ⟨⟨_, rfl, Up (us := [_, _, _, _]) uT222 rfl sz222 (S11.boxcs (i := 0) rfl ⟨rfl, rfl, rfl, rfl, trivial⟩)⟩, trivial⟩ ?_))
 exact ⟨_, rfl, (S11.pick [] [] (by decide) trivial), rfl⟩
noncomputable def Zic:=Tryz.f137.body.getD .skip
def Zid := cL Zic
def Zie := cR Zic
def Zif := cL Zie
def Zig := cR Zie
set_option maxRecDepth 10000 in
theorem WAtM_q {w : World} {M : Hp} {X : Fr} (y : Int) (nu : List Int) {g0 : Nat} {nA : Option Addr} {nc : Nat} (cl : List Int) {g1 : Nat} {lA : Option Addr} {lc : Nat} (hbn : BxM (M.un X.h) g0 53 [.slice nA nu.length nc]) (hn : RdA Uv (M.un X.h) nA nc nu) (hbl : BxM (M.un X.h) g1 53 [.slice lA cl.length lc]) (hl : RdA Uv (M.un X.h) lA lc cl) (hy : 0 ≤ y ∧ y.toNat < cl.length) (hz : 0 ≤ ga cl y.toNat ∧ (ga cl y.toNat).toNat < nu.length) (S : SH w M X []) : Cq Tryz.prog 137 [.int .i64 y, .pointer (some ⟨g0, 0, none⟩), .pointer (some ⟨g1, 0, none⟩)] w M X (fun u => u = .int .i64 (ga nu (ga cl y.toNat).toNat)) := by
 unfold Cq
 refine Uo (b := Zic) Tryz.func137 rfl Tryz.ntmps137 rfl (fun C hC => (U14 [(0, _), (1, _), (2, _)] ⟨rfl, rfl, rfl, trivial⟩ (U2 Zid Zie rfl rfl rfl (U1 rfl (mvs 0 1 rfl rfl (U5 rfl (nmk [0, 1, 2] rfl (U4 (U2 Zif Zig rfl rfl rfl ?_)))))))))
 refine Ux rfl (by kernel_rfl) S 8 rfl ?_
 clear S
 refine wat 0 7 rfl (by kernel_rfl) (fun _ _ _ hz Sz => .inl (U3 rfl rfl uT53 rfl ((hbn.mono (Hp.Ua hz Sz.mx)).cell Sz.um rfl))) ?_
 refine wat 1 6 rfl (by kernel_rfl) (fun _ _ _ hz Sz => .inl (U3 rfl rfl uT53 rfl ((hbl.mono (Hp.Ua hz Sz.mx)).cell Sz.um rfl))) ?_
 refine wap 2 5 rfl (by kernel_rfl) (fun _ => run_move rfl rfl) ?_
 refine wat 3 4 rfl (by kernel_rfl) (fun _ _ _ hz Sz => .inl (Uj (C := Uv) y.toNat rfl rfl rfl sl53 (by first | rfl | omega) (hl.mono (Hp.Ua hz Sz.mx)) (by first | omega | (simp only [ls]; omega)))) ?_
 refine wat 4 3 rfl (by kernel_rfl) (fun _ _ _ hz Sz => .inl (U3 rfl rfl uT3 rfl ((hl.mono (Hp.Ua hz Sz.mx)).cell Sz.um (i := y.toNat) (by first | omega | (simp only [ls]; omega)) 0 rfl rfl))) ?_
 refine wat 5 2 rfl (by kernel_rfl) (fun _ _ _ hz Sz => .inl (Uj (C := Uv) ((ga cl y.toNat).toNat) rfl rfl rfl sl53 (by first | rfl | omega) (hn.mono (Hp.Ua hz Sz.mx)) (by first | omega | (simp only [ls]; omega)))) ?_
 refine wat 6 1 rfl (by kernel_rfl) (fun _ _ _ hz Sz => .inl (U3 rfl rfl uT3 rfl ((hn.mono (Hp.Ua hz Sz.mx)).cell Sz.um (i := (ga cl y.toNat).toNat) (by first | omega | (simp only [ls]; omega)) 0 rfl rfl))) ?_
 refine wap 7 0 rfl (by kernel_rfl) (fun _ => run_assign rfl rfl) ?_
 refine Uu (by kernel_rfl) (fun w9 S9 => ?_)
 refine nmk [4] rfl (U4 (Uk hC [_] rfl rfl ⟨rfl, trivial⟩ ?_))
 exact ⟨_, rfl, (S9.pick [] [] (by decide) trivial), rfl⟩
theorem seven {α : Type} [Inhabited α] {f : α → α} {xs c : List α} {i : Nat} {y : α} (h : c = (xs.take i).map f ++ xs.drop i) (hi : i < xs.length) (hy : y = f (ga xs i)) : c.set i y = (xs.take (i + 1)).map f ++ xs.drop (i + 1) := by
 have hl : ((xs.take i).map f).length = i := by rw [List.length_map, List.length_take]; omega
 rw [h, hy, List.set_append_right _ _ (by omega), hl, Nat.sub_self, take_ga xs i hi, List.map_append, List.append_assoc, List.drop_eq_getElem_cons hi, List.set_cons_zero]
 rfl
theorem seven_ga {α : Type} [Inhabited α] {f : α → α} {xs c : List α} {i : Nat} (h : c = (xs.take i).map f ++ xs.drop i) (hi : i < xs.length) : ga c i = ga xs i := by
 have hl : ((xs.take i).map f).length = i := by rw [List.length_map, List.length_take]; omega
 rw [h, U32 _ _ _ (by omega), hl, Nat.sub_self, List.drop_eq_getElem_cons hi, U36 (by simp; omega), U36 hi]
 rfl
theorem cast_add (x : Int) (n : Nat) : x + ((n : Nat) : Int) + 1 = x + ((n + 1 : Nat) : Int) := by omega
noncomputable def Zih:=Tryz.f87.body.getD .skip
def Zii := cL Zih
def Zij := cR Zih
def Zik := cL Zij
def Zil := cR Zij
def Zim := cL Zil
def Zin := cR Zil
def Zio := cL Zim
def Zip := cR Zim
def Ziq := cL Zip
def Zir := cL Ziq
def Zis := cL Zir
def Zit := cR Zir
def Ziu := cL Zit
def Ziv := cR Zit
def Ziw := cL Ziu
def Zix := cR Ziu
def Ziy := cL Ziv
def Ziz := cR Ziv
def Zj0 := cL Ziy
def Zj1 := cL Zj0
def Zj2 := cR Zj0
def Zj3 := cL Zin
def Zj4 := cR Zin
def Zj5 := cL Zj4
def Zj6 := cR Zj4
def Zj7 := cL Zj6
def Zj8 := cR Zj6
def Zj9 := cL Zj7
def Zja := cR Zj7
def Zjb := cL Zja
def Zjc := cL Zjb
def Zjd := cL Zjc
def Zje := cR Zjc
def Zjf := cL Zje
def Zjg := cR Zje
def Zjh := cL Zjf
def Zji := cR Zjf
def Zjj := cL Zjg
def Zjk := cR Zjg
def Zjl := cL Zjj
def Zjm := cL Zjl
def Zjn := cR Zjl
def Zjo := cL Zjn
def Zjp := cR Zjn
def Zjq := cL Zjo
def Zjr := cR Zjo
def Zjs := cL Zjr
def Zjt := cR Zjr
def Zju := cL Zjs
def Zjv := cR Zjs
def Zjw := cL Zjp
def Zjx := cR Zjp
def Zjy := cL Zjx
def Zjz := cL Zjy
def Zk0 := cL Zjz
def Zk1 := cR Zjz
def Zk2 := cL Zk1
def Zk3 := cR Zk1
def Zk4 := cL Zk2
def Zk5 := cR Zk2
def Zk6 := cL Zk3
def Zk7 := cR Zk3
def Zk8 := cL Zk6
def Zk9 := cL Zk8
def Zka := cR Zk8
def Zkb := cL Zka
def Zkc := cR Zka
def Zkd := cL Zkc
def Zke := cR Zkc
def Zkf := cL Zke
def Zkg := cL Zkf
def Zkh := cL Zkg
def Zki := cR Zkg
def Zkj := cL Zki
def Zkk := cR Zki
def Zkl := cL Zkj
def Zkm := cR Zkj
def Zkn := cL Zkk
def Zko := cR Zkk
def Zkp := cL Zkn
def Zkq := cL Zkp
def Zkr := cR Zkp
def Zks := cL Zkr
def Zkt := cR Zkr
def Zku := cL Zkt
def Zkv := cR Zkt
def Zkw := cL Zj8
def Zkx := cR Zj8
def Zky := cL Zkw
def Zkz := cR Zkw
def Zl0 := cL Zkz
def Zl1 := cL Zl0
def Zl2 := cL Zl1
def Zl3 := cR Zl1
def Zl4 := cL Zl3
def Zl5 := cR Zl3
def Zl6 := cL Zl4
def Zl7 := cR Zl4
def Zl8 := cL Zl5
def Zl9 := cR Zl5
def Zla := cL Zl8
def Zlb := cL Zla
def Zlc := cR Zla
def Zld := cL Zlc
def Zle := cR Zlc
def Zlf := cL Zle
def Zlg := cL Zlf
def Zlh := cL Zlg
def Zli := cR Zlg
def Zlj := cL Zli
def Zlk := cR Zli
def Zll := cL Zlj
def Zlm := cR Zlj
def Zln := cL Zlk
def Zlo := cR Zlk
def Zlp := cL Zln
def Zlq := cL Zlp
def Zlr := cR Zlp
def Zls := cL Zkx
def Zlt := cR Zkx
def Zlu := cL Zlt
def Zlv := cR Zlt
def Zlw := cL Zlv
def Zlx := cR Zlv
def Zly := cL Zlw
def Zlz := cR Zlw
def Zm0 := cL Zlz
def Zm1 := cL Zm0
def Zm2 := cL Zm1
def Zm3 := cR Zm1
def Zm4 := cL Zm2
def Zm5 := cR Zm2
def Zm6 := cL Zm5
def Zm7 := cR Zm5
def Zm8 := cL Zm3
def Zm9 := cR Zm3
def Zma := cL Zm8
def Zmb := cL Zma
def Zmc := cL Zmb
def Zmd := cR Zmb
def Zme := cL Zmd
def Zmf := cR Zmd
def Zmg := cL Zmf
def Zmh := cR Zmf
def Zmi := cL Zmh
def Zmj := cR Zmh
def Zmk := cL Zmi
def Zml := cR Zmi
def Zmm := cL Zlx
def Zmn := cR Zlx
def Zmo := cL Zmn
def Zmp := cR Zmn
def Zmq := cL Zmo
def Zmr := cR Zmo
def Zms := cL Zmr
def Zmt := cL Zms
def Zmu := cL Zmt
def Zmv := cR Zmt
def Zmw := cL Zmv
def Zmx := cR Zmv
def Zmy := cL Zmw
def Zmz := cR Zmw
def Zn0 := cL Zmx
def Zn1 := cR Zmx
def Zn2 := cL Zn0
def Zn3 := cL Zn2
def Zn4 := cR Zn2
def Zn5 := cL Zmp
def Zn6 := cR Zmp
set_option maxHeartbeats 4000000 in
set_option maxRecDepth 10000 in
theorem WithoutM_t {w : World} {M : Hp} {X : Fr} (d : Dg) {gsh : Nat} {cA iA oA : Option Addr} {cc ic oc : Nat} (gone : List Int) {goneA : Option Addr} {gonec : Nat} (hsb : BxM (M.un X.h) gsh 70 [.slice cA d.crs.length cc, .int .i64 d.loops, .slice iA (tabL d false (4 * d.crs.length)).length ic, .slice oA (tabL d true (4 * d.crs.length)).length oc]) (hsc : RdA cdCr (M.un X.h) cA cc d.crs) (hsi : RdA cdPl (M.un X.h) iA ic (tabL d false (4 * d.crs.length))) (hso : RdA cdPl (M.un X.h) oA oc (tabL d true (4 * d.crs.length))) (hgone : RdA Uv (M.un X.h) goneA gonec gone) {gs : List Nat} (hsq : gone = gs.map fun x : Nat => (x : Int)) (hn : d.crs.length ≤ 16) (hab : U1b d = true) (hlo0 : 0 ≤ d.loops ∧ d.loops ≤ 1000) (S : SH w M X []) : Ct Tryz.prog 87 [.pointer (some ⟨gsh, 0, none⟩), .func (.func 165) #[] #[], .slice goneA gone.length gonec] w M X (fun u N => ∃ A c, u = .agg [.slice A (tkD d (inG gs)).crs.length c, .int .i64 (tkD d (inG gs)).loops].toArray ∧ RdA cdCr N A c (tkD d (inG gs)).crs) := by
 unfold Ct
 have rmhgone : gone.length * 8 ≤ 140737488355328 := hgone.room
 refine Uo (b := Zih) Tryz.func87 rfl Tryz.ntmps87 rfl (fun C hC => (U14 [(0, _), (1, _), (2, _)] ⟨rfl, rfl, rfl, trivial⟩ (U2 Zii Zij rfl rfl rfl (U1 rfl (wlo 0 1 rfl rfl rfl (Uh (l := [_, _]) rfl rfl rfl zr24 rfl S ?_))))))
 intro gb1 w1 S1; clear S
 refine U5 rfl (U4 (U2 Zik Zil rfl rfl rfl (U1 rfl (mvs 0 1 rfl rfl (wlo 1 2 rfl rfl rfl (U20 rfl rfl rfl rfl rfl rfl rfl cf111 S1 (Arcs_q d  (hsb.mono S1.Uw) (hsc.mono S1.Uw) (hsi.mono S1.Uw) (hso.mono S1.Uw) (by omega) S1.lend) ?_))))))
 rintro _ w2 S2 rfl; clear S1
 refine wlr 2 rfl (Ug rfl rfl rfl (by first | omega | (simp only [ls]; omega))) ?_
 refine wlo 3 4 rfl rfl rfl (wo_make (C := Uv) ((2 * (d.crs.length : Int)).toNat + 1) rfl rfl rfl rfl rfl sl53 (by first | rfl | omega) (by show _ * 8 ≤ _; first | omega | (simp only [ls]; omega)) S2 ?_)
 intro vr1 w3 S3; clear S2
 refine wlo 4 5 rfl rfl rfl (Uh (l := [_]) rfl rfl rfl zr53 rfl S3 ?_)
 intro gb2 w4 S4; clear S3
 refine wlo 5 6 rfl rfl rfl (U7 (i := 0) (us := [_]) (l' := [_]) (H' := [_, _, _]) rfl rfl S4 rfl rfl rfl (S4.cells1 (i := 1) rfl) sz53 rfl (Uy (S4.one (i := 1) rfl) rfl) rfl rfl ?_)
 intro w5 S5; clear S4
 refine U5 rfl (nmk [0, 1, 2, 6, 7] rfl (U4 (U2 Zim Zin rfl rfl rfl (U2 Zio Zip rfl rfl rfl (U1 rfl (wlr 0 rfl (U3 rfl rfl uT53 rfl (S5.boxc (i := 0) rfl rfl)) (wlr 1 rfl (U38 (C := Uv) (i := 1) rfl rfl rfl rfl rfl rfl sl53 S5 rfl) (U1t 32 (.int .i64 ((2 * d.crs.length + 1 : Nat) : Int)) rfl (int_eq (by rw [List.length_replicate]; omega)) ?_))))))))
 refine mvs 2 1 rfl rfl (U5 rfl (nmk [0, 1, 2, 6, 7, 32, 33] rfl (U4 (Uc Ziq 0 rfl rfl rfl ?_))))
 refine U11 (fun mx_ ax_ wx_ => ∃ (i : Nat) (ws : List Int) (vrw : Value), mx_ = 2 * d.crs.length + 1 - i ∧ Env 198 [(0, .pointer (some ⟨gsh, 0, none⟩)), (1, .func (.func 165) #[] #[]), (2, .slice goneA gone.length gonec), (6, .pointer (some ⟨gb1, 0, none⟩)), (7, .pointer (some ⟨gb2, 0, none⟩)), (32, .int .i64 ((2 * d.crs.length + 1 : Nat) : Int)), (33, .int .i64 (i : Int))] ax_ ∧ SH wx_ M X [Rs.box gb2 53 [vrw], Rs.row Uv vrw ws, Rs.box gb1 24 [.slice none 0 0, .int .i64 0]] ∧ i ≤ 2 * d.crs.length + 1 ∧ ws = iniW (2 * d.crs.length + 1) i) rfl ?_ ?_
 ·intro ax_ hax_
  refine ⟨_, ⟨0, _, _, rfl, hax_.sub ⟨rfl, rfl, rfl, rfl, rfl, rfl, rfl, trivial⟩, S5.pick [0, 1, 2] [_, _, _] (by decide) ⟨rfl, rfl, rfl, trivial⟩, ?hq1f0, ?hq1f1⟩⟩
  case hq1f0 => omega
  case hq1f1 => rfl
 ·rintro m1 a1 w6 ⟨i, ws, vrw, rfl, he1, S6, hi, hw⟩
  clear S5
  refine U1u he1 (c := Zir) rfl ?_
  clear he1 a1
  have hwl : ws.length = 2 * d.crs.length + 1 := by rw [hw, U3v]
  refine U2 Zis Zit rfl rfl rfl (U1 rfl (wlr 0 rfl (U17 rfl rfl rfl) (U5 rfl (U4 (U2 Ziu Ziv rfl rfl rfl ?_)))))
  refine Ue Ziw Zix rfl rfl rfl rfl (fun hb34 => ?_) (fun hb34 => ?_)
  ·refine Uf rfl (nmk [0, 1, 2, 6, 7, 32, 33] rfl (U4 (U2 Ziy Ziz rfl rfl rfl (Uc Zj0 1 rfl rfl rfl (U2 Zj1 Zj2 rfl rfl rfl (U1 rfl (mvs 0 2 rfl rfl (U5 rfl ?_))))))))
   refine nmk [0, 1, 2, 6, 7, 32, 33, 8] rfl (U4 (U1 rfl (wlr 0 rfl (U3 rfl rfl uT53 rfl (S6.boxc (i := 0) rfl rfl)) (mvs 1 2 rfl rfl (wlr 3 rfl (Ui (C := Uv) (i := 1) i rfl rfl rfl sl53 S6 rfl (by first | rfl | omega) (by first | omega | (simp only [ls]; omega))) ?_)))))
   refine wlo 4 5 rfl rfl rfl (U1i (C := Uv) (i := 1) (e := i) (j := 0) (us := [_]) (H' := [_, _, _]) (i : Int) rfl rfl S6 rfl (by first | omega | (simp only [ls]; omega)) rfl rfl rfl sz3 rfl rfl rfl rfl ?_)
   intro w7 S7; clear S6
   refine U5 rfl (U12 (nmk [0, 1, 2, 6, 7, 32, 33] rfl (U4 (U1 rfl (wlr 0 rfl (Ug rfl rfl rfl (by first | omega | (simp only [ls]; omega))) ?_)))))
   refine mvs 1 1 rfl rfl (U5 rfl (U15 ?_))
   intro ax_ hax_
   refine ⟨_, ?hq2m, ⟨i + 1, _, _, rfl, hax_.sub ⟨rfl, rfl, rfl, rfl, rfl, rfl, rfl, trivial⟩, S7.pick [0, 1, 2] [_, _, _] (by decide) ⟨rfl, rfl, rfl, trivial⟩, ?hq2f0, ?hq2f1⟩⟩
   case hq2f0 => omega
   case hq2f1 => (rw [hw]; rfl)
   case hq2m => omega
  ·refine U16 rfl rfl (nmk [0, 1, 2, 6, 7] rfl (U4 (U2 Zj3 Zj4 rfl rfl rfl (U1 rfl (wlo 0 1 rfl rfl rfl (U3g Int Bool (Value.int .i64) Value.bool rfl rfl rfl S6 ?_))))))
   intro gm2 w8 S8; clear S6
   refine mvs 1 1 rfl rfl (U5 rfl (nmk [0, 1, 2, 6, 7, 9] rfl (U4 (U2 Zj5 Zj6 rfl rfl rfl (U1 rfl (mvs 0 1 rfl rfl (wlr 1 rfl (U9 rfl rfl) (wlr 2 rfl (U0 rfl rfl uT70 rfl (ce24) (nf24)) ?_))))))))
   refine wlr 3 rfl (U0 rfl rfl uT24 rfl (ce3) (nf3)) (wlr 4 rfl (U3 rfl rfl uT3 rfl (hsb.cell S8.um rfl)) (wlr 5 rfl (run_build (l := [_, _]) rfl rfl st24 rfl rfl) (wlo 6 7 rfl rfl rfl (Uh (l := [_, _]) rfl rfl rfl zr24 rfl S8 ?_))))
   intro gb3 w9 S9; clear S8
   refine wlo 7 8 rfl rfl rfl (U7 (i := 0) (us := [_, _]) (l' := [_, _]) (H' := [_, _, _, _, _]) rfl rfl S9 rfl rfl rfl rfl sz24 rfl rfl rfl rfl ?_)
   intro w10 S10; clear S9
   refine U5 rfl (nmk [0, 1, 2, 6, 7, 9, 10] rfl (U4 (U2 Zj7 Zj8 rfl rfl rfl (U2 Zj9 Zja rfl rfl rfl (U1 rfl (mvs 0 1 rfl rfl (wlr 1 rfl (U9 rfl rfl) (wlr 2 rfl (U0 rfl rfl uT70 rfl (ce24) (nf24)) ?_))))))))
   refine wlr 3 rfl (U0 rfl rfl uT24 rfl (ce22) (nf22)) (wlr 4 rfl (U3 rfl rfl uT22 rfl (hsb.cell S10.um rfl)) (wlr 5 rfl (U1f rfl rfl rfl rfl rfl rfl uT22) (mvs 6 1 rfl rfl (U5 rfl (nmk [1, 2, 6, 7, 9, 10, 52, 53, 54] rfl (U4 (Uc Zjb 2 rfl rfl rfl ?_)))))))
   have S11 := S10.nilrow cdCr; clear S10
   refine U11 (fun mx_ ax_ wx_ => ∃ (c : Nat) (cl : List Int) (oc : List Cr) (vrc : Value) (vro : Value), mx_ = d.crs.length - c ∧ Env 198 [(1, .func (.func 165) #[] #[]), (2, .slice goneA gone.length gonec), (6, .pointer (some ⟨gb1, 0, none⟩)), (7, .pointer (some ⟨gb2, 0, none⟩)), (9, .map (some gm2)), (10, .pointer (some ⟨gb3, 0, none⟩)), (52, .slice cA d.crs.length cc), (53, .int .i64 (d.crs.length : Int)), (54, .int .i64 (c : Int))] ax_ ∧ SH wx_ M X [Rs.row cdCr vro oc, Rs.box gb3 24 [vro, .int .i64 d.loops], Rs.mp (Value.int .i64) Value.bool gm2 ([]), Rs.box gb2 53 [vrc], Rs.row Uv vrc cl, Rs.box gb1 24 [.slice none 0 0, .int .i64 0]] ∧ c ≤ d.crs.length ∧ cl = tCN d (inG gs) (2 * c) ∧ oc = tRN d (inG gs) c) rfl ?_ ?_
   ·intro ax_ hax_
    refine ⟨_, ⟨0, _, _, _, _, rfl, hax_.sub ⟨rfl, rfl, rfl, rfl, rfl, rfl, rfl, rfl, rfl, trivial⟩, S11.pick [0, 1, 2, 3, 4, 5] [_, _, _, _, _, _] (by decide) ⟨rfl, rfl, rfl, rfl, rfl, rfl, trivial⟩, ?hq3f0, ?hq3f1, ?hq3f2⟩⟩
    case hq3f0 => omega
    case hq3f1 => (obtain rfl : i = 2 * d.crs.length + 1 := (by omega); exact hw)
    case hq3f2 => rfl
   ·rintro m3 a2 w11 ⟨c, cl, oc, vrc, vro, rfl, he2, S12, hc, hcl, hoc⟩
    clear S11
    refine U1u he2 (c := Zjc) rfl ?_
    clear he2 a2
    have hll : cl.length = 2 * d.crs.length + 1 := by rw [hcl]; exact tCN_len _ _ _
    have hol : oc.length ≤ c := by rw [hoc]; exact tRN_len _ _ _
    refine U2 Zjd Zje rfl rfl rfl (U1 rfl (wlr 0 rfl (U17 rfl rfl rfl) (U5 rfl (U4 (U2 Zjf Zjg rfl rfl rfl ?_)))))
    refine Ue Zjh Zji rfl rfl rfl rfl (fun hb55 => ?_) (fun hb55 => ?_)
    ·refine Uf rfl (nmk [1, 2, 6, 7, 9, 10, 52, 53, 54] rfl (U4 (U2 Zjj Zjk rfl rfl rfl (Uc Zjl 3 rfl rfl rfl (U2 Zjm Zjn rfl rfl rfl (U1 rfl (mvs 0 1 rfl rfl (wlr 1 rfl (Uj (C := cdCr) c rfl rfl rfl sl22 (by first | rfl | omega) hsc (by first | omega | (simp only [ls]; omega))) ?_))))))))
     refine wlr 2 rfl (U8 (us := [_, _, _, _, _]) rfl rfl uT77 rfl sz77 (hsc.U1x S12.um (e := c) (by first | omega | (simp only [ls]; omega)) (j := 0) ⟨rfl, rfl, rfl, rfl, rfl, trivial⟩)) ?_
     refine wlo 3 4 rfl rfl rfl (Uh (l := [_, _, _, _, _]) rfl rfl rfl zr77 rfl S12 ?_)
     intro gb4 w12 S13; clear S12
     refine mvs 4 1 rfl rfl (wlo 5 6 rfl rfl rfl (U7 (i := 0) (us := [_, _, _, _, _]) (l' := [_, _, _, _, _]) (H' := [_, _, _, _, _, _, _]) rfl rfl S13 rfl rfl rfl rfl sz77 rfl rfl rfl rfl ?_))
     intro w13 S14; clear S13
     refine U5 rfl (nmk [1, 2, 6, 7, 9, 10, 52, 53, 54, 12, 11] rfl (U4 (U2 Zjo Zjp rfl rfl rfl (U2 Zjq Zjr rfl rfl rfl (U1 rfl (mvs 0 2 rfl rfl (wlo 2 3 rfl rfl rfl (U20 rfl rfl rfl rfl rfl rfl rfl cf136 S14 (ContainsI_q gone c (hgone.mono S14.Uw) (hsq) S14.lend) ?_))))))))
     rintro _ w14 S15 rfl; clear S14
     refine wlr 3 rfl (U1j rfl rfl) (U5 rfl (nmk [1, 2, 6, 7, 9, 10, 52, 53, 54, 12, 62] rfl (U4 ?_)))
     refine U19 Zjs Zjt rfl rfl rfl rfl (fun hb62 => ?_) (fun hb62 => ?_)
     ·simp only [Bool.and_eq_true, Bool.or_eq_true, Bool.and_eq_false_iff, Bool.or_eq_false_iff, decide_eq_true_eq, decide_eq_false_iff_not, Bool.not_eq_true', Bool.not_eq_false'] at hb62
      refine U2 Zju Zjv rfl rfl rfl (U1 rfl (wlr 0 rfl (U0 rfl rfl uT24 rfl (ce22) (nf22)) (wlr 1 rfl (U3 rfl rfl uT22 rfl (S15.boxc (i := 2) rfl rfl)) (wlr 2 rfl (U8 (us := [_, _, _, _, _]) rfl rfl uT77 rfl sz77 (S15.boxcs (i := 0) rfl ⟨rfl, rfl, rfl, rfl, rfl, trivial⟩)) (wlo 3 4 rfl rfl rfl (U13 (C := cdCr) (l := [_, _, _, _, _]) rfl rfl rfl rfl sl22 rfl rfl rfl rfl S15 ?_))))))
      intro gb5 w15 S16; clear S15
      refine wlo 4 5 rfl rfl rfl (U1l (C := cdCr) (i := 2) (q := 0) (⟨(ga d.crs c).a, (ga d.crs c).b, (ga d.crs c).c, (ga d.crs c).d, (ga d.crs c).plus⟩ : Cr) rfl rfl rfl rfl rfl rfl rfl rfl sl22 S16 rfl rfl rfl (by show (_ + 1) * 40 ≤ _; first | omega | (simp only [ls]; omega)) ?_)
      intro vro1 w16 S17; clear S16
      have S18 := S17.pick [1, 2, 3, 4, 5, 6, 7] [_, _, _, _, _, _, _] (by decide) ⟨rfl, rfl, rfl, rfl, rfl, rfl, rfl, trivial⟩; clear S17
      refine wlr 5 rfl (U0 rfl rfl uT24 rfl (ce22) (nf22)) (wlo 6 7 rfl rfl rfl (U7 (i := 2) (us := [_]) (l' := [_, _]) (H' := [_, _, _, _, _, _, _]) rfl rfl S18 rfl rfl rfl (S18.cells1 (i := 1) rfl) sz22 rfl (Uy (S18.one (i := 1) rfl) rfl) rfl rfl ?_))
      intro w17 S19; clear S18
      refine U5 rfl (nmk [1, 2, 6, 7, 9, 10, 52, 53, 54] rfl (U4 (U16 rfl rfl (U4 (U1 rfl (wlr 0 rfl (Ug rfl rfl rfl (by first | omega | (simp only [ls]; omega))) ?_))))))
      refine mvs 1 1 rfl rfl (U5 rfl (U15 ?_))
      intro ax_ hax_
      refine ⟨_, ?hq4m, ⟨c + 1, _, _, _, _, rfl, hax_.sub ⟨rfl, rfl, rfl, rfl, rfl, rfl, rfl, rfl, rfl, trivial⟩, S19.pick [1, 2, 3, 4, 5, 6] [_, _, _, _, _, _] (by decide) ⟨rfl, rfl, rfl, rfl, rfl, rfl, trivial⟩, ?hq4f0, ?hq4f1, ?hq4f2⟩⟩
      case hq4f0 => omega
      case hq4f1 => first | (rw [hcl, tCN_skip (by simpa using hb62)]) | (obtain rfl : j = 2 := (by omega); exact hcj)
      case hq4f2 => first | (rw [tRN, if_pos (by simpa using hb62)]; exact hoc) | (rw [tRN, if_neg (by simpa using hb62), hoc])
      case hq4m => omega
     ·simp only [Bool.and_eq_true, Bool.or_eq_true, Bool.and_eq_false_iff, Bool.or_eq_false_iff, decide_eq_true_eq, decide_eq_false_iff_not, Bool.not_eq_true', Bool.not_eq_false'] at hb62
      have hgc : inG gs c = true := by simpa using hb62
      refine Uf rfl (nmk [1, 2, 6, 7, 9, 10, 52, 53, 54, 12] rfl (U4 (U2 Zjw Zjx rfl rfl rfl (U1 rfl (mvs 0 1 rfl rfl (wlr 1 rfl (U8 (us := [_, _, _, _, _]) rfl rfl uT77 rfl sz77 (S15.boxcs (i := 0) rfl ⟨rfl, rfl, rfl, rfl, rfl, trivial⟩)) (wlo 2 3 rfl rfl rfl (U20 rfl rfl rfl rfl rfl rfl rfl cf165 S15 (Through_q (ga d.crs c)  S15.lend) ?_))))))))
      rintro _ w18 S20 rfl; clear S15
      refine mvs 3 1 rfl rfl (U5 rfl (nmk [1, 2, 6, 7, 9, 10, 52, 53, 54, 71, 72] rfl (U4 (Uc Zjy 4 rfl rfl rfl ?_))))
      refine U11 (fun mx_ ax_ wx_ => ∃ (j : Nat) (cj : List Int) (vrj : Value), mx_ = 2 - j ∧ Env 198 [(1, .func (.func 165) #[] #[]), (2, .slice goneA gone.length gonec), (6, .pointer (some ⟨gb1, 0, none⟩)), (7, .pointer (some ⟨gb2, 0, none⟩)), (9, .map (some gm2)), (10, .pointer (some ⟨gb3, 0, none⟩)), (52, .slice cA d.crs.length cc), (53, .int .i64 (d.crs.length : Int)), (54, .int .i64 (c : Int)), (71, .agg [.int .i64 ((ga d.crs c).a), .int .i64 ((ga d.crs c).c), .int .i64 ((abv (ga d.crs c)).1), .int .i64 ((abv (ga d.crs c)).2)].toArray), (72, .int .i64 (j : Int))] ax_ ∧ SH wx_ M X [Rs.row cdCr vro oc, Rs.box gb3 24 [vro, .int .i64 d.loops], Rs.mp (Value.int .i64) Value.bool gm2 ([]), Rs.box gb2 53 [vrj], Rs.row Uv vrj cj, Rs.box gb1 24 [.slice none 0 0, .int .i64 0]] ∧ j ≤ 2 ∧ cj = tCN d (inG gs) (2 * c + j)) rfl ?_ ?_
      ·intro ax_ hax_
       refine ⟨_, ⟨0, _, _, rfl, hax_.sub ⟨rfl, rfl, rfl, rfl, rfl, rfl, rfl, rfl, rfl, rfl, rfl, trivial⟩, S20.pick [1, 2, 3, 4, 5, 6] [_, _, _, _, _, _] (by decide) ⟨rfl, rfl, rfl, rfl, rfl, rfl, trivial⟩, ?hq5f0, ?hq5f1⟩⟩
       case hq5f0 => omega
       case hq5f1 => (rw [hcl]; rfl)
      ·rintro m4 a3 w19 ⟨j, cj, vrj, rfl, he3, S21, hj, hcj⟩
       clear S20
       refine U1u he3 (c := Zjz) rfl ?_
       clear he3 a3
       have hlj : cj.length = 2 * d.crs.length + 1 := by rw [hcj]; exact tCN_len _ _ _
       refine U2 Zk0 Zk1 rfl rfl rfl (U1 rfl (wlr 0 rfl (U17 rfl rfl rfl) (U5 rfl (U4 (U2 Zk2 Zk3 rfl rfl rfl ?_)))))
       refine Ue Zk4 Zk5 rfl rfl rfl rfl (fun hb73 => ?_) (fun hb73 => ?_)
       ·refine Uf rfl (nmk [1, 2, 6, 7, 9, 10, 52, 53, 54, 71, 72] rfl (U4 (U2 Zk6 Zk7 rfl rfl rfl (Uc Zk8 5 rfl rfl rfl (U2 Zk9 Zka rfl rfl rfl (U1 rfl (wlr 0 rfl (run_indexA2 (e := j) rfl rfl rfl uT222 uT128 rfl sz128 (by first | rfl | omega) (by first | omega | (simp only [ls]; omega))) ?_)))))))
        refine U1t 74 (.agg [.int .i64 ((tE1 d (inG gs) (2 * c + j) : Nat) : Int), .int .i64 ((tE2 d (inG gs) (2 * c + j) : Nat) : Int)].toArray) rfl (tie_vals hab (by omega) hgc (by omega)) ?_
        obtain ⟨hb2, hb4, _⟩ := tE_bd hab (inG gs) (i := 2 * c + j) (by omega)
        refine wlo 1 2 rfl rfl rfl (Uh (l := [_, _]) rfl rfl rfl zr128 rfl S21 ?_)
        intro gb6 w20 S22; clear S21
        refine wlo 2 3 rfl rfl rfl (U7 (i := 0) (us := [_, _]) (l' := [_, _]) (H' := [_, _, _, _, _, _, _]) rfl rfl S22 rfl rfl rfl rfl sz128 rfl rfl rfl rfl ?_)
        intro w21 S23; clear S22
        refine U5 rfl (nmk [1, 2, 6, 7, 9, 10, 52, 53, 54, 71, 72, 14] rfl (U4 (U2 Zkb Zkc rfl rfl rfl (Ux rfl (by kernel_rfl) S23 24 rfl ?_))))
        clear S23
        refine wat 0 23 rfl (by kernel_rfl) (fun _ _ _ hz Sz => .inl (U3 rfl rfl uT53 rfl (Sz.suf.boxc (i := 4) rfl rfl))) ?_
        refine wat 1 22 rfl (by kernel_rfl) (fun _ _ _ hz Sz => .inl (U1d (e := 0) (k := 1) rfl rfl rfl uT128 sz3 (by first | rfl | omega) (by first | omega | (simp only [ls]; omega)))) ?_
        refine wat 2 21 rfl (by kernel_rfl) (fun _ _ _ hz Sz => .inl (U3 rfl rfl uT3 rfl (Sz.suf.boxc (i := 0) rfl rfl))) ?_
        refine wat 3 20 rfl (by kernel_rfl) (fun _ _ _ hz Sz => .inl (Ui (C := Uv) (i := 5) (tE1 d (inG gs) (2 * c + j)) rfl rfl rfl sl53 Sz.suf rfl (by first | rfl | omega) (by first | omega | (simp only [ls]; omega)))) ?_
        refine wat 4 19 rfl (by kernel_rfl) (fun _ _ _ hz Sz => .inl (U3 rfl rfl uT3 rfl (Sz.suf.rowc (i := 5) (e := tE1 d (inG gs) (2 * c + j)) (j := 0) rfl (by first | omega | (simp only [ls]; omega)) rfl rfl))) ?_
        refine wat 5 18 rfl (by kernel_rfl) (fun _ _ _ hz Sz => .inl (U3 rfl rfl uT53 rfl (Sz.suf.boxc (i := 4) rfl rfl))) ?_
        refine wat 6 17 rfl (by kernel_rfl) (fun _ _ _ hz Sz => .inl (U1d (e := 1) (k := 1) rfl rfl rfl uT128 sz3 (by first | rfl | omega) (by first | omega | (simp only [ls]; omega)))) ?_
        refine wat 7 16 rfl (by kernel_rfl) (fun _ _ _ hz Sz => .inl (U3 rfl rfl uT3 rfl (Sz.suf.boxc (i := 0) rfl rfl))) ?_
        refine wat 8 15 rfl (by kernel_rfl) (fun _ _ _ hz Sz => .inl (Ui (C := Uv) (i := 5) (tE2 d (inG gs) (2 * c + j)) rfl rfl rfl sl53 Sz.suf rfl (by first | rfl | omega) (by first | omega | (simp only [ls]; omega)))) ?_
        refine wat 9 14 rfl (by kernel_rfl) (fun _ _ _ hz Sz => .inl (U3 rfl rfl uT3 rfl (Sz.suf.rowc (i := 5) (e := tE2 d (inG gs) (2 * c + j)) (j := 0) rfl (by first | omega | (simp only [ls]; omega)) rfl rfl))) ?_
        refine wat 10 13 rfl (by kernel_rfl) (fun _ _ _ hz Sz => .inl (run_max rfl rfl rfl rfl rfl)) ?_
        refine wat 11 12 rfl (by kernel_rfl) (fun _ _ _ hz Sz => .inl (U3 rfl rfl uT53 rfl (Sz.suf.boxc (i := 4) rfl rfl))) ?_
        refine wat 12 11 rfl (by kernel_rfl) (fun _ _ _ hz Sz => .inl (U1d (e := 0) (k := 1) rfl rfl rfl uT128 sz3 (by first | rfl | omega) (by first | omega | (simp only [ls]; omega)))) ?_
        refine wat 13 10 rfl (by kernel_rfl) (fun _ _ _ hz Sz => .inl (U3 rfl rfl uT3 rfl (Sz.suf.boxc (i := 0) rfl rfl))) ?_
        refine wat 14 9 rfl (by kernel_rfl) (fun _ _ _ hz Sz => .inl (Ui (C := Uv) (i := 5) (tE1 d (inG gs) (2 * c + j)) rfl rfl rfl sl53 Sz.suf rfl (by first | rfl | omega) (by first | omega | (simp only [ls]; omega)))) ?_
        refine wat 15 8 rfl (by kernel_rfl) (fun _ _ _ hz Sz => .inl (U3 rfl rfl uT3 rfl (Sz.suf.rowc (i := 5) (e := tE1 d (inG gs) (2 * c + j)) (j := 0) rfl (by first | omega | (simp only [ls]; omega)) rfl rfl))) ?_
        refine wat 16 7 rfl (by kernel_rfl) (fun _ _ _ hz Sz => .inl (U3 rfl rfl uT53 rfl (Sz.suf.boxc (i := 4) rfl rfl))) ?_
        refine wat 17 6 rfl (by kernel_rfl) (fun _ _ _ hz Sz => .inl (U1d (e := 1) (k := 1) rfl rfl rfl uT128 sz3 (by first | rfl | omega) (by first | omega | (simp only [ls]; omega)))) ?_
        refine wat 18 5 rfl (by kernel_rfl) (fun _ _ _ hz Sz => .inl (U3 rfl rfl uT3 rfl (Sz.suf.boxc (i := 0) rfl rfl))) ?_
        refine wat 19 4 rfl (by kernel_rfl) (fun _ _ _ hz Sz => .inl (Ui (C := Uv) (i := 5) (tE2 d (inG gs) (2 * c + j)) rfl rfl rfl sl53 Sz.suf rfl (by first | rfl | omega) (by first | omega | (simp only [ls]; omega)))) ?_
        refine wat 20 3 rfl (by kernel_rfl) (fun _ _ _ hz Sz => .inl (U3 rfl rfl uT3 rfl (Sz.suf.rowc (i := 5) (e := tE2 d (inG gs) (2 * c + j)) (j := 0) rfl (by first | omega | (simp only [ls]; omega)) rfl rfl))) ?_
        refine wat 21 2 rfl (by kernel_rfl) (fun _ _ _ hz Sz => .inl (run_min rfl rfl rfl rfl rfl)) ?_
        refine wap 22 1 rfl (by kernel_rfl) (fun _ => run_assign rfl rfl) ?_
        refine wap 23 0 rfl (by kernel_rfl) (fun _ => run_assign rfl rfl) ?_
        refine Uu (by kernel_rfl) (fun w46 S48 => ?_)
        refine nmk [1, 2, 6, 7, 9, 10, 52, 53, 54, 71, 72, 15, 16] rfl (U4 (U2 Zkd Zke rfl rfl rfl (ws_eq 15 (.int .i64 (frG (tE1 d (inG gs)) (tE2 d (inG gs)) cj (2 * c + j))) rfl (int_eq rfl) (ws_eq 16 (.int .i64 (toG (tE1 d (inG gs)) (tE2 d (inG gs)) cj (2 * c + j))) rfl (int_eq rfl) (U1 rfl (wlr 0 rfl (U3 rfl rfl uT53 rfl (S48.boxc (i := 4) rfl rfl)) (wlr 1 rfl (U38 (C := Uv) (i := 5) rfl rfl rfl rfl rfl rfl sl53 S48 rfl) (U1t 98 (.int .i64 ((2 * d.crs.length + 1 : Nat) : Int)) rfl (int_eq (by rw [hlj])) ?_))))))))
        refine mvs 2 1 rfl rfl (U5 rfl (nmk [1, 2, 6, 7, 9, 10, 52, 53, 54, 71, 72, 15, 16, 98, 99] rfl (U4 (Uc Zkf 6 rfl rfl rfl ?_))))
        refine U11 (fun mx_ ax_ wx_ => ∃ (a : Nat) (cl2 : List Int) (vrc2 : Value), mx_ = 2 * d.crs.length + 1 - a ∧ Env 198 [(1, .func (.func 165) #[] #[]), (2, .slice goneA gone.length gonec), (6, .pointer (some ⟨gb1, 0, none⟩)), (7, .pointer (some ⟨gb2, 0, none⟩)), (9, .map (some gm2)), (10, .pointer (some ⟨gb3, 0, none⟩)), (52, .slice cA d.crs.length cc), (53, .int .i64 (d.crs.length : Int)), (54, .int .i64 (c : Int)), (71, .agg [.int .i64 ((ga d.crs c).a), .int .i64 ((ga d.crs c).c), .int .i64 ((abv (ga d.crs c)).1), .int .i64 ((abv (ga d.crs c)).2)].toArray), (72, .int .i64 (j : Int)), (15, .int .i64 (frG (tE1 d (inG gs)) (tE2 d (inG gs)) cj (2 * c + j))), (16, .int .i64 (toG (tE1 d (inG gs)) (tE2 d (inG gs)) cj (2 * c + j))), (98, .int .i64 ((2 * d.crs.length + 1 : Nat) : Int)), (99, .int .i64 (a : Int))] ax_ ∧ SH wx_ M X [Rs.row cdCr vro oc, Rs.box gb3 24 [vro, .int .i64 d.loops], Rs.mp (Value.int .i64) Value.bool gm2 ([]), Rs.box gb2 53 [vrc2], Rs.row Uv vrc2 cl2, Rs.box gb1 24 [.slice none 0 0, .int .i64 0]] ∧ a ≤ 2 * d.crs.length + 1 ∧ cl2 = relN cj (frG (tE1 d (inG gs)) (tE2 d (inG gs)) cj (2 * c + j)) (toG (tE1 d (inG gs)) (tE2 d (inG gs)) cj (2 * c + j)) a) rfl ?_ ?_
        ·intro ax_ hax_
         refine ⟨_, ⟨0, _, _, rfl, hax_.sub ⟨rfl, rfl, rfl, rfl, rfl, rfl, rfl, rfl, rfl, rfl, rfl, rfl, rfl, rfl, rfl, trivial⟩, S48.pick [1, 2, 3, 4, 5, 6] [_, _, _, _, _, _] (by decide) ⟨rfl, rfl, rfl, rfl, rfl, rfl, trivial⟩, ?hq6f0, ?hq6f1⟩⟩
         case hq6f0 => omega
         case hq6f1 => rfl
        ·rintro m5 a4 w47 ⟨a, cl2, vrc2, rfl, he4, S49, ha, hc2⟩
         clear S48
         refine U1u he4 (c := Zkg) rfl ?_
         clear he4 a4
         have hl2 : cl2.length = 2 * d.crs.length + 1 := by rw [hc2, relN_len, hlj]
         refine U2 Zkh Zki rfl rfl rfl (U1 rfl (wlr 0 rfl (U17 rfl rfl rfl) (U5 rfl (U4 (U2 Zkj Zkk rfl rfl rfl ?_)))))
         refine Ue Zkl Zkm rfl rfl rfl rfl (fun hb100 => ?_) (fun hb100 => ?_)
         ·refine Uf rfl (nmk [1, 2, 6, 7, 9, 10, 52, 53, 54, 71, 72, 15, 16, 98, 99] rfl (U4 (U2 Zkn Zko rfl rfl rfl (Uc Zkp 7 rfl rfl rfl (U2 Zkq Zkr rfl rfl rfl (U1 rfl (mvs 0 2 rfl rfl (U5 rfl ?_))))))))
          refine nmk [1, 2, 6, 7, 9, 10, 52, 53, 54, 71, 72, 15, 16, 98, 99, 17] rfl (U4 (U2 Zks Zkt rfl rfl rfl (U1 rfl (wlr 0 rfl (U3 rfl rfl uT53 rfl (S49.boxc (i := 3) rfl rfl)) (mvs 1 1 rfl rfl (wlr 2 rfl (Ui (C := Uv) (i := 4) a rfl rfl rfl sl53 S49 rfl (by first | rfl | omega) (by first | omega | (simp only [ls]; omega))) ?_))))))
          refine wlr 3 rfl (U3 rfl rfl uT3 rfl (S49.rowc (i := 4) (e := a) (j := 0) rfl (by first | omega | (simp only [ls]; omega)) rfl rfl)) ?_
          refine mvs 4 1 rfl rfl (wlr 5 rfl (Uz rfl rfl rfl) (U5 rfl (nmk [1, 2, 6, 7, 9, 10, 52, 53, 54, 71, 72, 15, 16, 98, 99, 17, 107] rfl (U4 ?_))))
          refine Ue Zku Zkv rfl rfl rfl rfl (fun hb107 => ?_) (fun hb107 => ?_)
          ·refine U1 rfl (wlr 0 rfl (U3 rfl rfl uT53 rfl (S49.boxc (i := 3) rfl rfl)) (mvs 1 2 rfl rfl (wlr 3 rfl (Ui (C := Uv) (i := 4) a rfl rfl rfl sl53 S49 rfl (by first | rfl | omega) (by first | omega | (simp only [ls]; omega))) ?_)))
           refine wlo 4 5 rfl rfl rfl (U1i (C := Uv) (i := 4) (e := a) (j := 0) (us := [_]) (H' := [_, _, _, _, _, _]) (toG (tE1 d (inG gs)) (tE2 d (inG gs)) cj (2 * c + j)) rfl rfl S49 rfl (by first | omega | (simp only [ls]; omega)) rfl rfl rfl sz3 rfl rfl rfl rfl ?_)
           intro w48 S50; clear S49
           refine U5 rfl (U12 (nmk [1, 2, 6, 7, 9, 10, 52, 53, 54, 71, 72, 15, 16, 98, 99] rfl (U4 (U1 rfl (wlr 0 rfl (Ug rfl rfl rfl (by first | omega | (simp only [ls]; omega))) ?_)))))
           refine mvs 1 1 rfl rfl (U5 rfl (U15 ?_))
           intro ax_ hax_
           refine ⟨_, ?hq7m, ⟨a + 1, _, _, rfl, hax_.sub ⟨rfl, rfl, rfl, rfl, rfl, rfl, rfl, rfl, rfl, rfl, rfl, rfl, rfl, rfl, rfl, trivial⟩, S50.pick [0, 1, 2, 3, 4, 5] [_, _, _, _, _, _] (by decide) ⟨rfl, rfl, rfl, rfl, rfl, rfl, trivial⟩, ?hq7f0, ?hq7f1⟩⟩
           case hq7f0 => omega
           case hq7f1 => (rw [relN, ← hc2]; first | rw [if_pos hb107] | rw [if_neg hb107])
           case hq7m => omega
          ·refine Uf rfl (U12 (nmk [1, 2, 6, 7, 9, 10, 52, 53, 54, 71, 72, 15, 16, 98, 99] rfl (U4 (U1 rfl (wlr 0 rfl (Ug rfl rfl rfl (by first | omega | (simp only [ls]; omega))) ?_)))))
           refine mvs 1 1 rfl rfl (U5 rfl (U15 ?_))
           intro ax_ hax_
           refine ⟨_, ?hq8m, ⟨a + 1, _, _, rfl, hax_.sub ⟨rfl, rfl, rfl, rfl, rfl, rfl, rfl, rfl, rfl, rfl, rfl, rfl, rfl, rfl, rfl, trivial⟩, S49.pick [0, 1, 2, 3, 4, 5] [_, _, _, _, _, _] (by decide) ⟨rfl, rfl, rfl, rfl, rfl, rfl, trivial⟩, ?hq8f0, ?hq8f1⟩⟩
           case hq8f0 => omega
           case hq8f1 => (rw [relN, ← hc2]; first | rw [if_pos hb107] | rw [if_neg hb107])
           case hq8m => omega
         ·refine U16 rfl rfl (U12 (nmk [1, 2, 6, 7, 9, 10, 52, 53, 54, 71, 72] rfl (U4 (U1 rfl (wlr 0 rfl (Ug rfl rfl rfl (by first | omega | (simp only [ls]; omega))) ?_)))))
          refine mvs 1 1 rfl rfl (U5 rfl (U15 ?_))
          intro ax_ hax_
          refine ⟨_, ?hq9m, ⟨j + 1, _, _, rfl, hax_.sub ⟨rfl, rfl, rfl, rfl, rfl, rfl, rfl, rfl, rfl, rfl, rfl, trivial⟩, S49.pick [0, 1, 2, 3, 4, 5] [_, _, _, _, _, _] (by decide) ⟨rfl, rfl, rfl, rfl, rfl, rfl, trivial⟩, ?hq9f0, ?hq9f1⟩⟩
          case hq9f0 => omega
          case hq9f1 => (obtain rfl : a = 2 * d.crs.length + 1 := (by omega); rw [hc2, hcj]; rfl)
          case hq9m => omega
       ·refine U16 rfl rfl (U12 (nmk [1, 2, 6, 7, 9, 10, 52, 53, 54] rfl (U4 (U1 rfl (wlr 0 rfl (Ug rfl rfl rfl (by first | omega | (simp only [ls]; omega))) ?_)))))
        refine mvs 1 1 rfl rfl (U5 rfl (U15 ?_))
        intro ax_ hax_
        refine ⟨_, ?hq10m, ⟨c + 1, _, _, _, _, rfl, hax_.sub ⟨rfl, rfl, rfl, rfl, rfl, rfl, rfl, rfl, rfl, trivial⟩, S21.pick [0, 1, 2, 3, 4, 5] [_, _, _, _, _, _] (by decide) ⟨rfl, rfl, rfl, rfl, rfl, rfl, trivial⟩, ?hq10f0, ?hq10f1, ?hq10f2⟩⟩
        case hq10f0 => omega
        case hq10f1 => first | (rw [hcl, tCN_skip (by simpa using hb62)]) | (obtain rfl : j = 2 := (by omega); exact hcj)
        case hq10f2 => first | (rw [tRN, if_pos (by simpa using hb62)]; exact hoc) | (rw [tRN, if_neg (by simpa using hb62), hoc])
        case hq10m => omega
    ·refine U16 rfl rfl (nmk [6, 7, 9, 10] rfl (U4 (U2 Zkw Zkx rfl rfl rfl (U2 Zky Zkz rfl rfl rfl ?_))))
     obtain rfl : c = d.crs.length := by omega
     have hclf : cl = tC d (inG gs) := hcl
     have hocf : oc = tR d (inG gs) := hoc
     refine U1 rfl (wlr 0 rfl (U0 rfl rfl uT24 rfl (ce22) (nf22)) (wlr 1 rfl (U3 rfl rfl uT22 rfl (S12.boxc (i := 1) rfl rfl)) (wlr 2 rfl (U38 (C := cdCr) (i := 0) rfl rfl rfl rfl rfl rfl sl22 S12 rfl) (mvs 3 1 rfl rfl (U5 rfl (nmk [6, 7, 9, 10, 116, 117, 118] rfl (U4 (Uc Zl0 8 rfl rfl rfl ?_))))))))
     refine U11 (fun mx_ ax_ wx_ => ∃ (i4 : Nat) (es : List (Int × Bool)), mx_ = oc.length - i4 ∧ Env 198 [(6, .pointer (some ⟨gb1, 0, none⟩)), (7, .pointer (some ⟨gb2, 0, none⟩)), (9, .map (some gm2)), (10, .pointer (some ⟨gb3, 0, none⟩)), (116, vro), (117, .int .i64 (oc.length : Int)), (118, .int .i64 (i4 : Int))] ax_ ∧ SH wx_ M X [Rs.row cdCr vro oc, Rs.box gb3 24 [vro, .int .i64 d.loops], Rs.mp (Value.int .i64) Value.bool gm2 es, Rs.box gb2 53 [vrc], Rs.row Uv vrc cl, Rs.box gb1 24 [.slice none 0 0, .int .i64 0]] ∧ i4 ≤ oc.length ∧ (∀ x, (mg x es).getD false = lfL cl (oc.take i4) x)) rfl ?_ ?_
     ·intro ax_ hax_
      refine ⟨_, ⟨0, [], rfl, hax_.sub ⟨rfl, rfl, rfl, rfl, rfl, rfl, rfl, trivial⟩, S12.pick [0, 1, 2, 3, 4, 5] [_, _, _, _, _, _] (by decide) ⟨rfl, rfl, rfl, rfl, rfl, rfl, trivial⟩, ?hq11f0, ?hq11f1⟩⟩
      case hq11f0 => omega
      case hq11f1 => (intro x; rfl)
     ·rintro m6 a5 w49 ⟨i4, es, rfl, he5, S51, hi4, hes⟩
      clear S12
      refine U1u he5 (c := Zl1) rfl ?_
      clear he5 a5
      have hrm : i4 < oc.length → ∀ s, s < 4 → 1 ≤ U24 (ga oc i4) s ∧ U24 (ga oc i4) s ≤ 2 * (d.crs.length : Int) := fun h s hs => tR_arc hab (Nat.le_refl _) (v := ga oc i4) (gn := inG gs) (by rw [← show oc = tRN d (inG gs) d.crs.length from hoc]; exact U2m h) hs
      refine U2 Zl2 Zl3 rfl rfl rfl (U1 rfl (wlr 0 rfl (U17 rfl rfl rfl) (U5 rfl (U4 (U2 Zl4 Zl5 rfl rfl rfl ?_)))))
      refine Ue Zl6 Zl7 rfl rfl rfl rfl (fun hb119 => ?_) (fun hb119 => ?_)
      ·refine Uf rfl (nmk [6, 7, 9, 10, 116, 117, 118] rfl (U4 (U2 Zl8 Zl9 rfl rfl rfl (Uc Zla 9 rfl rfl rfl (U2 Zlb Zlc rfl rfl rfl (U1 rfl (wlr 0 rfl (Ui (C := cdCr) (i := 0) i4 rfl rfl rfl sl22 S51 rfl (by first | rfl | omega) (by first | omega | (simp only [ls]; omega))) ?_)))))))
       refine wlr 1 rfl (U8 (us := [_, _, _, _, _]) rfl rfl uT77 rfl sz77 (S51.rowcs (i := 0) (e := i4) (j := 0) rfl (by first | omega | (simp only [ls]; omega)) ⟨rfl, rfl, rfl, rfl, rfl, trivial⟩)) ?_
       refine wlo 2 3 rfl rfl rfl (Uh (l := [_, _, _, _, _]) rfl rfl rfl zr77 rfl S51 ?_)
       intro gb7 w50 S52; clear S51
       refine wlo 3 4 rfl rfl rfl (U7 (i := 0) (us := [_, _, _, _, _]) (l' := [_, _, _, _, _]) (H' := [_, _, _, _, _, _, _]) rfl rfl S52 rfl rfl rfl rfl sz77 rfl rfl rfl rfl ?_)
       intro w51 S53; clear S52
       refine U5 rfl (nmk [6, 7, 9, 10, 116, 117, 118, 19] rfl (U4 (U2 Zld Zle rfl rfl rfl (U1 rfl (mvs 0 1 rfl rfl (U5 rfl (U4 (Uc Zlf 10 rfl rfl rfl ?_))))))))
       refine U11 (fun mx_ ax_ wx_ => ∃ (s5 : Nat) (es5 : List (Int × Bool)), mx_ = 4 - s5 ∧ Env 198 [(6, .pointer (some ⟨gb1, 0, none⟩)), (7, .pointer (some ⟨gb2, 0, none⟩)), (9, .map (some gm2)), (10, .pointer (some ⟨gb3, 0, none⟩)), (116, vro), (117, .int .i64 (oc.length : Int)), (118, .int .i64 (i4 : Int)), (19, .pointer (some ⟨gb7, 0, none⟩)), (122, .int .i64 (s5 : Int))] ax_ ∧ SH wx_ M X [Rs.box gb7 77 [.int .i64 ((ga oc i4).a), .int .i64 ((ga oc i4).b), .int .i64 ((ga oc i4).c), .int .i64 ((ga oc i4).d), .bool ((ga oc i4).plus)], Rs.row cdCr vro oc, Rs.box gb3 24 [vro, .int .i64 d.loops], Rs.mp (Value.int .i64) Value.bool gm2 es5, Rs.box gb2 53 [vrc], Rs.row Uv vrc cl, Rs.box gb1 24 [.slice none 0 0, .int .i64 0]] ∧ s5 ≤ 4 ∧ (∀ x, (mg x es5).getD false = (lfL cl (oc.take i4) x || lf1 cl (ga oc i4) s5 x))) rfl ?_ ?_
       ·intro ax_ hax_
        refine ⟨_, ⟨0, es, rfl, hax_.sub ⟨rfl, rfl, rfl, rfl, rfl, rfl, rfl, rfl, rfl, trivial⟩, S53.pick [0, 1, 2, 3, 4, 5, 6] [_, _, _, _, _, _, _] (by decide) ⟨rfl, rfl, rfl, rfl, rfl, rfl, rfl, trivial⟩, ?hq12f0, ?hq12f1⟩⟩
        case hq12f0 => omega
        case hq12f1 => (intro x; rw [hes, lf1, Bool.or_false])
       ·rintro m7 a6 w52 ⟨s5, es5, rfl, he6, S54, hs5, hes5⟩
        clear S53
        refine U1u he6 (c := Zlg) rfl ?_
        clear he6 a6
        have hr5 := fun h => hrm (by omega) s5 h
        refine U2 Zlh Zli rfl rfl rfl (U1 rfl (wlr 0 rfl (U17 rfl rfl rfl) (U5 rfl (U4 (U2 Zlj Zlk rfl rfl rfl ?_)))))
        refine Ue Zll Zlm rfl rfl rfl rfl (fun hb123 => ?_) (fun hb123 => ?_)
        ·refine Uf rfl (nmk [6, 7, 9, 10, 116, 117, 118, 19, 122] rfl (U4 (U2 Zln Zlo rfl rfl rfl (Uc Zlp 11 rfl rfl rfl (U2 Zlq Zlr rfl rfl rfl (U1 rfl (mvs 0 2 rfl rfl (U5 rfl ?_))))))))
         refine nmk [6, 7, 9, 10, 116, 117, 118, 19, 122, 20] rfl (U4 ?_)
         have hrr := hr5 (by omega)
         refine Ux rfl (by kernel_rfl) S54 8 rfl ?_
         clear S54
         refine wap 0 7 rfl (by kernel_rfl) (fun _ => run_move rfl rfl) ?_
         refine wat 1 6 rfl (by kernel_rfl) (fun _ _ _ hz Sz => .inl (U3 rfl rfl uT53 rfl (Sz.suf.boxc (i := 4) rfl rfl))) ?_
         refine wat 2 5 rfl (by kernel_rfl) (fun _ _ _ hz Sz => .inl (U8 (us := [_, _, _, _, _]) rfl rfl uT77 rfl sz77 (Sz.suf.boxcs (i := 0) rfl ⟨rfl, rfl, rfl, rfl, rfl, trivial⟩))) ?_
         refine wap 3 4 rfl (by kernel_rfl) (fun _ => run_move rfl rfl) ?_
         refine wat 4 3 rfl (by kernel_rfl) (fun _ _ _ hz Sz => Uq rfl rfl rfl rfl rfl cf115 Sz (Arc_q (ga oc i4) s5 (by omega) Sz.lend)) ?_
         refine wat 5 2 rfl (by kernel_rfl) (fun _ _ _ hz Sz => .inl (Ui (C := Uv) (i := 5) ((U24 (ga oc i4) s5).toNat) rfl rfl rfl sl53 Sz.suf rfl (by first | rfl | omega) (by first | omega | (simp only [ls]; omega)))) ?_
         refine wat 6 1 rfl (by kernel_rfl) (fun _ _ _ hz Sz => .inl (U3 rfl rfl uT3 rfl (Sz.suf.rowc (i := 5) (e := (U24 (ga oc i4) s5).toNat) (j := 0) rfl (by first | omega | (simp only [ls]; omega)) rfl rfl))) ?_
         refine Um (i := 7) 0 rfl (by kernel_rfl) rfl rfl (fun w61 S63 => ?_)
         refine (U1s (kc := Value.int .i64) (vc := Value.bool) (es := es5) (k := (ga cl ((U24 (ga oc i4) s5).toNat))) (e := true) (i := 3) (H' := [_, _, _, _, _, _, _]) (.inl rfl) rfl S63 rfl rfl rfl rfl uT180 mk3 rfl ?_)
         intro w62 S64; clear S63
         refine U10.turn (by kernel_rfl) S64 ?_; clear S64
         change WA _ _ _ _ _ _ _ _ _ _ _ _ [_, _, _, _, _, _, _]
         refine Uu (by kernel_rfl) (fun w63 S65 => ?_)
         refine U12 (nmk [6, 7, 9, 10, 116, 117, 118, 19, 122] rfl (U4 (U1 rfl (wlr 0 rfl (Ug rfl rfl rfl (by first | omega | (simp only [ls]; omega))) ?_))))
         refine mvs 1 1 rfl rfl (U5 rfl (U15 ?_))
         intro ax_ hax_
         refine ⟨_, ?hq13m, ⟨s5 + 1, _, rfl, hax_.sub ⟨rfl, rfl, rfl, rfl, rfl, rfl, rfl, rfl, rfl, trivial⟩, S65.pick [0, 1, 2, 3, 4, 5, 6] [_, _, _, _, _, _, _] (by decide) ⟨rfl, rfl, rfl, rfl, rfl, rfl, rfl, trivial⟩, ?hq13f0, ?hq13f1⟩⟩
         case hq13f0 => omega
         case hq13f1 => (intro x; rw [mg_mp, lf1]; by_cases h9 : x = ga cl (U24 (ga oc i4) s5).toNat; (rw [if_pos h9]; simp [h9]); (rw [if_neg h9, hes5]; simp [h9]))
         case hq13m => omega
        ·refine U16 rfl rfl (U12 (nmk [6, 7, 9, 10, 116, 117, 118] rfl (U4 (U1 rfl (wlr 0 rfl (Ug rfl rfl rfl (by first | omega | (simp only [ls]; omega))) ?_)))))
         refine mvs 1 1 rfl rfl (U5 rfl (U15 ?_))
         intro ax_ hax_
         refine ⟨_, ?hq14m, ⟨i4 + 1, _, rfl, hax_.sub ⟨rfl, rfl, rfl, rfl, rfl, rfl, rfl, trivial⟩, S54.pick [1, 2, 3, 4, 5, 6] [_, _, _, _, _, _] (by decide) ⟨rfl, rfl, rfl, rfl, rfl, rfl, trivial⟩, ?hq14f0, ?hq14f1⟩⟩
         case hq14f0 => omega
         case hq14f1 => (intro x; rw [hes5, take_ga oc i4 (by omega), lfL_snoc, show s5 = 4 by omega])
         case hq14m => omega
      ·refine U16 rfl rfl (nmk [6, 7, 9, 10] rfl (U4 (U2 Zls Zlt rfl rfl rfl ?_)))
       obtain rfl : i4 = oc.length := by omega
       have hlf : ∀ x, (mg x es).getD false = lfL cl oc x := fun x => by rw [hes x, List.take_length]
       have hok : ∀ x, x < 2 * d.crs.length + 1 → 0 ≤ ga cl x ∧ ga cl x ≤ x ∧ ga cl (ga cl x).toNat = ga cl x := by rw [hclf]; exact (tCN_ok hab (inG gs) _ (Nat.le_refl _)).2
       refine U1 rfl (wlr 0 rfl (U3 rfl rfl uT53 rfl (S51.boxc (i := 3) rfl rfl)) (wlr 1 rfl (U38 (C := Uv) (i := 4) rfl rfl rfl rfl rfl rfl sl53 S51 rfl) (wlo 2 3 rfl rfl rfl (wo_make (C := Uv) cl.length rfl rfl rfl rfl rfl sl53 (by first | rfl | omega) (by show _ * 8 ≤ _; first | omega | (simp only [ls]; omega)) S51 ?_))))
       intro vr3 w64 S66; clear S51
       refine wlo 3 4 rfl rfl rfl (Uh (l := [_]) rfl rfl rfl zr53 rfl S66 ?_)
       intro gb8 w65 S67; clear S66
       refine wlo 4 5 rfl rfl rfl (U7 (i := 0) (us := [_]) (l' := [_]) (H' := [_, _, _, _, _, _, _, _]) rfl rfl S67 rfl rfl rfl (S67.cells1 (i := 1) rfl) sz53 rfl (Uy (S67.one (i := 1) rfl) rfl) rfl rfl ?_)
       intro w66 S68; clear S67
       refine U5 rfl (nmk [6, 7, 9, 10, 21] rfl (U4 (U2 Zlu Zlv rfl rfl rfl (U1 rfl (mvs 0 1 rfl rfl (U5 rfl (U4 (U2 Zlw Zlx rfl rfl rfl ?_))))))))
       refine U2 Zly Zlz rfl rfl rfl ?_
       have hz0 : d.loops + (cn (loB2 cl oc) (0 + 1) : Int) = d.loops := by rw [show cn (loB2 cl oc) (0 + 1) = 0 from rfl]; omega
       rw [← hz0] at S68
       refine U1 rfl (mvs 0 1 rfl rfl (U5 rfl (U4 (Uc Zm0 12 rfl rfl rfl ?_))))
       refine U11 (fun mx_ ax_ wx_ => ∃ (a6 : Nat) (nu : List Int) (vrn : Value), mx_ = 2 * d.crs.length - a6 ∧ Env 198 [(6, .pointer (some ⟨gb1, 0, none⟩)), (7, .pointer (some ⟨gb2, 0, none⟩)), (9, .map (some gm2)), (10, .pointer (some ⟨gb3, 0, none⟩)), (21, .pointer (some ⟨gb8, 0, none⟩)), (22, .int .i64 (cn (rtB2 cl oc) (a6 + 1) : Int)), (23, .int .i64 ((a6 + 1 : Nat) : Int))] ax_ ∧ SH wx_ M X [Rs.box gb8 53 [vrn], Rs.row Uv vrn nu, Rs.row cdCr vro oc, Rs.box gb3 24 [vro, .int .i64 (d.loops + (cn (loB2 cl oc) (a6 + 1) : Int))], Rs.mp (Value.int .i64) Value.bool gm2 es, Rs.box gb2 53 [vrc], Rs.row Uv vrc cl, Rs.box gb1 24 [.slice none 0 0, .int .i64 0]] ∧ a6 ≤ 2 * d.crs.length ∧ nu.length = 2 * d.crs.length + 1 ∧ (∀ x, x < a6 + 1 → rtB2 cl oc x = true → ga nu x = (cn (rtB2 cl oc) (x + 1) : Int))) rfl ?_ ?_
       ·intro ax_ hax_
        refine ⟨_, ⟨0, _, _, rfl, hax_.sub ⟨rfl, rfl, rfl, rfl, rfl, rfl, rfl, trivial⟩, S68.pick [0, 1, 2, 3, 4, 5, 6, 7] [_, _, _, _, _, _, _, _] (by decide) ⟨rfl, rfl, rfl, rfl, rfl, rfl, rfl, rfl, trivial⟩, ?hq15f0, ?hq15f1, ?hq15f2⟩⟩
        case hq15f0 => omega
        case hq15f1 => (rw [List.length_replicate]; omega)
        case hq15f2 => (intro x hx h9; obtain rfl : x = 0 := (by omega); cases h9)
       ·rintro m8 a7 w67 ⟨a6, nu, vrn, rfl, he7, S69, ha6, hnl, hnu⟩
        clear S68
        refine U1u he7 (c := Zm1) rfl ?_
        clear he7 a7
        have hcn1 := cn_le (rtB2 cl oc) (a6 + 1)
        have hcn2 := cn_le (loB2 cl oc) (a6 + 1)
        have hok6 := fun h => hok (a6 + 1) h
        refine U2 Zm2 Zm3 rfl rfl rfl (U2 Zm4 Zm5 rfl rfl rfl (U1 rfl (mvs 0 1 rfl rfl (wlr 1 rfl (U3 rfl rfl uT53 rfl (S69.boxc (i := 5) rfl rfl)) (wlr 2 rfl (U38 (C := Uv) (i := 6) rfl rfl rfl rfl rfl rfl sl53 S69 rfl) (wlr 3 rfl (U17 rfl rfl rfl) (U5 rfl (nmk [6, 7, 9, 10, 21, 22, 23, 140] rfl ?_))))))))
        refine U4 ?_
        refine Ue Zm6 Zm7 rfl rfl rfl rfl (fun hb140 => ?_) (fun hb140 => ?_)
        ·refine Uf rfl (nmk [6, 7, 9, 10, 21, 22, 23] rfl (U4 (U2 Zm8 Zm9 rfl rfl rfl (Uc Zma 13 rfl rfl rfl (Uc Zmb 14 rfl rfl rfl (U2 Zmc Zmd rfl rfl rfl (U1 rfl (wlr 0 rfl (U3 rfl rfl uT53 rfl (S69.boxc (i := 5) rfl rfl)) ?_))))))))
         refine mvs 1 1 rfl rfl (wlr 2 rfl (Ui (C := Uv) (i := 6) (a6 + 1) rfl rfl rfl sl53 S69 rfl (by first | rfl | omega) (by first | omega | (simp only [ls]; omega))) ?_)
         refine wlr 3 rfl (U3 rfl rfl uT3 rfl (S69.rowc (i := 6) (e := a6 + 1) (j := 0) rfl (by first | omega | (simp only [ls]; omega)) rfl rfl)) ?_
         refine mvs 4 1 rfl rfl (wlr 5 rfl (U2k rfl rfl rfl) (mvs 6 1 rfl rfl (U5 rfl (nmk [6, 7, 9, 10, 21, 22, 23, 147] rfl (U4 ?_)))))
         refine Ue Zme Zmf rfl rfl rfl rfl (fun hb147 => ?_) (fun hb147 => ?_)
         ·have hrt : rtB2 cl oc (a6 + 1) = false := by unfold rtB2; rw [decide_eq_false (show ¬ ga cl (a6 + 1) = ((a6 + 1 : Nat) : Int) from hb147)]; simp
          have hlo : loB2 cl oc (a6 + 1) = false := by unfold loB2; rw [decide_eq_false (show ¬ ga cl (a6 + 1) = ((a6 + 1 : Nat) : Int) from hb147)]; simp
          refine Uf rfl (U12 (U12 (nmk [6, 7, 9, 10, 21, 22, 23] rfl (U4 (ws_eq 22 (.int .i64 (cn (rtB2 cl oc) (a6 + 1 + 1) : Int)) rfl (int_eq (by rw [cn_no hrt])) ?_)))))
          rw [← cn_no hlo] at S69
          refine U1 rfl (mvs 0 1 rfl rfl (wlr 1 rfl (Ug rfl rfl rfl (by first | omega | (simp only [ls]; omega))) ?_))
          refine mvs 2 1 rfl rfl (U5 rfl (U15 ?_))
          intro ax_ hax_
          refine ⟨_, ?hq16m, ⟨a6 + 1, _, _, rfl, hax_.sub ⟨rfl, rfl, rfl, rfl, rfl, rfl, rfl, trivial⟩, S69.pick [0, 1, 2, 3, 4, 5, 6, 7] [_, _, _, _, _, _, _, _] (by decide) ⟨rfl, rfl, rfl, rfl, rfl, rfl, rfl, rfl, trivial⟩, ?hq16f0, ?hq16f1, ?hq16f2⟩⟩
          case hq16f0 => omega
          case hq16f1 => first | assumption | simpa using hnl
          case hq16f2 => first | (intro x hx h9; by_cases e : x = a6 + 1; (subst e; rw [U1y _ _ _ _ (by omega), if_pos rfl]); (rw [U1y _ _ _ _ (by omega), if_neg (fun h => e h.symm)]; exact hnu x (by omega) h9)) | (intro x hx h9; by_cases e : x = a6 + 1; (subst e; rw [hrt] at h9; cases h9); exact hnu x (by omega) h9)
          case hq16m => omega
         ·refine U2 Zmg Zmh rfl rfl rfl (U1 rfl (mvs 0 2 rfl rfl (wlr 2 rfl (U3h (kc := Value.int .i64) (vc := Value.bool) (es := es) (k := ((a6 + 1 : Nat) : Int)) (zv := false) (i := 4) rfl rfl rfl uT180 mk3 zr4 S69 rfl) (mvs 3 1 rfl rfl (U5 rfl (nmk [6, 7, 9, 10, 21, 22, 23, 154] rfl (U4 ?_)))))))
          refine U19 Zmi Zmj rfl rfl rfl rfl (fun hb154 => ?_) (fun hb154 => ?_)
          ·have hlx := hlf ((a6 + 1 : Nat) : Int)
           have hrt : rtB2 cl oc (a6 + 1) = true := by unfold rtB2; rw [decide_eq_true (show ga cl (a6 + 1) = ((a6 + 1 : Nat) : Int) by omega), ← hlx]; simp; exact hb154
           have hlo : loB2 cl oc (a6 + 1) = false := by unfold loB2; rw [← hlx]; simp; intro _; exact hb154
           refine U2 Zmk Zml rfl rfl rfl (U1 rfl (mvs 0 1 rfl rfl (wlr 1 rfl (Ug rfl rfl rfl (by first | omega | (simp only [ls]; omega))) ?_)))
           refine mvs 2 1 rfl rfl (U5 rfl (nmk [6, 7, 9, 10, 21, 22, 23] rfl (U4 (ws_eq 22 (.int .i64 (cn (rtB2 cl oc) (a6 + 1 + 1) : Int)) rfl (int_eq (by rw [cn_yes hrt]; omega)) ?_))))
           refine U1 rfl (wlr 0 rfl (U3 rfl rfl uT53 rfl (S69.boxc (i := 0) rfl rfl)) (mvs 1 2 rfl rfl (wlr 3 rfl (Ui (C := Uv) (i := 1) (a6 + 1) rfl rfl rfl sl53 S69 rfl (by first | rfl | omega) (by first | omega | (simp only [ls]; omega))) ?_)))
           refine wlo 4 5 rfl rfl rfl (U1i (C := Uv) (i := 1) (e := a6 + 1) (j := 0) (us := [_]) (H' := [_, _, _, _, _, _, _, _]) (cn (rtB2 cl oc) (a6 + 1 + 1) : Int) rfl rfl S69 rfl (by first | omega | (simp only [ls]; omega)) rfl rfl rfl sz3 rfl rfl rfl rfl ?_)
           intro w68 S70; clear S69
           refine U5 rfl (U12 (U12 (nmk [6, 7, 9, 10, 21, 22, 23] rfl (U4 ?_))))
           rw [← cn_no hlo] at S70
           refine U1 rfl (mvs 0 1 rfl rfl (wlr 1 rfl (Ug rfl rfl rfl (by first | omega | (simp only [ls]; omega))) ?_))
           refine mvs 2 1 rfl rfl (U5 rfl (U15 ?_))
           intro ax_ hax_
           refine ⟨_, ?hq17m, ⟨a6 + 1, _, _, rfl, hax_.sub ⟨rfl, rfl, rfl, rfl, rfl, rfl, rfl, trivial⟩, S70.pick [0, 1, 2, 3, 4, 5, 6, 7] [_, _, _, _, _, _, _, _] (by decide) ⟨rfl, rfl, rfl, rfl, rfl, rfl, rfl, rfl, trivial⟩, ?hq17f0, ?hq17f1, ?hq17f2⟩⟩
           case hq17f0 => omega
           case hq17f1 => first | assumption | simpa using hnl
           case hq17f2 => first | (intro x hx h9; by_cases e : x = a6 + 1; (subst e; rw [U1y _ _ _ _ (by omega), if_pos rfl]); (rw [U1y _ _ _ _ (by omega), if_neg (fun h => e h.symm)]; exact hnu x (by omega) h9)) | (intro x hx h9; by_cases e : x = a6 + 1; (subst e; rw [hrt] at h9; cases h9); exact hnu x (by omega) h9)
           case hq17m => omega
          ·have hlx := hlf ((a6 + 1 : Nat) : Int)
           have hrt : rtB2 cl oc (a6 + 1) = false := by unfold rtB2; rw [← hlx]; simp; intro _; exact hb154
           have hlo : loB2 cl oc (a6 + 1) = true := by unfold loB2; rw [decide_eq_true (show ga cl (a6 + 1) = ((a6 + 1 : Nat) : Int) by omega), ← hlx]; simp; exact hb154
           refine U1 rfl (wlr 0 rfl (U0 rfl rfl uT24 rfl (ce3) (nf3)) (wlr 1 rfl (U3 rfl rfl uT3 rfl (S69.boxc (i := 3) rfl rfl)) (wlr 2 rfl (Ug rfl rfl rfl (by first | omega | (simp only [ls]; omega))) ?_)))
           refine wlr 3 rfl (U0 rfl rfl uT24 rfl (ce3) (nf3)) (wlo 4 5 rfl rfl rfl (U7 (i := 3) (us := [_]) (l' := [_, _]) (H' := [_, _, _, _, _, _, _, _]) rfl rfl S69 rfl rfl rfl rfl sz3 rfl rfl rfl rfl ?_))
           intro w69 S71; clear S69
           refine U5 rfl (U12 (U12 (nmk [6, 7, 9, 10, 21, 22, 23] rfl (U4 (ws_eq 22 (.int .i64 (cn (rtB2 cl oc) (a6 + 1 + 1) : Int)) rfl (int_eq (by rw [cn_no hrt])) ?_)))))
           rw [cast_add, ← cn_yes hlo] at S71
           refine U1 rfl (mvs 0 1 rfl rfl (wlr 1 rfl (Ug rfl rfl rfl (by first | omega | (simp only [ls]; omega))) ?_))
           refine mvs 2 1 rfl rfl (U5 rfl (U15 ?_))
           intro ax_ hax_
           refine ⟨_, ?hq18m, ⟨a6 + 1, _, _, rfl, hax_.sub ⟨rfl, rfl, rfl, rfl, rfl, rfl, rfl, trivial⟩, S71.pick [0, 1, 2, 3, 4, 5, 6, 7] [_, _, _, _, _, _, _, _] (by decide) ⟨rfl, rfl, rfl, rfl, rfl, rfl, rfl, rfl, trivial⟩, ?hq18f0, ?hq18f1, ?hq18f2⟩⟩
           case hq18f0 => omega
           case hq18f1 => first | assumption | simpa using hnl
           case hq18f2 => first | (intro x hx h9; by_cases e : x = a6 + 1; (subst e; rw [U1y _ _ _ _ (by omega), if_pos rfl]); (rw [U1y _ _ _ _ (by omega), if_neg (fun h => e h.symm)]; exact hnu x (by omega) h9)) | (intro x hx h9; by_cases e : x = a6 + 1; (subst e; rw [hrt] at h9; cases h9); exact hnu x (by omega) h9)
           case hq18m => omega
        ·refine U16 rfl rfl (nmk [6, 7, 10, 21] rfl (U4 (U2 Zmm Zmn rfl rfl rfl ?_)))
         obtain rfl : a6 = 2 * d.crs.length := by omega
         obtain ⟨M33, hle40, S72, ⟨A1, c1, e1, hr1⟩⟩ := S69.pubrow (i := 1) (H' := [_, _, _, _, _, _, _, _]) rfl rfl (by show _ * 8 ≤ _; first | omega | (simp only [ls]; omega))
         clear S69; subst e1
         replace hsb := hsb.mono (Hp.Ua hle40 S72.mx)
         replace hsc := hsc.mono (Hp.Ua hle40 S72.mx)
         replace hsi := hsi.mono (Hp.Ua hle40 S72.mx)
         replace hso := hso.mono (Hp.Ua hle40 S72.mx)
         replace hgone := hgone.mono (Hp.Ua hle40 S72.mx)
         obtain ⟨M34, hle41, S73, ⟨A2, c2, e2, hr2⟩⟩ := S72.pubrow (i := 6) (H' := [_, _, _, _, _, _, _, _]) rfl rfl (by show _ * 8 ≤ _; first | omega | (simp only [ls]; omega))
         clear S72; subst e2
         replace hsb := hsb.mono (Hp.Ua hle41 S73.mx)
         replace hsc := hsc.mono (Hp.Ua hle41 S73.mx)
         replace hsi := hsi.mono (Hp.Ua hle41 S73.mx)
         replace hso := hso.mono (Hp.Ua hle41 S73.mx)
         replace hgone := hgone.mono (Hp.Ua hle41 S73.mx)
         replace hr1 := hr1.mono hle41
         refine U1 rfl (wlr 0 rfl (U2l (vs := [_, _]) rfl rfl rfl rfl) (mvs 1 1 rfl rfl (U5 rfl (nmk [6, 10, 24] rfl (U4 (U2 Zmo Zmp rfl rfl rfl (U2 Zmq Zmr rfl rfl rfl (U1 rfl ?_))))))))
         refine wlr 0 rfl (U0 rfl rfl uT24 rfl (ce22) (nf22)) (wlr 1 rfl (U3 rfl rfl uT22 rfl (S73.boxc (i := 3) rfl rfl)) (wlr 2 rfl (U38 (C := cdCr) (i := 2) rfl rfl rfl rfl rfl rfl sl22 S73 rfl) (mvs 3 1 rfl rfl (U5 rfl (nmk [6, 10, 24, 166, 167, 168] rfl (U4 (Uc Zms 15 rfl rfl rfl ?_)))))))
         refine U11 (fun mx_ ax_ wx_ => ∃ (i7 : Nat) (c7 : List Cr) (vr7 : Value), mx_ = oc.length - i7 ∧ Env 198 [(6, .pointer (some ⟨gb1, 0, none⟩)), (10, .pointer (some ⟨gb3, 0, none⟩)), (24, .func (.func 137) #[] [.pointer (some ⟨gb8, 0, none⟩), .pointer (some ⟨gb2, 0, none⟩)].toArray), (166, vr7), (167, .int .i64 (oc.length : Int)), (168, .int .i64 (i7 : Int))] ax_ ∧ SH wx_ M34 X [Rs.box gb8 53 [.slice A1 nu.length c1], Rs.row cdCr vr7 c7, Rs.box gb3 24 [vr7, .int .i64 (d.loops + (cn (loB2 cl oc) (2 * d.crs.length + 1) : Int))], Rs.box gb2 53 [.slice A2 cl.length c2], Rs.box gb1 24 [.slice none 0 0, .int .i64 0]] ∧ i7 ≤ oc.length ∧ c7 = (oc.take i7).map (nuC cl oc) ++ oc.drop i7) rfl ?_ ?_
         ·intro ax_ hax_
          refine ⟨_, ⟨0, _, _, rfl, hax_.sub ⟨rfl, rfl, rfl, rfl, rfl, rfl, trivial⟩, S73.pick [0, 2, 3, 5, 7] [_, _, _, _, _] (by decide) ⟨rfl, rfl, rfl, rfl, rfl, trivial⟩, ?hq19f0, ?hq19f1⟩⟩
          case hq19f0 => omega
          case hq19f1 => simp
         ·rintro m9 a8 w70 ⟨i7, c7, vr7, rfl, he8, S74, hi7, hc7⟩
          clear S73
          refine U1u he8 (c := Zmt) rfl ?_
          clear he8 a8
          have hc7l : c7.length = oc.length := by rw [hc7]; simp; omega
          refine U2 Zmu Zmv rfl rfl rfl (U1 rfl (wlr 0 rfl (U17 rfl rfl rfl) (U5 rfl (U4 (U2 Zmw Zmx rfl rfl rfl ?_)))))
          refine Ue Zmy Zmz rfl rfl rfl rfl (fun hb169 => ?_) (fun hb169 => ?_)
          ·have hmem7 : ga oc i7 ∈ tR d (inG gs) := by rw [← hocf]; exact U2m (by omega)
           have hx7 := seven_ga hc7 (by omega)
           have hside0 : 1 ≤ (ga oc i7).a ∧ (ga oc i7).a ≤ 2 * (d.crs.length : Int) := tR_arc hab (Nat.le_refl _) hmem7 (s := 0) (by omega)
           obtain ⟨hoo0, hpp0, _⟩ := hok (ga oc i7).a.toNat (by omega)
           have hside1 : 1 ≤ (ga oc i7).b ∧ (ga oc i7).b ≤ 2 * (d.crs.length : Int) := tR_arc hab (Nat.le_refl _) hmem7 (s := 1) (by omega)
           obtain ⟨hoo1, hpp1, _⟩ := hok (ga oc i7).b.toNat (by omega)
           have hside2 : 1 ≤ (ga oc i7).c ∧ (ga oc i7).c ≤ 2 * (d.crs.length : Int) := tR_arc hab (Nat.le_refl _) hmem7 (s := 2) (by omega)
           obtain ⟨hoo2, hpp2, _⟩ := hok (ga oc i7).c.toNat (by omega)
           have hside3 : 1 ≤ (ga oc i7).d ∧ (ga oc i7).d ≤ 2 * (d.crs.length : Int) := tR_arc hab (Nat.le_refl _) hmem7 (s := 3) (by omega)
           obtain ⟨hoo3, hpp3, _⟩ := hok (ga oc i7).d.toNat (by omega)
           have hnv : ∀ s, s < 4 → ga nu (ga cl (U24 (ga oc i7) s).toNat).toNat = nuA cl oc (U24 (ga oc i7) s) := fun s hs => by
            have := tR_nu hab (nu := nu) (by rw [← hclf, ← hocf]; exact hnu) hmem7 hs
            rw [← hclf, ← hocf] at this
            exact this
           refine Uf rfl (nmk [6, 10, 24, 166, 167, 168] rfl (U4 (U2 Zn0 Zn1 rfl rfl rfl (Uc Zn2 16 rfl rfl rfl (U2 Zn3 Zn4 rfl rfl rfl (U1 rfl (mvs 0 1 rfl rfl (wlr 1 rfl (Ui (C := cdCr) (i := 1) i7 rfl rfl rfl sl22 S74 rfl (by first | rfl | omega) (by first | omega | (simp only [ls]; omega))) ?_))))))))
           refine wlr 2 rfl (U8 (us := [_, _, _, _, _]) rfl rfl uT77 rfl sz77 (S74.rowcs (i := 1) (e := i7) (j := 0) rfl (by first | omega | (simp only [ls]; omega)) ⟨rfl, rfl, rfl, rfl, rfl, trivial⟩)) ?_
           refine U1t 172 (.agg [.int .i64 ((ga oc i7).a), .int .i64 ((ga oc i7).b), .int .i64 ((ga oc i7).c), .int .i64 ((ga oc i7).d), .bool ((ga oc i7).plus)].toArray) rfl (by rw [hx7]) ?_
           refine wlo 3 4 rfl rfl rfl (Uh (l := [_, _, _, _, _]) rfl rfl rfl zr77 rfl S74 ?_)
           intro gb9 w71 S75; clear S74
           refine mvs 4 1 rfl rfl (wlo 5 6 rfl rfl rfl (U7 (i := 0) (us := [_, _, _, _, _]) (l' := [_, _, _, _, _]) (H' := [_, _, _, _, _, _]) rfl rfl S75 rfl rfl rfl rfl sz77 rfl rfl rfl rfl ?_))
           intro w72 S76; clear S75
           refine U5 rfl (nmk [6, 10, 24, 166, 167, 168, 26, 25] rfl (U4 (Ux rfl (by kernel_rfl) S76 24 rfl ?_)))
           clear S76
           refine wap 0 23 rfl (by kernel_rfl) (fun _ => U0 rfl rfl uT24 rfl (ce22) (nf22)) ?_
           refine wat 1 22 rfl (by kernel_rfl) (fun _ _ _ hz Sz => .inl (U3 rfl rfl uT22 rfl (Sz.suf.boxc (i := 3) rfl rfl))) ?_
           refine wap 2 21 rfl (by kernel_rfl) (fun _ => run_move rfl rfl) ?_
           refine wap 3 20 rfl (by kernel_rfl) (fun _ => run_move rfl rfl) ?_
           refine wap 4 19 rfl (by kernel_rfl) (fun _ => U0 rfl rfl uT77 rfl (ce3) (nf3)) ?_
           refine wat 5 18 rfl (by kernel_rfl) (fun _ _ _ hz Sz => .inl (U3 rfl rfl uT3 rfl (Sz.suf.boxc (i := 0) rfl rfl))) ?_
           refine wat 6 17 rfl (by kernel_rfl) (fun _ _ _ hz Sz => U39 rfl rfl rfl rfl rfl cf137 Sz (WAtM_q ((ga oc i7).a) nu cl (SH.boxMs (i := 1) Sz rfl) ((hr1.mono hz).mono (Hp.U1p _ _)) (SH.boxMs (i := 4) Sz rfl) ((hr2.mono hz).mono (Hp.U1p _ _)) (by omega) (by omega) Sz.lend)) ?_
           refine wap 7 16 rfl (by kernel_rfl) (fun _ => run_move rfl rfl) ?_
           refine wap 8 15 rfl (by kernel_rfl) (fun _ => U0 rfl rfl uT77 rfl (ce3) (nf3)) ?_
           refine wat 9 14 rfl (by kernel_rfl) (fun _ _ _ hz Sz => .inl (U3 rfl rfl uT3 rfl (Sz.suf.boxc (i := 0) rfl rfl))) ?_
           refine wat 10 13 rfl (by kernel_rfl) (fun _ _ _ hz Sz => U39 rfl rfl rfl rfl rfl cf137 Sz (WAtM_q ((ga oc i7).b) nu cl (SH.boxMs (i := 1) Sz rfl) ((hr1.mono hz).mono (Hp.U1p _ _)) (SH.boxMs (i := 4) Sz rfl) ((hr2.mono hz).mono (Hp.U1p _ _)) (by omega) (by omega) Sz.lend)) ?_
           refine wap 11 12 rfl (by kernel_rfl) (fun _ => run_move rfl rfl) ?_
           refine wap 12 11 rfl (by kernel_rfl) (fun _ => U0 rfl rfl uT77 rfl (ce3) (nf3)) ?_
           refine wat 13 10 rfl (by kernel_rfl) (fun _ _ _ hz Sz => .inl (U3 rfl rfl uT3 rfl (Sz.suf.boxc (i := 0) rfl rfl))) ?_
           refine wat 14 9 rfl (by kernel_rfl) (fun _ _ _ hz Sz => U39 rfl rfl rfl rfl rfl cf137 Sz (WAtM_q ((ga oc i7).c) nu cl (SH.boxMs (i := 1) Sz rfl) ((hr1.mono hz).mono (Hp.U1p _ _)) (SH.boxMs (i := 4) Sz rfl) ((hr2.mono hz).mono (Hp.U1p _ _)) (by omega) (by omega) Sz.lend)) ?_
           refine wap 15 8 rfl (by kernel_rfl) (fun _ => run_move rfl rfl) ?_
           refine wap 16 7 rfl (by kernel_rfl) (fun _ => U0 rfl rfl uT77 rfl (ce3) (nf3)) ?_
           refine wat 17 6 rfl (by kernel_rfl) (fun _ _ _ hz Sz => .inl (U3 rfl rfl uT3 rfl (Sz.suf.boxc (i := 0) rfl rfl))) ?_
           refine wat 18 5 rfl (by kernel_rfl) (fun _ _ _ hz Sz => U39 rfl rfl rfl rfl rfl cf137 Sz (WAtM_q ((ga oc i7).d) nu cl (SH.boxMs (i := 1) Sz rfl) ((hr1.mono hz).mono (Hp.U1p _ _)) (SH.boxMs (i := 4) Sz rfl) ((hr2.mono hz).mono (Hp.U1p _ _)) (by omega) (by omega) Sz.lend)) ?_
           refine wap 19 4 rfl (by kernel_rfl) (fun _ => U0 rfl rfl uT77 rfl (ce4) (nf4)) ?_
           refine wat 20 3 rfl (by kernel_rfl) (fun _ _ _ hz Sz => .inl (U3 rfl rfl uT4 rfl (Sz.suf.boxc (i := 0) rfl rfl))) ?_
           refine wat 21 2 rfl (by kernel_rfl) (fun _ _ _ hz Sz => .inl (run_build (l := [_, _, _, _, _]) rfl rfl st77 rfl rfl)) ?_
           refine wat 22 1 rfl (by kernel_rfl) (fun _ _ _ hz Sz => .inl (Ui (C := cdCr) (i := 2) i7 rfl rfl rfl sl22 Sz.suf rfl (by first | rfl | omega) (by first | omega | (simp only [ls]; omega)))) ?_
           refine Um (i := 23) 0 rfl (by kernel_rfl) rfl rfl (fun w97 S101 => ?_)
           refine (U1i (C := cdCr) (i := 2) (e := i7) (j := 0) (us := [_, _, _, _, _]) (H' := [_, _, _, _, _, _]) (⟨ga nu (ga cl ((ga oc i7).a).toNat).toNat, ga nu (ga cl ((ga oc i7).b).toNat).toNat, ga nu (ga cl ((ga oc i7).c).toNat).toNat, ga nu (ga cl ((ga oc i7).d).toNat).toNat, (ga oc i7).plus⟩ : Cr) rfl rfl S101 rfl (by first | omega | (simp only [ls]; omega)) rfl rfl rfl sz77 rfl rfl rfl rfl ?_)
           intro w98 S102; clear S101
           refine U10.turn (by kernel_rfl) S102 ?_; clear S102
           change WA _ _ _ _ _ _ _ _ _ _ _ _ [_, _, _, _, _, _]
           refine Uu (by kernel_rfl) (fun w99 S103 => ?_)
           refine U12 (nmk [6, 10, 24, 166, 167, 168] rfl (U4 (U1 rfl (wlr 0 rfl (Ug rfl rfl rfl (by first | omega | (simp only [ls]; omega))) ?_))))
           refine mvs 1 1 rfl rfl (U5 rfl (U15 ?_))
           intro ax_ hax_
           refine ⟨_, ?hq20m, ⟨i7 + 1, _, _, rfl, hax_.sub ⟨rfl, rfl, rfl, rfl, rfl, rfl, trivial⟩, S103.pick [1, 2, 3, 4, 5] [_, _, _, _, _] (by decide) ⟨rfl, rfl, rfl, rfl, rfl, trivial⟩, ?hq20f0, ?hq20f1⟩⟩
           case hq20f0 => omega
           case hq20f1 => (refine seven hc7 (by omega) ?_; show (⟨ga nu (ga cl (U24 (ga oc i7) 0).toNat).toNat, ga nu (ga cl (U24 (ga oc i7) 1).toNat).toNat, ga nu (ga cl (U24 (ga oc i7) 2).toNat).toNat, ga nu (ga cl (U24 (ga oc i7) 3).toNat).toNat, (ga oc i7).plus⟩ : Cr) = _; rw [hnv 0 (by omega), hnv 1 (by omega), hnv 2 (by omega), hnv 3 (by omega)]; rfl)
           case hq20m => omega
          ·refine U16 rfl rfl (nmk [6, 10] rfl (U4 (U2 Zn5 Zn6 rfl rfl rfl (U1 rfl (wlr 0 rfl (U8 (us := [_, _]) rfl rfl uT24 rfl sz24 (S74.boxcs (i := 2) rfl ⟨rfl, rfl, trivial⟩)) (wlo 1 2 rfl rfl rfl (U7 (i := 4) (us := [_, _]) (l' := [_, _]) (H' := [_, _, _, _, _]) rfl rfl S74 rfl rfl rfl rfl sz24 rfl (Uy (S74.one (i := 1) rfl) (Uy rfl rfl)) rfl rfl ?_)))))))
           intro w100 S104; clear S74
           refine U5 rfl (nmk [6] rfl (U4 ?_))
           obtain ⟨M59, hle67, S105, ⟨A3, c3, e3, hr3⟩⟩ := S104.pubrow (i := 1) (H' := [_, _, _, _, _]) rfl rfl (by show _ * 40 ≤ _; first | omega | (simp only [ls]; omega))
           clear S104; subst e3
           replace hsb := hsb.mono (Hp.Ua hle67 S105.mx)
           replace hsc := hsc.mono (Hp.Ua hle67 S105.mx)
           replace hsi := hsi.mono (Hp.Ua hle67 S105.mx)
           replace hso := hso.mono (Hp.Ua hle67 S105.mx)
           replace hgone := hgone.mono (Hp.Ua hle67 S105.mx)
           replace hr1 := hr1.mono hle67
           replace hr2 := hr2.mono hle67
           refine Uk hC [_] rfl rfl ⟨⟨_, rfl, Up (us := [_, _]) uT24 rfl sz24 (S105.boxcs (i := 4) rfl ⟨rfl, rfl, trivial⟩)⟩, trivial⟩ ?_
           refine ⟨_, rfl, _, (hle40.trans hle41).trans hle67, (S105.pick [] [] (by decide) trivial), ?_⟩
           obtain rfl : i7 = oc.length := by omega
           have e9 : (tkD d (inG gs)).crs = c7 := by rw [hc7, List.take_length, List.drop_length, List.append_nil, hclf, hocf]; rfl
           have e8 : (tkD d (inG gs)).loops = d.loops + (cn (loB2 cl oc) (2 * d.crs.length + 1) : Int) := by rw [hclf, hocf]; rfl
           rw [e9, e8]
           exact ⟨_, _, rfl, hr3⟩
end Go.Proofs.YthppkofceancjaaGreat
namespace Go.Proofs.YthppkofceancjaaGreat
open Go.ChangeShapes Go.WideShapes Go.ChangeAt Go.RowKit
namespace InF
def C0 : Go.Proofs.YthppkofceancjaaGreat.Ctx := ⟨default, fun _ _ => False⟩
section
variable {P : Program} {n : Nat} {C : InF.Ctx} {c : Code} {s : List K} {L : List (Nat × Value)} {w : World} {M Mb : Hp} {X : Fr} {H Hb : List Rs} {l : Array Bool} {f : Nat}
def sk (P : Program) (C : InF.Ctx) (s : List K) : List K := [.lp fun a w => InF.post P C s .normal a w]
theorem sk_panic {ch : List PanicEntry} {a : Act} {w : World} (h : Go.Proofs.YthppkofceancjaaGreat.post P C0 (sk P C s) (.panic ch) a w) : False := h.2
theorem sk_out (h : LetsOut (Go.Proofs.YthppkofceancjaaGreat.post P C0 (sk P C s))) : False := by
  obtain ⟨a, w, h⟩ := h
  exact h
theorem oper_in0 {o : Oper} {a : Act} {w : World} {next : Act → World → Prop} (hnd : ∀ c, o.op ≠ .defer c) (h : o.wp P a w next (Go.Proofs.YthppkofceancjaaGreat.post P C0 (sk P C s))) : o.wpIn C.F 0 P a w next (InF.post P C s) := by
  refine ⟨fun f _ => C.F_fn f, ?_⟩
  rw [Oper.semAt_eq _ _ _ hnd]
  unfold Oper.wp at h
  generalize (execOp a.eval o).run P w = r at h
  cases r with
  | ok nx w' =>
    cases nx with
    | value v => exact h
    | skip => exact h
    | defer d => exact h
    | enter f args =>
      refine ⟨C.U40, callsF C (Calls.mono h ?_)⟩
      rintro e w2 hh
      cases e with
      | returned v => exact hh
      | panicked chain => exact (sk_panic hh).elim
      | outgrown => exact (sk_out hh).elim
    | row row args => exact ⟨C.U40, rowsF C h⟩
    | _ => exact h.elim
  | halt x w' =>
    cases x with
    | panic v => exact (sk_panic h).elim
    | _ => exact h.elim
theorem wpOp_in0 {ops : Array Oper} {j : Nat} {K : Act → World → Prop} {a : Act} {w : World} (hnd : ops.toList.all ndOp = true) (h : wpOp P ops (Go.Proofs.YthppkofceancjaaGreat.post P C0 (sk P C s)) j K a w) : wpOpIn C.F 0 P ops (InF.post P C s) j K a w := by
  unfold wpOp at h
  unfold wpOpIn
  cases ho : ops[j]? with
  | none => simp only [ho] at h ⊢; exact h
  | some o =>
    simp only [ho] at h ⊢
    split
    · rename_i hw
      simp only [hw, if_true] at h
      rcases h with h | ⟨_, h⟩
      · refine oper_in0 (ndOp_spec ?_) h
        obtain ⟨hj, e⟩ := Array.getElem?_eq_some_iff.1 ho
        exact List.all_eq_true.1 hnd o (by rw [← e]; exact Array.getElem_mem_toList hj)
      · exact (sk_out h).elim
    · rename_i hw
      simp only [hw] at h
      exact ⟨fun f _ => C.F_fn f, h⟩
theorem anyIn {ops : Array Oper} {md : Region.Mode} (hnd : ops.toList.all ndOp = true) : ∀ (f : Nat) (l : Array Bool) (a : Act) (Mb : Hp) (Hb : List Rs) (M : Hp) (H : List Rs) (w : World), SH w M X H → Down md ops l → AnyM P md ops (Go.Proofs.YthppkofceancjaaGreat.post P C0 (sk P C s)) X f l a Mb Hb M H → wpAnyIn C.F 0 P md ops (InF.post P C s) f l a w := by
  intro f
  induction f with
  | zero => intro l a Mb Hb M H w S _ h; exact h w S
  | succ f ih =>
    intro l a Mb Hb M H w S hd h
    obtain ⟨h0, h1⟩ := h w S hd
    refine ⟨h0, fun j hj => wpOpIn_mono (fun a2 w2 hc => ?_) (wpOp_in0 hnd (h1 j hj))⟩
    obtain ⟨M2, H2, S2, ⟨_, hc⟩ | ⟨_, hc⟩⟩ := hc
    · exact ih _ _ _ _ _ _ _ S2 (down_set hd hj) hc
    · exact ih _ _ _ _ _ _ _ S2 (down_set hd hj) hc
theorem Ux (hk : kind c = 8) (hm : P.follows .mixedOrders = true) (S : SH w M X H) (f : Nat) (hf : (rg c).size = f) (h : WA P n C0 c (sk P C s) X f (Array.replicate f false) L M H M H) (hnd : (rg c).toList.all ndOp = true := by rfl) : InF.WS P n C c s L w := by
  intro a ha
  rw [kind_draw hk]
  refine wpIn_region_any hm ?_
  rw [hf]
  exact anyIn hnd _ _ _ _ _ _ _ _ (S.kp ⟨rfl, rfl, rfl, Nat.le_refl _⟩ fun _ _ => rfl) (down_start _) (h (Grown.refl _ _) a ha)
theorem U29 (N Hb : List Rs) (hk : kind c = 8) (hm : P.follows .mixedOrders = true) (S : SH w M X (N ++ Hb)) (f : Nat) (hf : (rg c).size = f) (h : WA P n C0 c (sk P C s) X f (Array.replicate f false) L M Hb M (N ++ Hb)) (hnd : (rg c).toList.all ndOp = true := by rfl) : InF.WS P n C c s L w := by
  intro a ha
  rw [kind_draw hk]
  refine wpIn_region_any hm ?_
  rw [hf]
  exact anyIn hnd _ _ _ _ _ _ _ _ (S.kp ⟨rfl, rfl, rfl, Nat.le_refl _⟩ fun _ _ => rfl) (down_start _) (h ⟨Hp.le_refl _, N, rfl⟩ a ha)
theorem Uu (hr : Region.ready .any (rg c) l = []) (h : ∀ w, SH w M X H → InF.NM P n C s L w) : WA P n C0 c (sk P C s) X f l L Mb Hb M H :=
  Go.Proofs.YthppkofceancjaaGreat.Uu hr fun w S a ha => h w S a ha
end
end InF
theorem wa_eq {P : Program} {n : Nat} {C : Ctx} {c : Code} {s : List K} {X : Fr} {f : Nat} {l : Array Bool} {L : List (Nat × Value)} {M Mb : Hp} {H Hb : List Rs} (t : Nat) {v : Value} (v' : Value) (hl : lk L t = some v) (e : v = v') (h : WA P n C c s X f l ((t, v') :: L) Mb Hb M H) : WA P n C c s X f l L Mb Hb M H := by
  subst e
  exact fun hg a ha => h hg a ⟨ha.sz, ha.df, fun u x hx => by
    rw [lk_cons] at hx
    split at hx
    · rename_i e; subst e; injection hx with hx; subst hx; exact ha.at_ _ _ hl
    · exact ha.at_ _ _ hx⟩
end Go.Proofs.YthppkofceancjaaGreat
