/- Part 5 of the proof of the law PolyReads: the walks through its functions and the plain laws that they need. -/
import Derived.Test.YtklcecpjgingpaaDoorPrZ4
set_option linter.unusedSimpArgs false
set_option linter.unusedVariables false
namespace Go.Proofs.YtklcecpjgingpaaDoor
open Go.ChangeShapes Go.WideShapes Go.ChangeAt Go.RowKit
def whA (s : List UInt8) : Nat → Nat → Nat → Nat × Nat
 | 0, i, n => (n, i)
 | f + 1, i, n => if i < s.length ∧ 48 ≤ (ga s i).toNat ∧ (ga s i).toNat ≤ 57 then whA s f (i + 1) (10 * n + ((ga s i).toNat - 48)) else (n, i)
def wh (s : List UInt8) (k : Nat) : Nat × Nat := whA s 7 k 0
theorem whA_bd (s : List UInt8) : ∀ f i n, i ≤ (whA s f i n).2 ∧ (whA s f i n).2 ≤ i + f ∧ (whA s f i n).1 < (n + 1) * 10 ^ f ∧ ((whA s f i n).2 ≤ s.length ∨ (whA s f i n).2 = i) := by
 intro f
 induction f with
 | zero => intro i n; exact ⟨Nat.le_refl _, Nat.le_refl _, by show n < (n + 1) * 1; omega, .inr rfl⟩
 | succ f ih =>
  intro i n
  unfold whA
  split
  ·rename_i h
   obtain ⟨h1, h2, h3, h4⟩ := ih (i + 1) (10 * n + ((ga s i).toNat - 48))
   refine ⟨by omega, by omega, Nat.lt_of_lt_of_le h3 ?_, .inl (by omega)⟩
   rw [Nat.pow_succ, Nat.mul_comm (10 ^ f) 10, ← Nat.mul_assoc]
   exact Nat.mul_le_mul_right _ (by omega)
  ·refine ⟨Nat.le_refl _, by omega, ?_, .inr rfl⟩
   have : 0 < 10 ^ (f + 1) := Nat.pow_pos (by decide)
   show n < (n + 1) * 10 ^ (f + 1)
   exact Nat.lt_of_lt_of_le (Nat.lt_succ_self n) (Nat.le_mul_of_pos_right _ (by omega))
theorem ga_mid {α : Type} [Inhabited α] (p : List α) (c : α) (r : List α) : ga (p ++ c :: r) p.length = c := by
 have := ga_appR p (c :: r) 0
 rw [Nat.add_zero] at this
 rw [this]; rfl
/-- What ends a number: nothing, or no digit. -/
def noD (r : List UInt8) : Prop := r = [] ∨ ∃ c q, r = c :: q ∧ (c.toNat < 48 ∨ 57 < c.toNat)
theorem whA_dig {d r : List UInt8} (hr : noD r) : ∀ (f : Nat) (p : List UInt8) (n : Nat), allD d → d.length ≤ f → whA (p ++ d ++ r) f p.length n = (valD n d, p.length + d.length) := by
 induction d with
 | nil =>
  intro f p n _ _
  rw [List.append_nil]
  cases f with
  | zero => rfl
  | succ f =>
   unfold whA
   rcases hr with rfl | ⟨c, q, rfl, hc⟩
   ·rw [if_neg (by rw [List.append_nil]; omega)]; rfl
   ·rw [if_neg (by rw [ga_mid]; omega)]; rfl
 | cons c d ih =>
  intro f p n hd hl
  cases f with
  | zero => simp at hl
  | succ f =>
   have hc := hd c (List.mem_cons_self ..)
   have e : p ++ (c :: d) ++ r = p ++ c :: (d ++ r) := by simp
   unfold whA
   rw [e, ga_mid, if_pos ⟨by rw [List.length_append, List.length_cons]; omega, hc⟩]
   have e2 : p ++ c :: (d ++ r) = (p ++ [c]) ++ d ++ r := by simp
   have h3 := ih f (p ++ [c]) (10 * n + (c.toNat - 48)) (fun x hx => hd x (List.mem_cons_of_mem _ hx)) (by simp at hl; omega)
   rw [e2, show p.length + 1 = (p ++ [c]).length by simp, h3]
   show (valD (10 * n + (c.toNat - 48)) d, (p ++ [c]).length + d.length) = (valD n (c :: d), p.length + (c :: d).length)
   simp only [List.length_append, List.length_cons, List.length_nil]
   congr 1
   omega
theorem wh_dec {m : Nat} (hm : m < 10000000) {r : List UInt8} (hr : noD r) (p : List UInt8) : wh (p ++ Lib.decDigits m ++ r) p.length = (m, p.length + (Lib.decDigits m).length) := by
 unfold wh
 rw [whA_dig hr 7 p 0 (dec_dig m) (dec7 hm), dec_val]
theorem wh_none {r : List UInt8} (hr : noD r) (p : List UInt8) : wh (p ++ r) p.length = (0, p.length) := by
 have := whA_dig hr 7 p 0 (d := []) (fun c hc => by simp at hc) (by simp)
 rw [List.append_nil] at this
 exact this
def isC (s : List UInt8) (k : Nat) (c : UInt8) : Prop := k < s.length ∧ ga s k = c
instance (s : List UInt8) (k : Nat) (c : UInt8) : Decidable (isC s k c) := by unfold isC; infer_instance
theorem isC_hit (p : List UInt8) (c : UInt8) (r : List UInt8) : isC (p ++ c :: r) p.length c := ⟨by rw [List.length_append, List.length_cons]; omega, ga_mid _ _ _⟩
theorem isC_no {p r : List UInt8} {c : UInt8} (h : r = [] ∨ ∃ d q, r = d :: q ∧ d ≠ c) : ¬ isC (p ++ r) p.length c := by
 rintro ⟨h1, h2⟩
 rcases h with rfl | ⟨d, q, rfl, hd⟩
 ·rw [List.append_nil] at h1; omega
 ·rw [ga_mid] at h2; exact hd h2
/-- The sign and where the term's body begins. -/
def sgR (s : List UInt8) (k : Nat) : Option (Int × Nat) :=
 if k = 0 then (if ga s 0 = 45 then some (-1, 1) else some (1, 0))
 else if s.length < k + 3 ∨ ga s k ≠ 32 ∨ (ga s (k + 1) ≠ 43 ∧ ga s (k + 1) ≠ 45) ∨ ga s (k + 2) ≠ 32 then none
 else some (if ga s (k + 1) = 45 then -1 else 1, k + 3)
def stR (s : List UInt8) (i : Nat) : Nat := if isC s i 42 then i + 1 else i
def negK (s : List UInt8) (j : Nat) : Nat := if isC s j 45 then j + 1 else j
def negE (s : List UInt8) (j : Nat) (e : Nat) : Int := if isC s j 45 then -(e : Int) else e
/-- The exponent, and where it ends. -/
def exR (s : List UInt8) (j : Nat) : Int × Nat :=
 if isC s j 116 then (if isC s (j + 1) 94 then (negE s (j + 2) (wh s (negK s (j + 2))).1, (wh s (negK s (j + 2))).2) else (1, j + 1)) else (0, j)
def coR (s : List UInt8) (k : Nat) : Int := if (wh s k).2 = k then 1 else ((wh s k).1 : Int)
/-- One term, its sign being read; and where it ends. -/
def bdR (s : List UInt8) (sg : Int) (k : Nat) : Option (Tm × Nat) :=
 if (exR s (stR s (wh s k).2)).2 = k then none else some (⟨(exR s (stR s (wh s k).2)).1, sg * coR s k⟩, (exR s (stR s (wh s k).2)).2)
def stepR (s : List UInt8) (k : Nat) : Option (Tm × Nat) := match sgR s k with
 | none => none
 | some q => bdR s q.1 q.2
def runR (s : List UInt8) : Nat → Nat → List Tm → Option (List Tm)
 | 0, k, l => if k < s.length then none else some l
 | f + 1, k, l => if k < s.length then (match stepR s k with
  | none => none
  | some q => runR s f q.2 (l ++ [q.1])) else some l
/-- What a term's text is read as. -/
theorem exR_pow {e : Int} (he : -1000 ≤ e ∧ e ≤ 1000) (h0 : e ≠ 0) {r : List UInt8} (hr : noD r) (h94 : r = [] ∨ ∃ d q, r = d :: q ∧ d ≠ 94) (p : List UInt8) : exR (p ++ powT e ++ r) p.length = (e, p.length + (powT e).length) := by
 unfold powT
 by_cases h1 : e = 1
 ·rw [if_pos h1]
  have e1 : p ++ [116] ++ r = p ++ 116 :: r := by simp
  have e2 : p ++ [116] ++ r = (p ++ [116]) ++ r := rfl
  have h2 := isC_no (p := p ++ [116]) h94
  rw [show (p ++ [(116 : UInt8)]).length = p.length + 1 by simp] at h2
  unfold exR
  rw [if_pos (by rw [e1]; exact isC_hit _ _ _), if_neg h2, h1]
  rfl
 ·rw [if_neg h1]
  have e1 : p ++ ([116, 94] ++ Lib.itoa e) ++ r = p ++ 116 :: 94 :: (Lib.itoa e ++ r) := by simp
  have e2 : p ++ ([116, 94] ++ Lib.itoa e) ++ r = (p ++ [116]) ++ 94 :: (Lib.itoa e ++ r) := by simp
  have h94' := isC_hit (p ++ [116]) 94 (Lib.itoa e ++ r)
  rw [show (p ++ [(116 : UInt8)]).length = p.length + 1 by simp, ← e2] at h94'
  unfold exR
  rw [if_pos (by rw [e1]; exact isC_hit _ _ _), if_pos h94']
  by_cases hn : e < 0
  ·have e3 : p ++ ([116, 94] ++ Lib.itoa e) ++ r = (p ++ [116, 94]) ++ 45 :: (Lib.decDigits e.natAbs ++ r) := by rw [itoa_neg hn]; simp
   have e4 : p ++ ([116, 94] ++ Lib.itoa e) ++ r = (p ++ [116, 94, 45]) ++ Lib.decDigits e.natAbs ++ r := by rw [itoa_neg hn]; simp
   have h45 := isC_hit (p ++ [116, 94]) 45 (Lib.decDigits e.natAbs ++ r)
   rw [show (p ++ [(116 : UInt8), 94]).length = p.length + 2 by simp, ← e3] at h45
   have hw := wh_dec (m := e.natAbs) (by omega) hr (p ++ [116, 94, 45])
   rw [show (p ++ [(116 : UInt8), 94, 45]).length = p.length + 2 + 1 by simp, ← e4] at hw
   unfold negK negE
   rw [if_pos h45, if_pos h45, hw, itoa_neg hn]
   simp only [List.length_append, List.length_cons, List.length_nil, Prod.mk.injEq]
   exact ⟨by omega, by omega⟩
  ·obtain ⟨c, q, hc, hc1, hc2⟩ := dec_head e.toNat
   have e3 : p ++ ([116, 94] ++ Lib.itoa e) ++ r = (p ++ [116, 94]) ++ Lib.decDigits e.toNat ++ r := by rw [itoa_pos (by omega)]; simp
   have e4 : (p ++ [116, 94]) ++ Lib.decDigits e.toNat ++ r = (p ++ [116, 94]) ++ (Lib.decDigits e.toNat ++ r) := by simp
   have h45 := isC_no (p := p ++ [116, 94]) (r := Lib.decDigits e.toNat ++ r) (c := 45) (.inr ⟨c, q ++ r, by rw [hc]; rfl, fun e5 => by rw [e5] at hc1; revert hc1; decide⟩)
   rw [← e4, show (p ++ [(116 : UInt8), 94]).length = p.length + 2 by simp, ← e3] at h45
   have hw := wh_dec (m := e.toNat) (by omega) hr (p ++ [116, 94])
   rw [show (p ++ [(116 : UInt8), 94]).length = p.length + 2 by simp, ← e3] at hw
   unfold negK negE
   rw [if_neg h45, if_neg h45, hw, itoa_pos (by omega)]
   simp only [List.length_append, List.length_cons, List.length_nil, Prod.mk.injEq]
   exact ⟨by omega, by omega⟩
/-- What stands behind a term: nothing, or a space. -/
def nxS (r : List UInt8) : Prop := r = [] ∨ ∃ q, r = 32 :: q
theorem nxS.noD {r : List UInt8} (h : nxS r) : noD r := by
 rcases h with h | ⟨q, h⟩
 ·exact .inl h
 ·exact .inr ⟨32, q, h, by decide⟩
theorem nxS.ne {r : List UInt8} (h : nxS r) {c : UInt8} (hc : c ≠ 32) : r = [] ∨ ∃ d q, r = d :: q ∧ d ≠ c := by
 rcases h with h | ⟨q, h⟩
 ·exact .inl h
 ·exact .inr ⟨32, q, h, fun e => hc e.symm⟩
theorem bdR_body {t : Tm} (he : -1000 ≤ t.e ∧ t.e ≤ 1000) (hc : -1000000 ≤ t.c ∧ t.c ≤ 1000000) (hz : t.c ≠ 0) {r : List UInt8} (hr : nxS r) (p : List UInt8) :
  bdR (p ++ bodyT t ++ r) (if t.c < 0 then -1 else 1) p.length = some (t, p.length + (bodyT t).length) := by
 have hsg : (if t.c < 0 then (-1 : Int) else 1) * max t.c (-t.c) = t.c := by split <;> omega
 have hmx : ((max t.c (-t.c)).toNat : Int) = max t.c (-t.c) := by omega
 by_cases h0 : t.e = 0
 ·rw [bodyT_0 h0]
  have hw := wh_dec (m := (max t.c (-t.c)).toNat) (by omega) hr.noD p
  have hl : 1 ≤ (Lib.decDigits (max t.c (-t.c)).toNat).length := List.length_pos_iff.2 (dec_ne _)
  change wh (p ++ numT t ++ r) p.length = _ at hw
  have h42 := isC_no (p := p ++ numT t) (hr.ne (c := 42) (by decide))
  have h116 := isC_no (p := p ++ numT t) (hr.ne (c := 116) (by decide))
  have e1 : (p ++ numT t).length = p.length + (Lib.decDigits (max t.c (-t.c)).toNat).length := by rw [List.length_append]; rfl
  rw [e1] at h42 h116
  unfold bdR coR
  rw [hw]
  unfold stR
  rw [if_neg h42]
  unfold exR
  rw [if_neg h116]
  generalize hL : (Lib.decDigits (max t.c (-t.c)).toNat).length = L9 at *
  show (if p.length + L9 = p.length then none else some ((⟨0, (if t.c < 0 then -1 else 1) * (if p.length + L9 = p.length then 1 else ((max t.c (-t.c)).toNat : Int))⟩ : Tm), p.length + L9)) = _
  rw [if_neg (show ¬ p.length + L9 = p.length by omega), if_neg (show ¬ p.length + L9 = p.length by omega), hmx, hsg, ← h0, ← hL]
  rfl
 ·by_cases h1 : max t.c (-t.c) = 1
  ·rw [bodyT_1 h0 h1]
   have hp : ∃ q, powT t.e = 116 :: q := by unfold powT; split <;> exact ⟨_, rfl⟩
   obtain ⟨q, hq⟩ := hp
   have hw := wh_none (r := powT t.e ++ r) (.inr ⟨116, q ++ r, by rw [hq]; rfl, by decide⟩) p
   rw [← List.append_assoc] at hw
   have h42 := isC_no (p := p) (r := powT t.e ++ r) (c := 42) (.inr ⟨116, q ++ r, by rw [hq]; rfl, by decide⟩)
   rw [← List.append_assoc] at h42
   have hx := exR_pow he h0 hr.noD (hr.ne (c := 94) (by decide)) p
   unfold bdR coR
   rw [hw]
   unfold stR
   rw [if_neg h42, hx, if_neg (by rw [hq]; simp), if_pos rfl]
   rw [h1] at hsg
   show some (Tm.mk t.e ((if t.c < 0 then -1 else 1) * 1), _) = _
   rw [hsg]
  ·rw [bodyT_2 h0 h1]
   have hp : ∃ q, powT t.e = 116 :: q := by unfold powT; split <;> exact ⟨_, rfl⟩
   have hl : 1 ≤ (Lib.decDigits (max t.c (-t.c)).toNat).length := List.length_pos_iff.2 (dec_ne _)
   have e1 : p ++ (numT t ++ [42] ++ powT t.e) ++ r = p ++ numT t ++ (42 :: (powT t.e ++ r)) := by simp
   have e2 : p ++ (numT t ++ [42] ++ powT t.e) ++ r = (p ++ numT t ++ [42]) ++ powT t.e ++ r := by simp
   have e3 : (p ++ numT t).length = p.length + (Lib.decDigits (max t.c (-t.c)).toNat).length := by rw [List.length_append]; rfl
   have hw := wh_dec (m := (max t.c (-t.c)).toNat) (by omega) (r := 42 :: (powT t.e ++ r)) (.inr ⟨42, _, rfl, by decide⟩) p
   change wh (p ++ numT t ++ (42 :: (powT t.e ++ r))) p.length = _ at hw
   have h42 := isC_hit (p ++ numT t) 42 (powT t.e ++ r)
   rw [e3] at h42
   have hx := exR_pow he h0 hr.noD (hr.ne (c := 94) (by decide)) (p ++ numT t ++ [42])
   have e4 : (p ++ numT t ++ [42]).length = p.length + (Lib.decDigits (max t.c (-t.c)).toNat).length + 1 := by rw [List.length_append, e3]; rfl
   rw [e4, ← e2, e1] at hx
   rw [e1]
   unfold bdR coR
   rw [hw]
   unfold stR
   rw [if_pos h42, hx]
   have : (numT t).length = (Lib.decDigits (max t.c (-t.c)).toNat).length := rfl
   generalize hL : (Lib.decDigits (max t.c (-t.c)).toNat).length = L9 at *
   show (if p.length + L9 + 1 + (powT t.e).length = p.length then none else some ((⟨t.e, (if t.c < 0 then -1 else 1) * (if p.length + L9 = p.length then 1 else ((max t.c (-t.c)).toNat : Int))⟩ : Tm), p.length + L9 + 1 + (powT t.e).length)) = _
   rw [if_neg (show ¬ p.length + L9 + 1 + (powT t.e).length = p.length by omega), if_neg (show ¬ p.length + L9 = p.length by omega), hmx, hsg]
   simp only [List.length_append, List.length_cons, List.length_nil, this, Option.some.injEq, Prod.mk.injEq, true_and]
   omega
/-- What stands of a text behind some terms. -/
def rsT (a : List Tm) : Nat → Nat → List UInt8
 | 0, _ => []
 | m + 1, i => sgT i (ga a i) ++ bodyT (ga a i) ++ rsT a m (i + 1)
theorem pol_rsT (a : List Tm) : ∀ m i, polT a (i + m) = polT a i ++ rsT a m i
 | 0, i => by rw [rsT, List.append_nil]; rfl
 | m + 1, i => by
  rw [show i + (m + 1) = (i + 1) + m by omega, pol_rsT a m (i + 1), polT, rsT]
  simp
theorem rsT_nx (a : List Tm) (m i : Nat) (hi : 1 ≤ i) : nxS (rsT a m i) := by
 cases m with
 | zero => exact .inl rfl
 | succ m =>
  refine .inr ?_
  unfold rsT sgT
  rw [if_neg (by omega)]
  split <;> exact ⟨_, rfl⟩
theorem sgT_lenN {i : Nat} (hi : i ≠ 0) (t : Tm) : (sgT i t).length = 3 := by unfold sgT; rw [if_neg hi]; split <;> rfl
theorem ga_app2 {α : Type} [Inhabited α] (p q : List α) (j : Nat) {c : α} (h : ga q j = c) : ga (p ++ q) (p.length + j) = c := by rw [ga_appR, h]
theorem step_text {a : List Tm} (hok : ∀ i, i < a.length → okT a i) {i m : Nat} (hl : a.length = i + m + 1) : stepR (polT a a.length) (polT a i).length = some (ga a i, (polT a (i + 1)).length) := by
 obtain ⟨he, hc, hz, _⟩ := hok i (by omega)
 have e0 : polT a a.length = polT a i ++ (sgT i (ga a i) ++ (bodyT (ga a i) ++ rsT a m (i + 1))) := by
  rw [show a.length = i + (m + 1) by omega, pol_rsT, rsT]; simp
 have e1 : polT a a.length = (polT a i ++ sgT i (ga a i)) ++ bodyT (ga a i) ++ rsT a m (i + 1) := by rw [e0]; simp
 have hb := bdR_body he hc hz (rsT_nx a m (i + 1) (by omega)) (polT a i ++ sgT i (ga a i))
 rw [← e1] at hb
 have hle : (polT a i ++ sgT i (ga a i)).length + (bodyT (ga a i)).length = (polT a (i + 1)).length := by
  rw [polT, List.length_append, List.length_append, List.length_append]
 rw [hle] at hb
 have hs : sgR (polT a a.length) (polT a i).length = some (if (ga a i).c < 0 then -1 else 1, (polT a i ++ sgT i (ga a i)).length) := by
  by_cases h0 : i = 0
  ·subst h0
   unfold sgR
   rw [if_pos (show (polT a 0).length = 0 from rfl)]
   by_cases hn : (ga a 0).c < 0
   ·have : ga (polT a a.length) 0 = 45 := by rw [e0, sgT_00 rfl hn]; rfl
    rw [if_pos this, if_pos hn, sgT_00 rfl hn]; rfl
   ·have : ga (polT a a.length) 0 ≠ 45 := by
     rw [e0, sgT_01 rfl hn]
     obtain ⟨c, r, e, h⟩ := bodyT_head (ga a 0)
     rw [e]; exact h
    rw [if_neg this, if_neg hn, sgT_01 rfl hn]; rfl
  ·have hp : (polT a i).length ≠ 0 := by
    obtain ⟨j, rfl⟩ : ∃ j, i = j + 1 := ⟨i - 1, by omega⟩
    obtain ⟨c, r, e, _⟩ := bodyT_head (ga a j)
    rw [polT, List.length_append, e, List.length_cons]; omega
   unfold sgR
   rw [if_neg hp]
   have hlen : (polT a i).length + 3 ≤ (polT a a.length).length := by
    rw [e0, List.length_append, List.length_append, sgT_lenN h0]; omega
   by_cases hn : (ga a i).c < 0
   ·rw [sgT_10 h0 hn] at e0
    have g0 : ga (polT a a.length) (polT a i).length = 32 := by rw [e0]; exact ga_app2 _ _ 0 rfl
    have g1 : ga (polT a a.length) ((polT a i).length + 1) = 45 := by rw [e0]; exact ga_app2 _ _ 1 rfl
    have g2 : ga (polT a a.length) ((polT a i).length + 2) = 32 := by rw [e0]; exact ga_app2 _ _ 2 rfl
    rw [g0, g1, g2, if_neg (by simp; omega), if_pos rfl, if_pos hn, List.length_append, sgT_lenN h0]
   ·rw [sgT_11 h0 hn] at e0
    have g0 : ga (polT a a.length) (polT a i).length = 32 := by rw [e0]; exact ga_app2 _ _ 0 rfl
    have g1 : ga (polT a a.length) ((polT a i).length + 1) = 43 := by rw [e0]; exact ga_app2 _ _ 1 rfl
    have g2 : ga (polT a a.length) ((polT a i).length + 2) = 32 := by rw [e0]; exact ga_app2 _ _ 2 rfl
    rw [g0, g1, g2, if_neg (by simp; omega), if_neg (by decide), if_neg hn, List.length_append, sgT_lenN h0]
 unfold stepR
 rw [hs]
 exact hb
theorem run_text {a : List Tm} (hok : ∀ i, i < a.length → okT a i) : ∀ (m i f : Nat), a.length = i + m → m ≤ f → runR (polT a a.length) f (polT a i).length (a.take i) = some a := by
 intro m
 induction m with
 | zero =>
  intro i f hi _
  have h1 : ¬ (polT a i).length < (polT a a.length).length := by rw [hi, Nat.add_zero]; omega
  have h2 : a.take i = a := List.take_of_length_le (by omega)
  cases f with
  | zero => unfold runR; rw [if_neg h1, h2]
  | succ f => unfold runR; rw [if_neg h1, h2]
 | succ m ih =>
  intro i f hi hf
  obtain ⟨g, rfl⟩ : ∃ g, f = g + 1 := ⟨f - 1, by omega⟩
  have h1 : (polT a i).length < (polT a a.length).length := by
   obtain ⟨c, r, e, _⟩ := bodyT_head (ga a i)
   rw [hi, pol_rsT, rsT, e]
   simp only [List.length_append, List.length_cons]; omega
  unfold runR
  rw [if_pos h1, step_text hok hi]
  show runR _ g (polT a (i + 1)).length (a.take i ++ [ga a i]) = some a
  rw [← take_ga a i (by omega)]
  exact ih (i + 1) g (by omega) (by omega)
theorem polT_ge (a : List Tm) : ∀ i, i ≤ (polT a i).length
 | 0 => Nat.zero_le _
 | i + 1 => by
  obtain ⟨c, r, e, _⟩ := bodyT_head (ga a i)
  have := polT_ge a i
  rw [polT, List.length_append, List.length_append, e, List.length_cons]; omega
theorem ref_text {a : List Tm} (hm : mayT a = true) (h0 : a ≠ []) : runR (texT a) (texT a).length 0 [] = some a := by
 obtain ⟨_, hok⟩ := mayT_may hm
 have hp := List.length_pos_iff.2 h0
 have ht : texT a = polT a a.length := by unfold texT; rw [if_neg (by omega)]
 rw [ht]
 exact run_text hok a.length 0 _ (by omega) (polT_ge a a.length)
/-- What is handed out at last. -/
def endR (s : List UInt8) (l : List Tm) : List Tm × Int := if mayT l = true ∧ texT l = s then (l, 0) else ([], 1)
def refR (s : List UInt8) : List Tm × Int := match runR s s.length 0 [] with
 | none => ([], 1)
 | some l => endR s l
theorem read_same {s : List UInt8} (h : s ≠ [48]) : endR s (progR s) = refR s := by
 have ne : ∀ l, texT l = s → l ≠ [] := fun l hl e => h (by rw [← hl, e]; rfl)
 unfold refR
 by_cases h1 : mayT (progR s) = true ∧ texT (progR s) = s
 ·have h2 := ref_text h1.1 (ne _ h1.2)
  rw [h1.2] at h2
  rw [h2]
 ·unfold endR
  rw [if_neg h1]
  cases hr : runR s s.length 0 [] with
  | none => rfl
  | some l =>
   show _ = (if mayT l = true ∧ texT l = s then _ else _)
   by_cases h3 : mayT l = true ∧ texT l = s
   ·have h4 := prog_text h3.1 (ne _ h3.2)
    rw [h3.2] at h4
    rw [h4] at h1
    exact absurd h3 h1
   ·rw [if_neg h3]
end Go.Proofs.YtklcecpjgingpaaDoor
namespace Go.Proofs.YtklcecpjgingpaaDoor
open Go.ChangeShapes Go.WideShapes Go.ChangeAt Go.RowKit
theorem split_spw (s : List UInt8) : Lib.split s [32] = spw s := split_spl _ _ (Nat.le_refl _)
theorem cut_len (s p : List UInt8) : (Lib.cut s p).1.length ≤ s.length ∧ (Lib.cut s p).2.1.length ≤ s.length := by
 unfold Lib.cut
 split
 ·exact ⟨by rw [List.length_take]; omega, by rw [List.length_drop]; omega⟩
 ·exact ⟨Nat.le_refl _, Nat.zero_le _⟩
theorem spw_len : ∀ (l : List UInt8), ∀ x ∈ spw l, x.length ≤ l.length
 | [], x, h => by simp [spw] at h; rw [h]; exact Nat.le_refl _
 | c :: l, x, h => by
  have ih := spw_len l
  unfold spw at h
  split at h
  ·rcases List.mem_cons.1 h with h | h
   ·rw [h]; exact Nat.zero_le _
   ·have := ih x h; rw [List.length_cons]; omega
  ·cases e : spw l with
   | nil => exact absurd e (spw_ne l)
   | cons w ws =>
    rw [e] at h ih
    rcases List.mem_cons.1 h with h | h
    ·have := ih w (List.mem_cons_self ..); rw [h, List.length_cons, List.length_cons]; omega
    ·have := ih x (List.mem_cons_of_mem _ h); rw [List.length_cons]; omega
theorem spw_gal (l : List UInt8) {i : Nat} (h : i < (spw l).length) : (ga (spw l) i).length ≤ l.length := spw_len l _ (ga_mem h)
theorem rst_len (s : List UInt8) : (rst s).length ≤ s.length := by unfold rst; split <;> simp
def cpx (s p : List UInt8) : List UInt8 := if p.isPrefixOf s = true then s.drop p.length else s
theorem cpx_len (s p : List UInt8) : (cpx s p).length ≤ s.length := by unfold cpx; split <;> simp
theorem pre_len : ∀ {p s : List UInt8}, p.isPrefixOf s = true → p.length ≤ s.length
 | [], s, _ => Nat.zero_le _
 | c :: p, [], h => by simp [List.isPrefixOf] at h
 | c :: p, d :: s, h => by
  simp only [List.isPrefixOf, Bool.and_eq_true] at h
  have := pre_len h.2
  simp only [List.length_cons]; omega
theorem whA_stop {s : List UInt8} {f i n : Nat} (h : ¬ (i < s.length ∧ 48 ≤ (ga s i).toNat ∧ (ga s i).toNat ≤ 57)) : whA s f i n = (n, i) := by
 cases f with
 | zero => rfl
 | succ f => unfold whA; rw [if_neg h]
theorem whA_go {s : List UInt8} {f i n : Nat} (hf : 1 ≤ f) (h : i < s.length ∧ 48 ≤ (ga s i).toNat ∧ (ga s i).toNat ≤ 57) : whA s f i n = whA s (f - 1) (i + 1) (10 * n + ((ga s i).toNat - 48)) := by
 obtain ⟨g, rfl⟩ : ∃ g, f = g + 1 := ⟨f - 1, by omega⟩
 conv => lhs; unfold whA
 rw [if_pos h]; rfl
theorem pow_step {n f d : Nat} (hf : 1 ≤ f) (hd : d ≤ 9) (h : (n + 1) * 10 ^ f ≤ 10000000) : (10 * n + d + 1) * 10 ^ (f - 1) ≤ 10000000 := by
 obtain ⟨g, rfl⟩ : ∃ g, f = g + 1 := ⟨f - 1, by omega⟩
 rw [Nat.pow_succ, Nat.mul_comm (10 ^ g) 10, ← Nat.mul_assoc] at h
 exact Nat.le_trans (Nat.mul_le_mul_right _ (by omega)) h
theorem pow_lt {n f : Nat} (h : (n + 1) * 10 ^ f ≤ 10000000) : n < 10000000 := by
 have : 0 < 10 ^ f := Nat.pow_pos (by decide)
 have := Nat.le_mul_of_pos_right (n + 1) this
 omega
theorem wh_bd {s : List UInt8} {k : Nat} (hk : k ≤ s.length) : k ≤ (wh s k).2 ∧ (wh s k).2 ≤ s.length ∧ (wh s k).1 < 10000000 := by
 have := whA_bd s 7 k 0
 unfold wh
 omega
theorem sgmul {a c : Int} (h : a = 1 ∨ a = -1) (hc : 0 ≤ c ∧ c < 10000000) : -10000000 < a * c ∧ a * c < 10000000 := by rcases h with rfl | rfl <;> omega
theorem bdR_some {s : List UInt8} {sg e c : Int} {k q j : Nat} (h1 : stR s (wh s k).2 = q) (h2 : exR s q = (e, j)) (h3 : coR s k = c) (h4 : j ≠ k) : bdR s sg k = some (⟨e, sg * c⟩, j) := by
 unfold bdR; rw [h1, h2, h3, if_neg h4]
theorem bdR_none {s : List UInt8} {sg e : Int} {k q j : Nat} (h1 : stR s (wh s k).2 = q) (h2 : exR s q = (e, j)) (h4 : j = k) : bdR s sg k = none := by
 unfold bdR; rw [h1, h2, if_pos h4]
theorem step_of {s : List UInt8} {sg : Int} {k k1 : Nat} (h : sgR s k = some (sg, k1)) : stepR s k = bdR s sg k1 := by unfold stepR; rw [h]
theorem step_no {s : List UInt8} {k : Nat} (h : sgR s k = none) : stepR s k = none := by unfold stepR; rw [h]
theorem runR_go {s : List UInt8} {f k j : Nat} {l : List Tm} {t : Tm} (hk : k < s.length) (hf : s.length ≤ k + f) (h : stepR s k = some (t, j)) : runR s f k l = runR s (f - 1) j (l ++ [t]) := by
 obtain ⟨g, rfl⟩ : ∃ g, f = g + 1 := ⟨f - 1, by omega⟩
 conv => lhs; unfold runR
 rw [if_pos hk, h]; rfl
theorem runR_no {s : List UInt8} {f k : Nat} {l : List Tm} (hk : k < s.length) (hf : s.length ≤ k + f) (h : stepR s k = none) : runR s f k l = none := by
 obtain ⟨g, rfl⟩ : ∃ g, f = g + 1 := ⟨f - 1, by omega⟩
 unfold runR; rw [if_pos hk, h]
theorem runR_end {s : List UInt8} {f k : Nat} {l : List Tm} (hk : ¬ k < s.length) : runR s f k l = some l := by
 cases f <;> (unfold runR; rw [if_neg hk])
def pieceR (s : List UInt8) (x : List Tm × Int) : List Tm × Int := if 2000 < s.length then ([], 2) else if s = [48] then ([], 0) else x
def TE (p : List Tm × Int) (u : Value) (N : Hp) : Prop := ∃ A c, u = .tuple [.slice A p.1.length c, .int .i64 p.2].toArray ∧ RdA cdTm N A c p.1
theorem TE.of {p q : List Tm × Int} {u : Value} {N : Hp} (h : TE p u N) (e : q = p) : TE q u N := by rw [e]; exact h
theorem read_all (s : List UInt8) : pieceR s (endR s (progR s)) = pieceR s (refR s) := by
 unfold pieceR
 by_cases h : s = [48]
 ·rw [if_pos h, if_pos h]
 ·rw [if_neg h, if_neg h, read_same h]
noncomputable def cpxl_n0 : Code := Tryd.f48.body.getD .skip
noncomputable def cpxl_n1 : Code := cL cpxl_n0
noncomputable def cpxl_n2 : Code := cR cpxl_n0
noncomputable def cpxl_n3 : Code := cL cpxl_n2
noncomputable def cpxl_n4 : Code := cR cpxl_n2
noncomputable def cpxl_n5 : Code := cL cpxl_n3
noncomputable def cpxl_n6 : Code := cR cpxl_n3
noncomputable def cpxl_n7 : Code := cL cpxl_n6
noncomputable def cpxl_n8 : Code := cR cpxl_n6
noncomputable def cpxl_n9 : Code := cL cpxl_n7
noncomputable def cpxl_n10 : Code := cR cpxl_n7
noncomputable def cpxl_n11 : Code := cL cpxl_n4
noncomputable def cpxl_n12 : Code := cR cpxl_n4
set_option maxRecDepth 10000 in
theorem cpxl_q {w : World} {M : Hp} {X : Fr} (s : List UInt8) (p : List UInt8) (S : SH w M X []) : Cq Tryd.prog 48 [.string (sB s), .string (sB p)] w M X (fun u => u = .tuple [.string (sB (cpx s p)), .bool (p.isPrefixOf s)].toArray) := by
 unfold Cq
 refine calls_in (b := cpxl_n0) Tryd.func48 rfl Tryd.ntmps48 rfl (fun C hC => ?_)
 refine ws_sub [(0, _), (1, _)] ⟨rfl, rfl, trivial⟩ ?_
 refine ws_seqN cpxl_n1 cpxl_n2 rfl rfl rfl ?_
 refine ws_region rfl ?_
 refine wla 0 1 rfl rfl rfl rfl rfl rfl rfl ?_
 refine wla 1 2 rfl rfl rfl rfl rfl rfl rfl ?_
 refine wl_end rfl ?_
 refine nm_sub [(0, _), (1, _)] ⟨rfl, rfl, trivial⟩ ?_
 refine nm_thn ?_
 refine ws_seqN cpxl_n3 cpxl_n4 rfl rfl rfl ?_
 refine ws_seqN cpxl_n5 cpxl_n6 rfl rfl rfl ?_
 refine ws_region rfl ?_
 refine wlm 0 1 rfl rfl rfl rfl rfl rfl rfl ?_
 refine wlm 1 2 rfl rfl rfl rfl rfl rfl rfl ?_
 refine wlo 2 3 rfl rfl rfl (wo_cq rfl rfl rfl rfl rfl rfl rfl cf26 S (hasPl_q s p S.lend) ?_)
 rintro _ w1 S1 rfl; clear S
 refine wlo 3 4 rfl rfl rfl (wo_run rfl rfl (run_not rfl rfl) ?_)
 refine wl_end rfl ?_
 refine nm_sub [(0, _), (1, _), (9, _)] ⟨rfl, rfl, rfl, trivial⟩ ?_
 refine nm_thn ?_
 refine ws_condN cpxl_n7 cpxl_n8 rfl rfl rfl rfl (fun hb9 => ?_) (fun hb9 => ?_)
 ·simp only [Bool.and_eq_true, Bool.or_eq_true, Bool.and_eq_false_iff, Bool.or_eq_false_iff, decide_eq_true_eq, decide_eq_false_iff_not, Bool.not_eq_true', Bool.not_eq_false'] at hb9
  refine ws_seqN cpxl_n9 cpxl_n10 rfl rfl rfl ?_
  refine ws_region rfl ?_
  refine wlm 0 1 rfl rfl rfl rfl rfl rfl rfl ?_
  refine wla 1 2 rfl rfl rfl rfl rfl rfl rfl ?_
  refine wla 2 3 rfl rfl rfl rfl rfl rfl rfl ?_
  refine wl_end rfl ?_
  refine nm_sub [(4, _), (5, _)] ⟨rfl, rfl, trivial⟩ ?_
  refine nm_thn ?_
  refine ws_ret hC [_, _] rfl rfl ⟨rfl, rfl, trivial⟩ ?_
  exact ⟨_, rfl, (S1.pick [] [] (by decide) trivial), (by show _ = Value.tuple _; unfold cpx; rw [hb9]; rfl)⟩
 ·simp only [Bool.and_eq_true, Bool.or_eq_true, Bool.and_eq_false_iff, Bool.or_eq_false_iff, decide_eq_true_eq, decide_eq_false_iff_not, Bool.not_eq_true', Bool.not_eq_false'] at hb9
  have hpl := pre_len hb9
  refine ws_skip rfl ?_
  refine nm_sub [(0, _), (1, _)] ⟨rfl, rfl, trivial⟩ ?_
  refine nm_thn ?_
  refine ws_seqN cpxl_n11 cpxl_n12 rfl rfl rfl ?_
  refine ws_region rfl ?_
  refine wlm 0 1 rfl rfl rfl rfl rfl rfl rfl ?_
  refine wlm 1 2 rfl rfl rfl rfl rfl rfl rfl ?_
  refine wlo 2 3 rfl rfl rfl (wo_run rfl rfl (run_lenS rfl rfl rfl rfl rfl rfl Tryd.underlying9) ?_)
  refine wlo 3 4 rfl rfl rfl (wo_run rfl rfl (run_dropS p.length rfl rfl rfl Tryd.underlying9 ((by first | omega | (simp only [lens]; omega)))) ?_)
  refine wla 4 5 rfl rfl rfl rfl rfl rfl rfl ?_
  refine wla 5 6 rfl rfl rfl rfl rfl rfl rfl ?_
  refine wl_end rfl ?_
  refine nm_sub [(4, _), (5, _)] ⟨rfl, rfl, trivial⟩ ?_
  refine nm_thn ?_
  refine ws_ret hC [_, _] rfl rfl ⟨rfl, rfl, trivial⟩ ?_
  exact ⟨_, rfl, (S1.pick [] [] (by decide) trivial), (by show _ = Value.tuple _; unfold cpx; rw [hb9]; rfl)⟩
noncomputable def cpx_n0 : Code := Tryd.f30.body.getD .skip
noncomputable def cpx_n1 : Code := cL cpx_n0
noncomputable def cpx_n2 : Code := cR cpx_n0
noncomputable def cpx_n3 : Code := cL cpx_n2
noncomputable def cpx_n4 : Code := cR cpx_n2
set_option maxRecDepth 10000 in
theorem cpx_q {w : World} {M : Hp} {X : Fr} (s : List UInt8) (p : List UInt8) (S : SH w M X []) : Cq Tryd.prog 30 [.string (sB s), .string (sB p)] w M X (fun u => u = .tuple [.string (sB (cpx s p)), .bool (p.isPrefixOf s)].toArray) := by
 unfold Cq
 refine calls_in (b := cpx_n0) Tryd.func30 rfl Tryd.ntmps30 rfl (fun C hC => ?_)
 refine ws_sub [(0, _), (1, _)] ⟨rfl, rfl, trivial⟩ ?_
 refine ws_seqN cpx_n1 cpx_n2 rfl rfl rfl ?_
 refine ws_region rfl ?_
 refine wla 0 1 rfl rfl rfl rfl rfl rfl rfl ?_
 refine wla 1 2 rfl rfl rfl rfl rfl rfl rfl ?_
 refine wl_end rfl ?_
 refine nm_sub [(0, _), (1, _)] ⟨rfl, rfl, trivial⟩ ?_
 refine nm_thn ?_
 refine ws_seqN cpx_n3 cpx_n4 rfl rfl rfl ?_
 refine ws_region rfl ?_
 refine wlm 0 1 rfl rfl rfl rfl rfl rfl rfl ?_
 refine wlm 1 2 rfl rfl rfl rfl rfl rfl rfl ?_
 refine wlo 2 3 rfl rfl rfl (wo_cq rfl rfl rfl rfl rfl rfl rfl cf48 S (cpxl_q s p S.lend) ?_)
 rintro _ w1 S1 rfl; clear S
 refine wlo 3 4 rfl rfl rfl (wo_run rfl rfl (run_extract rfl rfl rfl) ?_)
 refine wlo 4 5 rfl rfl rfl (wo_run rfl rfl (run_extract rfl rfl rfl) ?_)
 refine wla 5 6 rfl rfl rfl rfl rfl rfl rfl ?_
 refine wla 6 7 rfl rfl rfl rfl rfl rfl rfl ?_
 refine wl_end rfl ?_
 refine nm_sub [(4, _), (5, _)] ⟨rfl, rfl, trivial⟩ ?_
 refine nm_thn ?_
 refine ws_ret hC [_, _] rfl rfl ⟨rfl, rfl, trivial⟩ ?_
 exact ⟨_, rfl, (S1.pick [] [] (by decide) trivial), rfl⟩
noncomputable def term_n0 : Code := Tryd.f13.body.getD .skip
noncomputable def term_n1 : Code := cL term_n0
noncomputable def term_n2 : Code := cR term_n0
noncomputable def term_n3 : Code := cL term_n2
noncomputable def term_n4 : Code := cR term_n2
noncomputable def term_n5 : Code := cL term_n4
noncomputable def term_n6 : Code := cR term_n4
noncomputable def term_n7 : Code := cL term_n6
noncomputable def term_n8 : Code := cR term_n6
noncomputable def term_n9 : Code := cL term_n7
noncomputable def term_n10 : Code := cL term_n9
noncomputable def term_n11 : Code := cR term_n9
noncomputable def term_n12 : Code := cL term_n11
noncomputable def term_n13 : Code := cR term_n11
noncomputable def term_n14 : Code := cL term_n8
noncomputable def term_n15 : Code := cR term_n8
noncomputable def term_n16 : Code := cL term_n15
noncomputable def term_n17 : Code := cR term_n15
noncomputable def term_n18 : Code := cL term_n16
noncomputable def term_n19 : Code := cR term_n16
noncomputable def term_n20 : Code := cL term_n19
noncomputable def term_n21 : Code := cR term_n19
noncomputable def term_n22 : Code := cL term_n21
noncomputable def term_n23 : Code := cR term_n21
noncomputable def term_n24 : Code := cL term_n17
noncomputable def term_n25 : Code := cR term_n17
noncomputable def term_n26 : Code := cL term_n13
noncomputable def term_n27 : Code := cR term_n13
noncomputable def term_n28 : Code := cL term_n27
noncomputable def term_n29 : Code := cR term_n27
noncomputable def term_n30 : Code := cL term_n29
noncomputable def term_n31 : Code := cR term_n29
noncomputable def term_n32 : Code := cL term_n31
noncomputable def term_n33 : Code := cR term_n31
set_option maxHeartbeats 1000000 in
set_option maxRecDepth 10000 in
theorem term_t {w : World} {M : Hp} {X : Fr} (z : List UInt8) (hw : z.length ≤ 2000) (hlb : LibOk (M.un X.h)) (S : SH w M X []) : Ct Tryd.prog 13 [.string (sB z)] w M X (fun u _ => u = .agg [.int .i64 (termP z).e, .int .i64 (termP z).c].toArray) := by
 unfold Ct
 refine calls_in (b := term_n0) Tryd.func13 rfl Tryd.ntmps13 rfl (fun C hC => ?_)
 refine ws_sub [(0, _)] ⟨rfl, trivial⟩ ?_
 refine ws_seqN term_n1 term_n2 rfl rfl rfl ?_
 have hcl := cut_len z [42]
 have hxl := cpx_len z [116, 94]
 have hxl2 := cpx_len (Lib.cut z [42]).2.1 [116, 94]
 refine ws_region rfl ?_
 refine wlo 0 1 rfl rfl rfl (wo_alloc (l := [_, _]) rfl rfl rfl zr38 rfl S ?_)
 intro gb1 w1 S1; clear S
 refine wl_end rfl ?_
 refine nm_thn ?_
 refine ws_seqN term_n3 term_n4 rfl rfl rfl ?_
 refine ws_region rfl ?_
 refine wlo 0 1 rfl rfl rfl (wo_run rfl rfl (run_build (l := [_, _]) rfl rfl st38 rfl rfl) ?_)
 refine wlo 1 2 rfl rfl rfl (wo_alloc (l := [_, _]) rfl rfl rfl zr38 rfl S1 ?_)
 intro gb2 w2 S2; clear S1
 refine wlo 2 3 rfl rfl rfl (wo_storeB (i := 0) (us := [_, _]) (l' := [_, _]) (H' := [_, _]) rfl rfl S2 rfl rfl rfl rfl sz38 rfl rfl rfl rfl ?_)
 intro w3 S3; clear S2
 refine wl_end rfl ?_
 refine nm_sub [(0, _), (2, _), (3, _)] ⟨rfl, rfl, rfl, trivial⟩ ?_
 refine nm_thn ?_
 refine ws_seqN term_n5 term_n6 rfl rfl rfl ?_
 refine ws_region rfl ?_
 refine wlm 0 1 rfl rfl rfl rfl rfl rfl rfl ?_
 refine wlo 1 2 rfl rfl rfl (wo_cq rfl rfl rfl rfl rfl rfl rfl cf28 S3 (cut_q z ([42] : List UInt8) (by omega) (hlb.mono S3.un_XH) S3.lend) ?_)
 rintro _ w4 S4 rfl; clear S3
 refine wlm 2 3 rfl rfl rfl rfl rfl rfl rfl ?_
 refine wlo 3 4 rfl rfl rfl (wo_run rfl rfl (run_extract rfl rfl rfl) ?_)
 refine wlo 4 5 rfl rfl rfl (wo_run rfl rfl (run_extract rfl rfl rfl) ?_)
 refine wlo 5 6 rfl rfl rfl (wo_run rfl rfl (run_extract rfl rfl rfl) ?_)
 refine wla 6 7 rfl rfl rfl rfl rfl rfl rfl ?_
 refine wla 7 8 rfl rfl rfl rfl rfl rfl rfl ?_
 refine wla 8 9 rfl rfl rfl rfl rfl rfl rfl ?_
 refine wl_end rfl ?_
 refine nm_sub [(0, _), (2, _), (3, _), (4, _), (5, _), (6, _)] ⟨rfl, rfl, rfl, rfl, rfl, rfl, trivial⟩ ?_
 refine nm_thn ?_
 refine ws_seqN term_n7 term_n8 rfl rfl rfl ?_
 refine ws_blockN term_n9 0 rfl rfl rfl ?_
 refine ws_seqN term_n10 term_n11 rfl rfl rfl ?_
 refine ws_region rfl ?_
 refine wlm 0 1 rfl rfl rfl rfl rfl rfl rfl ?_
 refine wla 1 2 rfl rfl rfl rfl rfl rfl rfl ?_
 refine wl_end rfl ?_
 refine nm_sub [(0, _), (2, _), (3, _), (4, _), (5, _), (23, _)] ⟨rfl, rfl, rfl, rfl, rfl, rfl, trivial⟩ ?_
 refine nm_thn ?_
 refine ws_condN term_n12 term_n13 rfl rfl rfl rfl (fun hb23 => ?_) (fun hb23 => ?_)
 ·refine ws_region rfl ?_
  refine wlm 0 1 rfl rfl rfl rfl rfl rfl rfl ?_
  refine wlo 1 2 rfl rfl rfl (wo_ct rfl rfl rfl rfl rfl rfl rfl cf29 S4 (atoi_t ((Lib.cut z ([42] : List UInt8)).1) (by omega) (hlb.mono S4.un_XH) S4.lend) ?_)
  intro vw5 w5 M1 hle1 S5 hRw5; clear S4
  replace hlb := hlb.mono (Hp.un_mono hle1 S5.mx)
  obtain ⟨er1, rfl⟩ := hRw5
  refine wlm 2 3 rfl rfl rfl rfl rfl rfl rfl ?_
  refine wlo 3 4 rfl rfl rfl (wo_run rfl rfl (run_extract rfl rfl rfl) ?_)
  refine wlo 4 5 rfl rfl rfl (wo_run rfl rfl (run_extract rfl rfl rfl) ?_)
  refine wlo 5 6 rfl rfl rfl (wo_run rfl rfl (run_fieldAddr rfl rfl Tryd.underlying38 rfl (ce3) (nf3)) ?_)
  refine wlo 6 7 rfl rfl rfl (wo_storeB (i := 0) (us := [_]) (l' := [_, _]) (H' := [_, _]) rfl rfl S5 rfl rfl rfl rfl sz3 rfl rfl rfl rfl ?_)
  intro w6 S6; clear S5
  refine wl_end rfl ?_
  refine nm_blk ?_
  refine nm_sub [(2, _), (3, _), (5, _)] ⟨rfl, rfl, rfl, trivial⟩ ?_
  refine nm_thn ?_
  refine ws_seqN term_n14 term_n15 rfl rfl rfl ?_
  refine ws_region rfl ?_
  refine wlo 0 1 rfl rfl rfl (wo_run rfl rfl (run_fieldAddr rfl rfl Tryd.underlying38 rfl (ce3) (nf3)) ?_)
  refine wlo 1 2 rfl rfl rfl (wo_storeB (i := 0) (us := [_]) (l' := [_, _]) (H' := [_, _]) rfl rfl S6 rfl rfl rfl rfl sz3 rfl rfl rfl rfl ?_)
  intro w7 S7; clear S6
  refine wl_end rfl ?_
  refine nm_sub [(2, _), (3, _), (5, _)] ⟨rfl, rfl, rfl, trivial⟩ ?_
  refine nm_thn ?_
  refine ws_seqN term_n16 term_n17 rfl rfl rfl ?_
  refine ws_seqN term_n18 term_n19 rfl rfl rfl ?_
  refine ws_region rfl ?_
  refine wlm 0 1 rfl rfl rfl rfl rfl rfl rfl ?_
  refine wlo 1 2 rfl rfl rfl (wo_cq rfl rfl rfl rfl rfl rfl rfl cf30 S7 (cpx_q ((Lib.cut z ([42] : List UInt8)).2.1) ([116, 94] : List UInt8) S7.lend) ?_)
  rintro _ w8 S8 rfl; clear S7
  refine wlm 2 3 rfl rfl rfl rfl rfl rfl rfl ?_
  refine wlo 3 4 rfl rfl rfl (wo_run rfl rfl (run_extract rfl rfl rfl) ?_)
  refine wlo 4 5 rfl rfl rfl (wo_run rfl rfl (run_extract rfl rfl rfl) ?_)
  refine wla 5 6 rfl rfl rfl rfl rfl rfl rfl ?_
  refine wla 6 7 rfl rfl rfl rfl rfl rfl rfl ?_
  refine wl_end rfl ?_
  refine nm_sub [(2, _), (3, _), (7, _), (8, _)] ⟨rfl, rfl, rfl, rfl, trivial⟩ ?_
  refine nm_thn ?_
  refine ws_seqN term_n20 term_n21 rfl rfl rfl ?_
  refine ws_region rfl ?_
  refine wlm 0 1 rfl rfl rfl rfl rfl rfl rfl ?_
  refine wl_end rfl ?_
  refine nm_sub [(2, _), (3, _), (7, _), (41, _)] ⟨rfl, rfl, rfl, rfl, trivial⟩ ?_
  refine nm_thn ?_
  refine ws_condN term_n22 term_n23 rfl rfl rfl rfl (fun hb41 => ?_) (fun hb41 => ?_)
  ·refine ws_region rfl ?_
   refine wlm 0 1 rfl rfl rfl rfl rfl rfl rfl ?_
   refine wlo 1 2 rfl rfl rfl (wo_ct rfl rfl rfl rfl rfl rfl rfl cf29 S8 (atoi_t (cpx ((Lib.cut z ([42] : List UInt8)).2.1) ([116, 94] : List UInt8)) (by omega) (hlb.mono S8.un_XH) S8.lend) ?_)
   intro vw9 w9 M2 hle2 S9 hRw9; clear S8
   replace hlb := hlb.mono (Hp.un_mono hle2 S9.mx)
   obtain ⟨er2, rfl⟩ := hRw9
   refine wlm 2 3 rfl rfl rfl rfl rfl rfl rfl ?_
   refine wlo 3 4 rfl rfl rfl (wo_run rfl rfl (run_extract rfl rfl rfl) ?_)
   refine wlo 4 5 rfl rfl rfl (wo_run rfl rfl (run_extract rfl rfl rfl) ?_)
   refine wlo 5 6 rfl rfl rfl (wo_run rfl rfl (run_fieldAddr rfl rfl Tryd.underlying38 rfl (ce3) (nf3)) ?_)
   refine wlo 6 7 rfl rfl rfl (wo_storeB (i := 0) (us := [_]) (l' := [_, _]) (H' := [_, _]) rfl rfl S9 rfl rfl rfl rfl sz3 rfl rfl rfl rfl ?_)
   intro w10 S10; clear S9
   refine wl_end rfl ?_
   refine nm_sub [(2, _), (3, _)] ⟨rfl, rfl, trivial⟩ ?_
   refine nm_thn ?_
   refine ws_seqN term_n24 term_n25 rfl rfl rfl ?_
   refine ws_region rfl ?_
   refine wlo 0 1 rfl rfl rfl (wo_run rfl rfl (run_loadN (us := [_, _]) rfl rfl Tryd.underlying38 rfl sz38 (S10.boxcs (i := 0) rfl ⟨rfl, rfl, trivial⟩)) ?_)
   refine wlo 1 2 rfl rfl rfl (wo_storeB (i := 1) (us := [_, _]) (l' := [_, _]) (H' := [_, _]) rfl rfl S10 rfl rfl rfl rfl sz38 rfl rfl rfl rfl ?_)
   intro w11 S11; clear S10
   refine wl_end rfl ?_
   refine nm_sub [(2, _)] ⟨rfl, trivial⟩ ?_
   refine nm_thn ?_
   refine ws_ret hC [_] rfl rfl ⟨⟨_, rfl, loadVarN (us := [_, _]) Tryd.underlying38 rfl sz38 (S11.boxcs (i := 1) rfl ⟨rfl, rfl, trivial⟩)⟩, trivial⟩ ?_
   refine ⟨_, rfl, _, hle1.trans hle2, (S11.pick [] [] (by decide) trivial), ?_⟩
   unfold termP
   first | (rw [if_pos (by assumption)]) | (rw [if_neg (by simp_all), if_pos (by assumption)])
   unfold expP
   first | (rw [if_pos (by assumption)]; first | done | (unfold cpx; rw [if_pos (by assumption)]; done) | (unfold cpx; rw [if_pos (by assumption)]; rfl)) | (rw [if_neg (by simp_all)])
   first | done | exact rfl
  ·refine ws_skip rfl ?_
   refine nm_sub [(2, _), (3, _)] ⟨rfl, rfl, trivial⟩ ?_
   refine nm_thn ?_
   refine ws_seqN term_n24 term_n25 rfl rfl rfl ?_
   refine ws_region rfl ?_
   refine wlo 0 1 rfl rfl rfl (wo_run rfl rfl (run_loadN (us := [_, _]) rfl rfl Tryd.underlying38 rfl sz38 (S8.boxcs (i := 0) rfl ⟨rfl, rfl, trivial⟩)) ?_)
   refine wlo 1 2 rfl rfl rfl (wo_storeB (i := 1) (us := [_, _]) (l' := [_, _]) (H' := [_, _]) rfl rfl S8 rfl rfl rfl rfl sz38 rfl rfl rfl rfl ?_)
   intro w12 S12; clear S8
   refine wl_end rfl ?_
   refine nm_sub [(2, _)] ⟨rfl, trivial⟩ ?_
   refine nm_thn ?_
   refine ws_ret hC [_] rfl rfl ⟨⟨_, rfl, loadVarN (us := [_, _]) Tryd.underlying38 rfl sz38 (S12.boxcs (i := 1) rfl ⟨rfl, rfl, trivial⟩)⟩, trivial⟩ ?_
   refine ⟨_, rfl, _, hle1, (S12.pick [] [] (by decide) trivial), ?_⟩
   unfold termP
   first | (rw [if_pos (by assumption)]) | (rw [if_neg (by simp_all), if_pos (by assumption)])
   unfold expP
   first | (rw [if_pos (by assumption)]; first | done | (unfold cpx; rw [if_pos (by assumption)]; done) | (unfold cpx; rw [if_pos (by assumption)]; rfl)) | (rw [if_neg (by simp_all)])
   first | done | exact rfl
 ·refine ws_seqN term_n26 term_n27 rfl rfl rfl ?_
  refine ws_region rfl ?_
  refine wlm 0 1 rfl rfl rfl rfl rfl rfl rfl ?_
  refine wlo 1 2 rfl rfl rfl (wo_cq rfl rfl rfl rfl rfl rfl rfl cf11 S4 (hasP_q z ([116] : List UInt8) S4.lend) ?_)
  rintro _ w13 S13 rfl; clear S4
  refine wla 2 3 rfl rfl rfl rfl rfl rfl rfl ?_
  refine wl_end rfl ?_
  refine nm_sub [(0, _), (2, _), (3, _), (31, _)] ⟨rfl, rfl, rfl, rfl, trivial⟩ ?_
  refine nm_thn ?_
  refine ws_condN term_n28 term_n29 rfl rfl rfl rfl (fun hb31 => ?_) (fun hb31 => ?_)
  ·refine ws_region rfl ?_
   refine wlm 0 1 rfl rfl rfl rfl rfl rfl rfl ?_
   refine wla 1 2 rfl rfl rfl rfl rfl rfl rfl ?_
   refine wl_end rfl ?_
   refine nm_blk ?_
   refine nm_sub [(2, _), (3, _), (5, _)] ⟨rfl, rfl, rfl, trivial⟩ ?_
   refine nm_thn ?_
   refine ws_seqN term_n14 term_n15 rfl rfl rfl ?_
   refine ws_region rfl ?_
   refine wlo 0 1 rfl rfl rfl (wo_run rfl rfl (run_fieldAddr rfl rfl Tryd.underlying38 rfl (ce3) (nf3)) ?_)
   refine wlo 1 2 rfl rfl rfl (wo_storeB (i := 0) (us := [_]) (l' := [_, _]) (H' := [_, _]) rfl rfl S13 rfl rfl rfl rfl sz3 rfl rfl rfl rfl ?_)
   intro w14 S14; clear S13
   refine wl_end rfl ?_
   refine nm_sub [(2, _), (3, _), (5, _)] ⟨rfl, rfl, rfl, trivial⟩ ?_
   refine nm_thn ?_
   refine ws_seqN term_n16 term_n17 rfl rfl rfl ?_
   refine ws_seqN term_n18 term_n19 rfl rfl rfl ?_
   refine ws_region rfl ?_
   refine wlm 0 1 rfl rfl rfl rfl rfl rfl rfl ?_
   refine wlo 1 2 rfl rfl rfl (wo_cq rfl rfl rfl rfl rfl rfl rfl cf30 S14 (cpx_q z ([116, 94] : List UInt8) S14.lend) ?_)
   rintro _ w15 S15 rfl; clear S14
   refine wlm 2 3 rfl rfl rfl rfl rfl rfl rfl ?_
   refine wlo 3 4 rfl rfl rfl (wo_run rfl rfl (run_extract rfl rfl rfl) ?_)
   refine wlo 4 5 rfl rfl rfl (wo_run rfl rfl (run_extract rfl rfl rfl) ?_)
   refine wla 5 6 rfl rfl rfl rfl rfl rfl rfl ?_
   refine wla 6 7 rfl rfl rfl rfl rfl rfl rfl ?_
   refine wl_end rfl ?_
   refine nm_sub [(2, _), (3, _), (7, _), (8, _)] ⟨rfl, rfl, rfl, rfl, trivial⟩ ?_
   refine nm_thn ?_
   refine ws_seqN term_n20 term_n21 rfl rfl rfl ?_
   refine ws_region rfl ?_
   refine wlm 0 1 rfl rfl rfl rfl rfl rfl rfl ?_
   refine wl_end rfl ?_
   refine nm_sub [(2, _), (3, _), (7, _), (41, _)] ⟨rfl, rfl, rfl, rfl, trivial⟩ ?_
   refine nm_thn ?_
   refine ws_condN term_n22 term_n23 rfl rfl rfl rfl (fun hb41 => ?_) (fun hb41 => ?_)
   ·refine ws_region rfl ?_
    refine wlm 0 1 rfl rfl rfl rfl rfl rfl rfl ?_
    refine wlo 1 2 rfl rfl rfl (wo_ct rfl rfl rfl rfl rfl rfl rfl cf29 S15 (atoi_t (cpx z ([116, 94] : List UInt8)) (by omega) (hlb.mono S15.un_XH) S15.lend) ?_)
    intro vw16 w16 M3 hle3 S16 hRw16; clear S15
    replace hlb := hlb.mono (Hp.un_mono hle3 S16.mx)
    obtain ⟨er3, rfl⟩ := hRw16
    refine wlm 2 3 rfl rfl rfl rfl rfl rfl rfl ?_
    refine wlo 3 4 rfl rfl rfl (wo_run rfl rfl (run_extract rfl rfl rfl) ?_)
    refine wlo 4 5 rfl rfl rfl (wo_run rfl rfl (run_extract rfl rfl rfl) ?_)
    refine wlo 5 6 rfl rfl rfl (wo_run rfl rfl (run_fieldAddr rfl rfl Tryd.underlying38 rfl (ce3) (nf3)) ?_)
    refine wlo 6 7 rfl rfl rfl (wo_storeB (i := 0) (us := [_]) (l' := [_, _]) (H' := [_, _]) rfl rfl S16 rfl rfl rfl rfl sz3 rfl rfl rfl rfl ?_)
    intro w17 S17; clear S16
    refine wl_end rfl ?_
    refine nm_sub [(2, _), (3, _)] ⟨rfl, rfl, trivial⟩ ?_
    refine nm_thn ?_
    refine ws_seqN term_n24 term_n25 rfl rfl rfl ?_
    refine ws_region rfl ?_
    refine wlo 0 1 rfl rfl rfl (wo_run rfl rfl (run_loadN (us := [_, _]) rfl rfl Tryd.underlying38 rfl sz38 (S17.boxcs (i := 0) rfl ⟨rfl, rfl, trivial⟩)) ?_)
    refine wlo 1 2 rfl rfl rfl (wo_storeB (i := 1) (us := [_, _]) (l' := [_, _]) (H' := [_, _]) rfl rfl S17 rfl rfl rfl rfl sz38 rfl rfl rfl rfl ?_)
    intro w18 S18; clear S17
    refine wl_end rfl ?_
    refine nm_sub [(2, _)] ⟨rfl, trivial⟩ ?_
    refine nm_thn ?_
    refine ws_ret hC [_] rfl rfl ⟨⟨_, rfl, loadVarN (us := [_, _]) Tryd.underlying38 rfl sz38 (S18.boxcs (i := 1) rfl ⟨rfl, rfl, trivial⟩)⟩, trivial⟩ ?_
    refine ⟨_, rfl, _, hle3, (S18.pick [] [] (by decide) trivial), ?_⟩
    unfold termP
    first | (rw [if_pos (by assumption)]) | (rw [if_neg (by simp_all), if_pos (by assumption)])
    unfold expP
    first | (rw [if_pos (by assumption)]; first | done | (unfold cpx; rw [if_pos (by assumption)]; done) | (unfold cpx; rw [if_pos (by assumption)]; rfl)) | (rw [if_neg (by simp_all)])
    first | done | exact rfl
   ·refine ws_skip rfl ?_
    refine nm_sub [(2, _), (3, _)] ⟨rfl, rfl, trivial⟩ ?_
    refine nm_thn ?_
    refine ws_seqN term_n24 term_n25 rfl rfl rfl ?_
    refine ws_region rfl ?_
    refine wlo 0 1 rfl rfl rfl (wo_run rfl rfl (run_loadN (us := [_, _]) rfl rfl Tryd.underlying38 rfl sz38 (S15.boxcs (i := 0) rfl ⟨rfl, rfl, trivial⟩)) ?_)
    refine wlo 1 2 rfl rfl rfl (wo_storeB (i := 1) (us := [_, _]) (l' := [_, _]) (H' := [_, _]) rfl rfl S15 rfl rfl rfl rfl sz38 rfl rfl rfl rfl ?_)
    intro w19 S19; clear S15
    refine wl_end rfl ?_
    refine nm_sub [(2, _)] ⟨rfl, trivial⟩ ?_
    refine nm_thn ?_
    refine ws_ret hC [_] rfl rfl ⟨⟨_, rfl, loadVarN (us := [_, _]) Tryd.underlying38 rfl sz38 (S19.boxcs (i := 1) rfl ⟨rfl, rfl, trivial⟩)⟩, trivial⟩ ?_
    refine ⟨_, rfl, _, Hp.le_refl _, (S19.pick [] [] (by decide) trivial), ?_⟩
    unfold termP
    first | (rw [if_pos (by assumption)]) | (rw [if_neg (by simp_all), if_pos (by assumption)])
    unfold expP
    first | (rw [if_pos (by assumption)]; first | done | (unfold cpx; rw [if_pos (by assumption)]; done) | (unfold cpx; rw [if_pos (by assumption)]; rfl)) | (rw [if_neg (by simp_all)])
    first | done | exact rfl
  ·refine ws_seqN term_n30 term_n31 rfl rfl rfl ?_
   refine ws_region rfl ?_
   refine wlm 0 1 rfl rfl rfl rfl rfl rfl rfl ?_
   refine wlo 1 2 rfl rfl rfl (wo_ct rfl rfl rfl rfl rfl rfl rfl cf29 S13 (atoi_t z (by omega) (hlb.mono S13.un_XH) S13.lend) ?_)
   intro vw20 w20 M4 hle4 S20 hRw20; clear S13
   replace hlb := hlb.mono (Hp.un_mono hle4 S20.mx)
   obtain ⟨er4, rfl⟩ := hRw20
   refine wlm 2 3 rfl rfl rfl rfl rfl rfl rfl ?_
   refine wlo 3 4 rfl rfl rfl (wo_run rfl rfl (run_extract rfl rfl rfl) ?_)
   refine wlo 4 5 rfl rfl rfl (wo_run rfl rfl (run_extract rfl rfl rfl) ?_)
   refine wlo 5 6 rfl rfl rfl (wo_run rfl rfl (run_fieldAddr rfl rfl Tryd.underlying38 rfl (ce3) (nf3)) ?_)
   refine wlo 6 7 rfl rfl rfl (wo_storeB (i := 0) (us := [_]) (l' := [_, _]) (H' := [_, _]) rfl rfl S20 rfl rfl rfl rfl sz3 rfl rfl rfl rfl ?_)
   intro w21 S21; clear S20
   refine wl_end rfl ?_
   refine nm_sub [(2, _), (3, _)] ⟨rfl, rfl, trivial⟩ ?_
   refine nm_thn ?_
   refine ws_seqN term_n32 term_n33 rfl rfl rfl ?_
   refine ws_region rfl ?_
   refine wlo 0 1 rfl rfl rfl (wo_run rfl rfl (run_loadN (us := [_, _]) rfl rfl Tryd.underlying38 rfl sz38 (S21.boxcs (i := 0) rfl ⟨rfl, rfl, trivial⟩)) ?_)
   refine wlo 1 2 rfl rfl rfl (wo_storeB (i := 1) (us := [_, _]) (l' := [_, _]) (H' := [_, _]) rfl rfl S21 rfl rfl rfl rfl sz38 rfl rfl rfl rfl ?_)
   intro w22 S22; clear S21
   refine wl_end rfl ?_
   refine nm_sub [(2, _)] ⟨rfl, trivial⟩ ?_
   refine nm_thn ?_
   refine ws_ret hC [_] rfl rfl ⟨⟨_, rfl, loadVarN (us := [_, _]) Tryd.underlying38 rfl sz38 (S22.boxcs (i := 1) rfl ⟨rfl, rfl, trivial⟩)⟩, trivial⟩ ?_
   refine ⟨_, rfl, _, hle4, (S22.pick [] [] (by decide) trivial), ?_⟩
   unfold termP
   rw [if_neg (by simp_all), if_neg (by simp_all)]
   exact rfl
theorem expP_bd (p : List UInt8) : -9223372036854775808 ≤ expP p ∧ expP p ≤ 9223372036854775807 := by
 unfold expP; split
 ·exact atoiV_bd _
 ·exact ⟨by decide, by decide⟩
theorem termP_bd (w : List UInt8) : (-9223372036854775808 ≤ (termP w).e ∧ (termP w).e ≤ 9223372036854775807) ∧ -9223372036854775808 ≤ (termP w).c ∧ (termP w).c ≤ 9223372036854775807 := by
 unfold termP
 split
 ·exact ⟨expP_bd _, atoiV_bd _⟩
 ·split
  ·exact ⟨expP_bd _, show (-9223372036854775808 : Int) ≤ 1 by decide, show (1 : Int) ≤ 9223372036854775807 by decide⟩
  ·exact ⟨⟨show (-9223372036854775808 : Int) ≤ 0 by decide, show (0 : Int) ≤ 9223372036854775807 by decide⟩, atoiV_bd _⟩
noncomputable def Read_n0 : Code := Tryd.f5.body.getD .skip
noncomputable def Read_n1 : Code := cL Read_n0
noncomputable def Read_n2 : Code := cR Read_n0
noncomputable def Read_n3 : Code := cL Read_n2
noncomputable def Read_n4 : Code := cR Read_n2
noncomputable def Read_n5 : Code := cL Read_n3
noncomputable def Read_n6 : Code := cR Read_n3
noncomputable def Read_n7 : Code := cL Read_n6
noncomputable def Read_n8 : Code := cR Read_n6
noncomputable def Read_n9 : Code := cL Read_n7
noncomputable def Read_n10 : Code := cR Read_n7
noncomputable def Read_n11 : Code := cL Read_n4
noncomputable def Read_n12 : Code := cR Read_n4
noncomputable def Read_n13 : Code := cL Read_n11
noncomputable def Read_n14 : Code := cR Read_n11
noncomputable def Read_n15 : Code := cL Read_n14
noncomputable def Read_n16 : Code := cR Read_n14
noncomputable def Read_n17 : Code := cL Read_n15
noncomputable def Read_n18 : Code := cR Read_n15
noncomputable def Read_n19 : Code := cL Read_n12
noncomputable def Read_n20 : Code := cR Read_n12
noncomputable def Read_n21 : Code := cL Read_n20
noncomputable def Read_n22 : Code := cR Read_n20
noncomputable def Read_n23 : Code := cL Read_n22
noncomputable def Read_n24 : Code := cR Read_n22
noncomputable def Read_n25 : Code := cL Read_n23
noncomputable def Read_n26 : Code := cR Read_n23
noncomputable def Read_n27 : Code := cL Read_n26
noncomputable def Read_n28 : Code := cR Read_n26
noncomputable def Read_n29 : Code := cL Read_n24
noncomputable def Read_n30 : Code := cR Read_n24
noncomputable def Read_n31 : Code := cL Read_n30
noncomputable def Read_n32 : Code := cR Read_n30
noncomputable def Read_n33 : Code := cL Read_n31
noncomputable def Read_n34 : Code := cR Read_n31
noncomputable def Read_n35 : Code := cL Read_n34
noncomputable def Read_n36 : Code := cL Read_n35
noncomputable def Read_n37 : Code := cL Read_n36
noncomputable def Read_n38 : Code := cR Read_n36
noncomputable def Read_n39 : Code := cL Read_n38
noncomputable def Read_n40 : Code := cR Read_n38
noncomputable def Read_n41 : Code := cL Read_n39
noncomputable def Read_n42 : Code := cR Read_n39
noncomputable def Read_n43 : Code := cL Read_n40
noncomputable def Read_n44 : Code := cR Read_n40
noncomputable def Read_n45 : Code := cL Read_n43
noncomputable def Read_n46 : Code := cL Read_n45
noncomputable def Read_n47 : Code := cR Read_n45
noncomputable def Read_n48 : Code := cL Read_n47
noncomputable def Read_n49 : Code := cR Read_n47
noncomputable def Read_n50 : Code := cL Read_n48
noncomputable def Read_n51 : Code := cR Read_n48
noncomputable def Read_n52 : Code := cL Read_n51
noncomputable def Read_n53 : Code := cR Read_n51
noncomputable def Read_n54 : Code := cL Read_n52
noncomputable def Read_n55 : Code := cR Read_n52
noncomputable def Read_n56 : Code := cL Read_n55
noncomputable def Read_n57 : Code := cR Read_n55
noncomputable def Read_n58 : Code := cL Read_n56
noncomputable def Read_n59 : Code := cR Read_n56
noncomputable def Read_n60 : Code := cL Read_n59
noncomputable def Read_n61 : Code := cR Read_n59
noncomputable def Read_n62 : Code := cL Read_n49
noncomputable def Read_n63 : Code := cR Read_n49
noncomputable def Read_n64 : Code := cL Read_n63
noncomputable def Read_n65 : Code := cR Read_n63
noncomputable def Read_n66 : Code := cL Read_n32
noncomputable def Read_n67 : Code := cR Read_n32
noncomputable def Read_n68 : Code := cL Read_n66
noncomputable def Read_n69 : Code := cR Read_n66
noncomputable def Read_n70 : Code := cL Read_n69
noncomputable def Read_n71 : Code := cR Read_n69
noncomputable def Read_n72 : Code := cL Read_n70
noncomputable def Read_n73 : Code := cR Read_n70
noncomputable def Read_n74 : Code := cL Read_n67
noncomputable def Read_n75 : Code := cR Read_n67
set_option maxHeartbeats 2000000 in
set_option maxRecDepth 10000 in
theorem Read_t {w : World} {M : Hp} {X : Fr} (s : List UInt8) (hlb : LibOk (M.un X.h)) (S : SH w M X []) : Ct Tryd.prog 5 [.string (sB s)] w M X (TE (pieceR s (endR s (progR s)))) := by
 unfold Ct
 refine calls_in (b := Read_n0) Tryd.func5 rfl Tryd.ntmps5 rfl (fun C hC => ?_)
 refine ws_sub [(0, _)] ⟨rfl, trivial⟩ ?_
 refine ws_seqN Read_n1 Read_n2 rfl rfl rfl ?_
 refine ws_region rfl ?_
 refine wla 0 1 rfl rfl rfl rfl rfl rfl rfl ?_
 refine wla 1 2 rfl rfl rfl rfl rfl rfl rfl ?_
 refine wl_end rfl ?_
 refine nm_sub [(0, _)] ⟨rfl, trivial⟩ ?_
 refine nm_thn ?_
 refine ws_seqN Read_n3 Read_n4 rfl rfl rfl ?_
 refine ws_seqN Read_n5 Read_n6 rfl rfl rfl ?_
 refine ws_region rfl ?_
 refine wlm 0 1 rfl rfl rfl rfl rfl rfl rfl ?_
 refine wlo 1 2 rfl rfl rfl (wo_run rfl rfl (run_lenS rfl rfl rfl rfl rfl rfl Tryd.underlying9) ?_)
 refine wlo 2 3 rfl rfl rfl (wo_run rfl rfl (run_gtr rfl rfl rfl) ?_)
 refine wl_end rfl ?_
 refine nm_sub [(0, _), (13, _)] ⟨rfl, rfl, trivial⟩ ?_
 refine nm_thn ?_
 refine ws_condN Read_n7 Read_n8 rfl rfl rfl rfl (fun hb13 => ?_) (fun hb13 => ?_)
 ·replace hb13 := of_decide_eq_true hb13
  refine ws_seqN Read_n9 Read_n10 rfl rfl rfl ?_
  refine ws_region rfl ?_
  refine wla 0 1 rfl rfl rfl rfl rfl rfl rfl ?_
  refine wla 1 2 rfl rfl rfl rfl rfl rfl rfl ?_
  refine wl_end rfl ?_
  refine nm_sub [(2, _), (3, _)] ⟨rfl, rfl, trivial⟩ ?_
  refine nm_thn ?_
  refine ws_ret hC [_, _] rfl rfl ⟨rfl, rfl, trivial⟩ ?_
  refine ⟨_, rfl, _, Hp.le_refl _, (S.pick [] [] (by decide) trivial), ?_⟩
  refine TE.of (p := ([], 2)) ⟨_, _, rfl, RdA.nil_⟩ ?_
  unfold pieceR
  rw [if_pos (by omega)]
 ·replace hb13 := of_decide_eq_false hb13
  refine ws_skip rfl ?_
  refine nm_sub [(0, _)] ⟨rfl, trivial⟩ ?_
  refine nm_thn ?_
  refine ws_seqN Read_n11 Read_n12 rfl rfl rfl ?_
  refine ws_seqN Read_n13 Read_n14 rfl rfl rfl ?_
  refine ws_region rfl ?_
  refine wlm 0 1 rfl rfl rfl rfl rfl rfl rfl ?_
  refine wlo 1 2 rfl rfl rfl (wo_run rfl rfl (run_eqlD rfl rfl rfl) ?_)
  refine wl_end rfl ?_
  refine nm_sub [(0, _), (15, _)] ⟨rfl, rfl, trivial⟩ ?_
  refine nm_thn ?_
  refine ws_condN Read_n15 Read_n16 rfl rfl rfl rfl (fun hb15 => ?_) (fun hb15 => ?_)
  ·replace hb15 := of_decide_eq_true hb15
   refine ws_seqN Read_n17 Read_n18 rfl rfl rfl ?_
   refine ws_region rfl ?_
   refine wla 0 1 rfl rfl rfl rfl rfl rfl rfl ?_
   refine wla 1 2 rfl rfl rfl rfl rfl rfl rfl ?_
   refine wl_end rfl ?_
   refine nm_sub [(2, _), (3, _)] ⟨rfl, rfl, trivial⟩ ?_
   refine nm_thn ?_
   refine ws_ret hC [_, _] rfl rfl ⟨rfl, rfl, trivial⟩ ?_
   refine ⟨_, rfl, _, Hp.le_refl _, (S.pick [] [] (by decide) trivial), ?_⟩
   refine TE.of (p := ([], 0)) ⟨_, _, rfl, RdA.nil_⟩ ?_
   unfold pieceR
   rw [if_neg (by omega), if_pos (by assumption)]
  ·replace hb15 := of_decide_eq_false hb15
   refine ws_skip rfl ?_
   refine nm_sub [(0, _)] ⟨rfl, trivial⟩ ?_
   refine nm_thn ?_
   refine ws_seqN Read_n19 Read_n20 rfl rfl rfl ?_
   refine ws_region rfl ?_
   refine wla 0 1 rfl rfl rfl rfl rfl rfl rfl ?_
   refine wl_end rfl ?_
   refine nm_thn ?_
   refine ws_seqN Read_n21 Read_n22 rfl rfl rfl ?_
   refine ws_region rfl ?_
   refine wlm 0 1 rfl rfl rfl rfl rfl rfl rfl ?_
   refine wla 1 2 rfl rfl rfl rfl rfl rfl rfl ?_
   refine wla 2 3 rfl rfl rfl rfl rfl rfl rfl ?_
   refine wl_end rfl ?_
   refine nm_sub [(0, _), (4, _), (5, _), (6, _)] ⟨rfl, rfl, rfl, rfl, trivial⟩ ?_
   refine nm_thn ?_
   refine ws_seqN Read_n23 Read_n24 rfl rfl rfl ?_
   refine ws_seqN Read_n25 Read_n26 rfl rfl rfl ?_
   refine ws_region rfl ?_
   refine wlm 0 1 rfl rfl rfl rfl rfl rfl rfl ?_
   refine wlo 1 2 rfl rfl rfl (wo_cq rfl rfl rfl rfl rfl rfl rfl cf11 S (hasP_q s ([45] : List UInt8) S.lend) ?_)
   rintro _ w1 S1 rfl; clear S
   refine wl_end rfl ?_
   refine nm_sub [(0, _), (4, _), (5, _), (6, _), (18, _)] ⟨rfl, rfl, rfl, rfl, rfl, trivial⟩ ?_
   refine nm_thn ?_
   refine ws_condN Read_n27 Read_n28 rfl rfl rfl rfl (fun hb18 => ?_) (fun hb18 => ?_)
   ·have hpl := pre_len hb18
    replace hpl : 1 ≤ s.length := hpl
    refine ws_draw rfl (by kernel_rfl) S1 4 rfl ?_
    clear S1
    refine wa_takeP (i := 0) (d := 19) 3 rfl (by kernel_rfl) (by kernel_rfl) (by kernel_rfl) rfl rfl rfl (fun w2 => run_move rfl rfl) ?_
    refine wa_take (i := 1) (d := 20) 2 rfl (by kernel_rfl) (by kernel_rfl) (by kernel_rfl) rfl rfl rfl (fun M2 N2 w3 hle2 S3 => .inl (run_drop1S rfl rfl rfl Tryd.underlying9 ((by first | omega | (simp only [lens]; omega))))) ?_
    refine wa_takeP (i := 2) (d := 5) 1 rfl (by kernel_rfl) (by kernel_rfl) (by kernel_rfl) rfl rfl rfl (fun w4 => run_assign rfl rfl) ?_
    refine wa_takeP (i := 3) (d := 6) 0 rfl (by kernel_rfl) (by kernel_rfl) (by kernel_rfl) rfl rfl rfl (fun w5 => run_assign rfl rfl) ?_
    refine wa_end (by kernel_rfl) (fun w6 S6 => ?_)
    refine nm_sub [(0, _), (4, _), (5, _), (6, _)] ⟨rfl, rfl, rfl, rfl, trivial⟩ ?_
    refine nm_thn ?_
    refine ws_seqN Read_n29 Read_n30 rfl rfl rfl ?_
    refine ws_eq 6 (.string (sB (rst s))) rfl (congrArg (fun z => Value.string (sB z)) (by unfold rst; first | rw [if_pos hb18] | rw [if_neg (by rw [hb18]; decide)])) ?_
    refine ws_eq 5 (.int .i64 (sg0 s)) rfl (int_eq (by unfold sg0; first | rw [if_pos hb18] | rw [if_neg (by rw [hb18]; decide)])) ?_
    have hrl := rst_len s
    refine ws_region rfl ?_
    refine wlm 0 1 rfl rfl rfl rfl rfl rfl rfl ?_
    refine wlo 1 2 rfl rfl rfl (wo_ct rfl rfl rfl rfl rfl rfl rfl cf12 S6 (split_t (rst s) ([32] : List UInt8) (by omega) (by decide) (hlb.mono S6.un_XH) S6.lend) ?_)
    intro vw7 w7 M5 hle5 S7 hRw7; clear S6
    replace hlb := hlb.mono (Hp.un_mono hle5 S7.mx)
    rw [split_spw] at hRw7
    obtain ⟨A1, c1, rfl, hr1⟩ := hRw7
    have hspl : (spw (rst s)).length * 16 ≤ 140737488355328 := hr1.room
    have hsg0 : sg0 s = 1 ∨ sg0 s = -1 := by unfold sg0; split <;> omega
    refine wla 2 3 rfl rfl rfl rfl rfl rfl rfl ?_
    refine wl_end rfl ?_
    refine nm_sub [(0, _), (4, _), (5, _), (7, _)] ⟨rfl, rfl, rfl, rfl, trivial⟩ ?_
    refine nm_thn ?_
    refine ws_seqN Read_n31 Read_n32 rfl rfl rfl ?_
    refine ws_seqN Read_n33 Read_n34 rfl rfl rfl ?_
    refine ws_region rfl ?_
    refine wlm 0 1 rfl rfl rfl rfl rfl rfl rfl ?_
    refine wlo 1 2 rfl rfl rfl (wo_run rfl rfl (run_len rfl rfl rfl rfl rfl rfl Tryd.underlying35) ?_)
    refine wlm 2 3 rfl rfl rfl rfl rfl rfl rfl ?_
    refine wl_end rfl ?_
    refine nm_sub [(0, _), (4, _), (5, _), (23, _), (24, _), (25, _)] ⟨rfl, rfl, rfl, rfl, rfl, rfl, trivial⟩ ?_
    refine nm_thn ?_
    refine ws_blockN Read_n35 0 rfl rfl rfl ?_
    have S8 := S7.nilrow cdTm; clear S7
    refine ws_loopE (fun mx_ ax_ wx_ => ∃ (i : Nat) (sg : Int) (acc : List Tm) (vro : Value) (M6 : Hp), M5.le M6 ∧ mx_ = (spw (rst s)).length - i ∧ Env 57 [(0, .string (sB s)), (4, vro), (5, .int .i64 sg), (23, .slice A1 (spw (rst s)).length c1), (24, .int .i64 ((spw (rst s)).length : Int)), (25, .int .i64 (i : Int))] ax_ ∧ SH wx_ M6 X [Rs.row cdTm vro acc] ∧ i ≤ (spw (rst s)).length ∧ (sg = 1 ∨ sg = -1) ∧ sg = rdS (spw (rst s)) (sg0 s) i ∧ acc = rdO (spw (rst s)) (sg0 s) i ∧ acc.length ≤ i) rfl ?_ ?_
    ·intro ax_ hax_
     refine ⟨_, ⟨0, (sg0 s), _, _, _, Hp.le_refl _, rfl, hax_.sub ⟨rfl, rfl, rfl, rfl, rfl, rfl, trivial⟩, S8.pick [0] [_] (by decide) ⟨rfl, trivial⟩, ?hq1f0, ?hq1f1, ?hq1f2, ?hq1f3, ?hq1f4⟩⟩
     case hq1f0 => omega
     case hq1f1 => exact hsg0
     case hq1f2 => rfl
     case hq1f3 => rfl
     case hq1f4 => (show 0 ≤ _; omega)
    ·rintro m1 a1 w8 ⟨i, sg, acc, vro, M6, hle6, rfl, he1, S9, hi, hs1, hsg, hac, hal⟩
     clear S8
     refine ws_in he1 (c := Read_n36) rfl ?_
     clear he1 a1
     replace hlb := hlb.mono (Hp.un_mono hle6 S9.mx)
     replace hr1 := hr1.mono hle6
     have hwl := fun h => spw_gal (rst s) (i := i) h
     refine ws_seqN Read_n37 Read_n38 rfl rfl rfl ?_
     refine ws_region rfl ?_
     refine wlo 0 1 rfl rfl rfl (wo_run rfl rfl (run_lss rfl rfl rfl) ?_)
     refine wl_end rfl ?_
     refine nm_thn ?_
     refine ws_seqN Read_n39 Read_n40 rfl rfl rfl ?_
     refine ws_condN Read_n41 Read_n42 rfl rfl rfl rfl (fun hb26 => ?_) (fun hb26 => ?_)
     ·replace hb26 := of_decide_eq_true hb26
      refine ws_skip rfl ?_
      refine nm_sub [(0, _), (4, _), (5, _), (23, _), (24, _), (25, _)] ⟨rfl, rfl, rfl, rfl, rfl, rfl, trivial⟩ ?_
      refine nm_thn ?_
      refine ws_seqN Read_n43 Read_n44 rfl rfl rfl ?_
      refine ws_blockN Read_n45 1 rfl rfl rfl ?_
      refine ws_seqN Read_n46 Read_n47 rfl rfl rfl ?_
      refine ws_region rfl ?_
      refine wlm 0 1 rfl rfl rfl rfl rfl rfl rfl ?_
      refine wlo 1 2 rfl rfl rfl (wo_run rfl rfl (run_indexM (C := cdStr) i rfl rfl rfl sl35 (by first | rfl | omega) hr1 (by first | omega | (simp only [lens]; omega))) ?_)
      refine wlo 2 3 rfl rfl rfl (wo_run rfl rfl (run_load1 rfl rfl Tryd.underlying9 rfl (hr1.cell S9.m (i := i) (by first | omega | (simp only [lens]; omega)) 0 rfl rfl)) ?_)
      refine wla 3 4 rfl rfl rfl rfl rfl rfl rfl ?_
      refine wla 4 5 rfl rfl rfl rfl rfl rfl rfl ?_
      refine wl_end rfl ?_
      refine nm_sub [(0, _), (4, _), (5, _), (23, _), (24, _), (25, _), (8, _), (9, _)] ⟨rfl, rfl, rfl, rfl, rfl, rfl, rfl, rfl, trivial⟩ ?_
      refine nm_thn ?_
      refine ws_seqN Read_n48 Read_n49 rfl rfl rfl ?_
      refine ws_seqN Read_n50 Read_n51 rfl rfl rfl ?_
      refine ws_region rfl ?_
      refine wlm 0 1 rfl rfl rfl rfl rfl rfl rfl ?_
      refine wlo 1 2 rfl rfl rfl (wo_run rfl rfl (run_rem rfl rfl rfl (by first | omega | (simp only [lens]; omega))) ?_)
      refine wlo 2 3 rfl rfl rfl (wo_run rfl rfl (run_eql rfl rfl rfl) ?_)
      refine wl_end rfl ?_
      refine nm_sub [(0, _), (4, _), (5, _), (23, _), (24, _), (25, _), (9, _), (32, _)] ⟨rfl, rfl, rfl, rfl, rfl, rfl, rfl, rfl, trivial⟩ ?_
      refine nm_thn ?_
      refine ws_condN Read_n52 Read_n53 rfl rfl rfl rfl (fun hb32 => ?_) (fun hb32 => ?_)
      ·replace hb32 := of_decide_eq_true hb32
       refine ws_seqN Read_n54 Read_n55 rfl rfl rfl ?_
       refine ws_region rfl ?_
       refine wla 0 1 rfl rfl rfl rfl rfl rfl rfl ?_
       refine wl_end rfl ?_
       refine nm_sub [(0, _), (4, _), (5, _), (23, _), (24, _), (25, _), (9, _)] ⟨rfl, rfl, rfl, rfl, rfl, rfl, rfl, trivial⟩ ?_
       refine nm_thn ?_
       refine ws_seqN Read_n56 Read_n57 rfl rfl rfl ?_
       refine ws_seqN Read_n58 Read_n59 rfl rfl rfl ?_
       refine ws_region rfl ?_
       refine wlm 0 1 rfl rfl rfl rfl rfl rfl rfl ?_
       refine wlo 1 2 rfl rfl rfl (wo_run rfl rfl (run_eqlD rfl rfl rfl) ?_)
       refine wl_end rfl ?_
       refine nm_sub [(0, _), (4, _), (5, _), (23, _), (24, _), (25, _), (34, _)] ⟨rfl, rfl, rfl, rfl, rfl, rfl, rfl, trivial⟩ ?_
       refine nm_thn ?_
       refine ws_condN Read_n60 Read_n61 rfl rfl rfl rfl (fun hb34 => ?_) (fun hb34 => ?_)
       ·replace hb34 := of_decide_eq_true hb34
        refine ws_region rfl ?_
        refine wla 0 1 rfl rfl rfl rfl rfl rfl rfl ?_
        refine wl_end rfl ?_
        refine nm_sub [(0, _), (4, _), (5, _), (23, _), (24, _), (25, _)] ⟨rfl, rfl, rfl, rfl, rfl, rfl, trivial⟩ ?_
        refine nm_thn ?_
        refine ws_exit rfl rfl ?_
        refine nm_thn ?_
        refine ws_region rfl ?_
        refine wlo 0 1 rfl rfl rfl (wo_run rfl rfl (run_add rfl rfl rfl (by first | omega | (simp only [lens]; omega))) ?_)
        refine wlm 1 2 rfl rfl rfl rfl rfl rfl rfl ?_
        refine wl_end rfl ?_
        refine nm_lp ?_
        intro ax_ hax_
        refine ⟨_, ?hq2m, ⟨i + 1, (-1), _, _, _, (hle6), rfl, hax_.sub ⟨rfl, rfl, rfl, rfl, rfl, rfl, trivial⟩, S9.pick [0] [_] (by decide) ⟨rfl, trivial⟩, ?hq2f0, ?hq2f1, ?hq2f2, ?hq2f3, ?hq2f4⟩⟩
        case hq2f0 => omega
        case hq2f1 => first | exact hs1 | omega
        case hq2f2 => (rw [rdS]; first | (rw [if_pos (by omega)]; first | (rw [if_pos (by assumption)]; done) | (rw [if_neg (by assumption)]; done)) | (rw [if_neg (by omega)]; exact hsg))
        case hq2f3 => (rw [rdO]; first | (rw [if_pos (by omega)]; exact hac) | (rw [if_neg (by omega), ← hac, ← hsg]))
        case hq2f4 => first | omega | (rw [List.length_append]; simp only [List.length_cons, List.length_nil]; omega)
        case hq2m => omega
       ·replace hb34 := of_decide_eq_false hb34
        refine ws_skip rfl ?_
        refine nm_sub [(0, _), (4, _), (5, _), (23, _), (24, _), (25, _)] ⟨rfl, rfl, rfl, rfl, rfl, rfl, trivial⟩ ?_
        refine nm_thn ?_
        refine ws_exit rfl rfl ?_
        refine nm_thn ?_
        refine ws_region rfl ?_
        refine wlo 0 1 rfl rfl rfl (wo_run rfl rfl (run_add rfl rfl rfl (by first | omega | (simp only [lens]; omega))) ?_)
        refine wlm 1 2 rfl rfl rfl rfl rfl rfl rfl ?_
        refine wl_end rfl ?_
        refine nm_lp ?_
        intro ax_ hax_
        refine ⟨_, ?hq3m, ⟨i + 1, 1, _, _, _, (hle6), rfl, hax_.sub ⟨rfl, rfl, rfl, rfl, rfl, rfl, trivial⟩, S9.pick [0] [_] (by decide) ⟨rfl, trivial⟩, ?hq3f0, ?hq3f1, ?hq3f2, ?hq3f3, ?hq3f4⟩⟩
        case hq3f0 => omega
        case hq3f1 => first | exact hs1 | omega
        case hq3f2 => (rw [rdS]; first | (rw [if_pos (by omega)]; first | (rw [if_pos (by assumption)]; done) | (rw [if_neg (by assumption)]; done)) | (rw [if_neg (by omega)]; exact hsg))
        case hq3f3 => (rw [rdO]; first | (rw [if_pos (by omega)]; exact hac) | (rw [if_neg (by omega), ← hac, ← hsg]))
        case hq3f4 => first | omega | (rw [List.length_append]; simp only [List.length_cons, List.length_nil]; omega)
        case hq3m => omega
      ·replace hb32 := of_decide_eq_false hb32
       refine ws_skip rfl ?_
       refine nm_sub [(0, _), (4, _), (5, _), (23, _), (24, _), (25, _), (9, _)] ⟨rfl, rfl, rfl, rfl, rfl, rfl, rfl, trivial⟩ ?_
       refine nm_thn ?_
       refine ws_seqN Read_n62 Read_n63 rfl rfl rfl ?_
       refine ws_region rfl ?_
       refine wlm 0 1 rfl rfl rfl rfl rfl rfl rfl ?_
       refine wlo 1 2 rfl rfl rfl (wo_ct rfl rfl rfl rfl rfl rfl rfl cf13 S9 (term_t (ga (spw (rst s)) i) (by omega) (hlb.mono S9.un_XH) S9.lend) ?_)
       intro vw9 w9 M7 hle7 S10 hRw9; clear S9
       replace hlb := hlb.mono (Hp.un_mono hle7 S10.mx)
       replace hr1 := hr1.mono hle7
       obtain rfl := hRw9
       have hab36 := termP_bd (ga (spw (rst s)) i)
       refine wlo 2 3 rfl rfl rfl (wo_alloc (l := [_, _]) rfl rfl rfl zr38 rfl S10 ?_)
       intro gb1 w10 S11; clear S10
       refine wlo 3 4 rfl rfl rfl (wo_storeB (i := 0) (us := [_, _]) (l' := [_, _]) (H' := [_, _]) rfl rfl S11 rfl rfl rfl rfl sz38 rfl rfl rfl rfl ?_)
       intro w11 S12; clear S11
       refine wl_end rfl ?_
       refine nm_sub [(0, _), (4, _), (5, _), (23, _), (24, _), (25, _), (10, _)] ⟨rfl, rfl, rfl, rfl, rfl, rfl, rfl, trivial⟩ ?_
       refine nm_thn ?_
       refine ws_seqN Read_n64 Read_n65 rfl rfl rfl ?_
       refine ws_region rfl ?_
       refine wlo 0 1 rfl rfl rfl (wo_run rfl rfl (run_fieldAddr rfl rfl Tryd.underlying38 rfl (ce3) (nf3)) ?_)
       refine wlo 1 2 rfl rfl rfl (wo_run rfl rfl (run_load1 rfl rfl Tryd.underlying3 rfl (S12.boxc (i := 0) rfl rfl)) ?_)
       refine wlm 2 3 rfl rfl rfl rfl rfl rfl rfl ?_
       refine wlo 3 4 rfl rfl rfl (wo_run rfl rfl (run_mulW rfl rfl rfl) ?_)
       refine wlo 4 5 rfl rfl rfl (wo_run rfl rfl (run_fieldAddr rfl rfl Tryd.underlying38 rfl (ce3) (nf3)) ?_)
       refine wlo 5 6 rfl rfl rfl (wo_storeB (i := 0) (us := [_]) (l' := [_, _]) (H' := [_, _]) rfl rfl S12 rfl rfl rfl rfl sz3 rfl rfl rfl rfl ?_)
       intro w12 S13; clear S12
       refine wl_end rfl ?_
       refine nm_sub [(0, _), (4, _), (5, _), (23, _), (24, _), (25, _), (10, _)] ⟨rfl, rfl, rfl, rfl, rfl, rfl, rfl, trivial⟩ ?_
       refine nm_thn ?_
       refine ws_region rfl ?_
       refine wlm 0 1 rfl rfl rfl rfl rfl rfl rfl ?_
       refine wlo 1 2 rfl rfl rfl (wo_run rfl rfl (run_loadN (us := [_, _]) rfl rfl Tryd.underlying38 rfl sz38 (S13.boxcs (i := 0) rfl ⟨rfl, rfl, trivial⟩)) ?_)
       refine wlo 2 3 rfl rfl rfl (wo_buildSlice1 (C := cdTm) (l := [_, _]) rfl rfl rfl rfl sl22 rfl rfl rfl rfl S13 ?_)
       intro gb2 w13 S14; clear S13
       refine wlo 3 4 rfl rfl rfl (wo_append1 (C := cdTm) (i := 2) (q := 0) (⟨(termP (ga (spw (rst s)) i)).e, wr (((termP (ga (spw (rst s)) i)).c) * sg)⟩ : Tm) rfl rfl rfl rfl rfl rfl rfl rfl sl22 S14 rfl rfl rfl (by show (_ + 1) * 16 ≤ _; first | omega | (simp only [lens]; omega)) ?_)
       intro vro1 w14 S15; clear S14
       have S16 := S15.pick [1, 2] [_, _] (by decide) ⟨rfl, rfl, trivial⟩; clear S15
       refine wla 4 5 rfl rfl rfl rfl rfl rfl rfl ?_
       refine wl_end rfl ?_
       refine nm_blk ?_
       refine nm_sub [(0, _), (4, _), (5, _), (23, _), (24, _), (25, _)] ⟨rfl, rfl, rfl, rfl, rfl, rfl, trivial⟩ ?_
       refine nm_thn ?_
       refine ws_region rfl ?_
       refine wlo 0 1 rfl rfl rfl (wo_run rfl rfl (run_add rfl rfl rfl (by first | omega | (simp only [lens]; omega))) ?_)
       refine wlm 1 2 rfl rfl rfl rfl rfl rfl rfl ?_
       refine wl_end rfl ?_
       refine nm_lp ?_
       intro ax_ hax_
       refine ⟨_, ?hq4m, ⟨i + 1, sg, _, _, _, (hle6.trans hle7), rfl, hax_.sub ⟨rfl, rfl, rfl, rfl, rfl, rfl, trivial⟩, S16.pick [1] [_] (by decide) ⟨rfl, trivial⟩, ?hq4f0, ?hq4f1, ?hq4f2, ?hq4f3, ?hq4f4⟩⟩
       case hq4f0 => omega
       case hq4f1 => first | exact hs1 | omega
       case hq4f2 => (rw [rdS]; first | (rw [if_pos (by omega)]; first | (rw [if_pos (by assumption)]; done) | (rw [if_neg (by assumption)]; done)) | (rw [if_neg (by omega)]; exact hsg))
       case hq4f3 => (rw [rdO]; first | (rw [if_pos (by omega)]; exact hac) | (rw [if_neg (by omega), ← hac, ← hsg]))
       case hq4f4 => first | omega | (rw [List.length_append]; simp only [List.length_cons, List.length_nil]; omega)
       case hq4m => omega
     ·replace hb26 := of_decide_eq_false hb26
      refine ws_exit rfl rfl ?_
      refine nm_sub [(0, _), (4, _)] ⟨rfl, rfl, trivial⟩ ?_
      refine nm_thn ?_
      refine ws_seqN Read_n66 Read_n67 rfl rfl rfl ?_
      refine ws_seqN Read_n68 Read_n69 rfl rfl rfl ?_
      refine ws_region rfl ?_
      refine wlm 0 1 rfl rfl rfl rfl rfl rfl rfl ?_
      obtain ⟨A2, c2, e1, hr2⟩ := S9.lendRd (i := 0) rfl (by show _ * 16 ≤ _; first | omega | (simp only [lens]; omega))
      have hcall1 := May_q acc hr2 S9.lend
      refine wlo 1 2 rfl rfl rfl (wo_cq rfl rfl rfl rfl rfl rfl rfl cf14 S9 (Cq.cast (by simp only [e1]) (hcall1)) ?_)
      rintro _ w15 S17 rfl; clear S9
      refine wlo 2 3 rfl rfl rfl (wo_run rfl rfl (run_not rfl rfl) ?_)
      refine wlm 3 4 rfl rfl rfl rfl rfl rfl rfl ?_
      refine wl_split (t := 50) rfl (fun hg50 => ?_) (fun hg50 => ?_)
      ·simp only [Bool.and_eq_true, Bool.or_eq_true, Bool.and_eq_false_iff, Bool.or_eq_false_iff, decide_eq_true_eq, decide_eq_false_iff_not, Bool.not_eq_true', Bool.not_eq_false'] at hg50
       refine wl_no (k := 4) (k' := 5) (d := 51) rfl rfl ⟨_, _, _, rfl, rfl, rfl, rfl⟩ rfl rfl ?_
       refine wl_no (k := 5) (k' := 6) (d := 52) rfl rfl ⟨_, _, _, rfl, rfl, rfl, rfl⟩ rfl rfl ?_
       refine wl_no (k := 6) (k' := 7) (d := 53) rfl rfl ⟨_, _, _, rfl, rfl, rfl, rfl⟩ rfl rfl ?_
       refine wl_no (k := 7) (k' := 8) (d := 54) rfl rfl ⟨_, _, _, rfl, rfl, rfl, rfl⟩ rfl rfl ?_
       refine wlo 8 9 rfl rfl rfl (wo_run rfl rfl (run_pickT rfl rfl rfl) ?_)
       refine wl_end rfl ?_
       refine nm_sub [(4, _), (55, _)] ⟨rfl, rfl, trivial⟩ ?_
       refine nm_thn ?_
       refine ws_condTN Read_n70 rfl rfl rfl ?_
       refine ws_seqN Read_n72 Read_n73 rfl rfl rfl ?_
       refine ws_region rfl ?_
       refine wla 0 1 rfl rfl rfl rfl rfl rfl rfl ?_
       refine wla 1 2 rfl rfl rfl rfl rfl rfl rfl ?_
       refine wl_end rfl ?_
       refine nm_sub [(2, _), (3, _)] ⟨rfl, rfl, trivial⟩ ?_
       refine nm_thn ?_
       refine ws_ret hC [_, _] rfl rfl ⟨rfl, rfl, trivial⟩ ?_
       refine ⟨_, rfl, _, hle5.trans hle6, (S17.pick [] [] (by decide) trivial), ?_⟩
       refine TE.of (p := ([], 1)) ⟨_, _, rfl, RdA.nil_⟩ ?_
       unfold pieceR
       rw [if_neg (by omega), if_neg (by assumption)]
       have hie : i = (spw (rst s)).length := by omega
       rw [hie] at hac
       have hpr : progR s = acc := by rw [hac]; rfl
       rw [hpr]
       unfold endR
       rw [if_neg (by rintro ⟨h1, h2⟩; first | (simp_all; done) | contradiction)]
      ·simp only [Bool.and_eq_true, Bool.or_eq_true, Bool.and_eq_false_iff, Bool.or_eq_false_iff, decide_eq_true_eq, decide_eq_false_iff_not, Bool.not_eq_true', Bool.not_eq_false'] at hg50
       have hm9 : mayT acc = true := by simpa using hg50
       obtain ⟨hal9, hok9⟩ := mayT_may hm9
       refine wl_opG (k := 4) (k' := 5) rfl rfl ⟨_, _, _, rfl, rfl, rfl, rfl⟩ rfl (wo_run rfl rfl (run_move rfl rfl) ?_)
       obtain ⟨A3, c3, e2, hr3⟩ := S17.lendRd (i := 0) rfl (by show _ * 16 ≤ _; first | omega | (simp only [lens]; omega))
       have hcall2 := text_q acc hr3 hok9 hal9 (hlb.mono S17.un_XH).tb S17.lend
       refine wl_opG (k := 5) (k' := 6) rfl rfl ⟨_, _, _, rfl, rfl, rfl, rfl⟩ rfl (wo_cq rfl rfl rfl rfl rfl rfl rfl cf15 S17 (Cq.cast (by simp only [e2]) (hcall2)) ?_)
       rintro _ w16 S18 rfl; clear S17
       refine wl_opG (k := 6) (k' := 7) rfl rfl ⟨_, _, _, rfl, rfl, rfl, rfl⟩ rfl (wo_run rfl rfl (run_move rfl rfl) ?_)
       refine wl_opG (k := 7) (k' := 8) rfl rfl ⟨_, _, _, rfl, rfl, rfl, rfl⟩ rfl (wo_run rfl rfl (run_neqD rfl rfl rfl) ?_)
       refine wlo 8 9 rfl rfl rfl (wo_run rfl rfl (run_pickF rfl rfl rfl) ?_)
       refine wl_end rfl ?_
       refine nm_sub [(4, _), (55, _)] ⟨rfl, rfl, trivial⟩ ?_
       refine nm_thn ?_
       refine ws_condN Read_n70 Read_n71 rfl rfl rfl rfl (fun hb55 => ?_) (fun hb55 => ?_)
       ·replace hb55 := of_decide_eq_true hb55
        refine ws_seqN Read_n72 Read_n73 rfl rfl rfl ?_
        refine ws_region rfl ?_
        refine wla 0 1 rfl rfl rfl rfl rfl rfl rfl ?_
        refine wla 1 2 rfl rfl rfl rfl rfl rfl rfl ?_
        refine wl_end rfl ?_
        refine nm_sub [(2, _), (3, _)] ⟨rfl, rfl, trivial⟩ ?_
        refine nm_thn ?_
        refine ws_ret hC [_, _] rfl rfl ⟨rfl, rfl, trivial⟩ ?_
        refine ⟨_, rfl, _, hle5.trans hle6, (S18.pick [] [] (by decide) trivial), ?_⟩
        refine TE.of (p := ([], 1)) ⟨_, _, rfl, RdA.nil_⟩ ?_
        unfold pieceR
        rw [if_neg (by omega), if_neg (by assumption)]
        have hie : i = (spw (rst s)).length := by omega
        rw [hie] at hac
        have hpr : progR s = acc := by rw [hac]; rfl
        rw [hpr]
        unfold endR
        rw [if_neg (by rintro ⟨h1, h2⟩; first | (simp_all; done) | contradiction)]
       ·replace hb55 := of_decide_eq_false hb55
        refine ws_skip rfl ?_
        refine nm_sub [(4, _)] ⟨rfl, trivial⟩ ?_
        refine nm_thn ?_
        refine ws_seqN Read_n74 Read_n75 rfl rfl rfl ?_
        refine ws_region rfl ?_
        refine wlm 0 1 rfl rfl rfl rfl rfl rfl rfl ?_
        refine wla 1 2 rfl rfl rfl rfl rfl rfl rfl ?_
        refine wla 2 3 rfl rfl rfl rfl rfl rfl rfl ?_
        refine wl_end rfl ?_
        refine nm_sub [(2, _), (3, _)] ⟨rfl, rfl, trivial⟩ ?_
        refine nm_thn ?_
        obtain ⟨M8, hle8, S19, ⟨A4, c4, e3, hr4⟩⟩ := S18.pubrow (i := 0) (H' := [_]) rfl rfl (by show _ * 16 ≤ _; first | omega | (simp only [lens]; omega))
        clear S18; subst e3
        replace hlb := hlb.mono (Hp.un_mono hle8 S19.mx)
        replace hr1 := hr1.mono hle8
        refine ws_ret hC [_, _] rfl rfl ⟨rfl, rfl, trivial⟩ ?_
        refine ⟨_, rfl, _, (hle5.trans hle6).trans hle8, (S19.pick [] [] (by decide) trivial), ?_⟩
        refine TE.of (p := (acc, 0)) ⟨_, _, rfl, hr4⟩ ?_
        unfold pieceR
        rw [if_neg (by omega), if_neg (by assumption)]
        have hie : i = (spw (rst s)).length := by omega
        rw [hie] at hac
        have hpr : progR s = acc := by rw [hac]; rfl
        rw [hpr]
        unfold endR
        rw [if_pos ⟨hm9, by first | assumption | (simp_all; done)⟩]
   ·refine ws_skip rfl ?_
    refine nm_sub [(0, _), (4, _), (5, _), (6, _)] ⟨rfl, rfl, rfl, rfl, trivial⟩ ?_
    refine nm_thn ?_
    refine ws_seqN Read_n29 Read_n30 rfl rfl rfl ?_
    refine ws_eq 6 (.string (sB (rst s))) rfl (congrArg (fun z => Value.string (sB z)) (by unfold rst; first | rw [if_pos hb18] | rw [if_neg (by rw [hb18]; decide)])) ?_
    refine ws_eq 5 (.int .i64 (sg0 s)) rfl (int_eq (by unfold sg0; first | rw [if_pos hb18] | rw [if_neg (by rw [hb18]; decide)])) ?_
    have hrl := rst_len s
    refine ws_region rfl ?_
    refine wlm 0 1 rfl rfl rfl rfl rfl rfl rfl ?_
    refine wlo 1 2 rfl rfl rfl (wo_ct rfl rfl rfl rfl rfl rfl rfl cf12 S1 (split_t (rst s) ([32] : List UInt8) (by omega) (by decide) (hlb.mono S1.un_XH) S1.lend) ?_)
    intro vw17 w17 M9 hle9 S20 hRw17; clear S1
    replace hlb := hlb.mono (Hp.un_mono hle9 S20.mx)
    rw [split_spw] at hRw17
    obtain ⟨A5, c5, rfl, hr5⟩ := hRw17
    have hspl : (spw (rst s)).length * 16 ≤ 140737488355328 := hr5.room
    have hsg0 : sg0 s = 1 ∨ sg0 s = -1 := by unfold sg0; split <;> omega
    refine wla 2 3 rfl rfl rfl rfl rfl rfl rfl ?_
    refine wl_end rfl ?_
    refine nm_sub [(0, _), (4, _), (5, _), (7, _)] ⟨rfl, rfl, rfl, rfl, trivial⟩ ?_
    refine nm_thn ?_
    refine ws_seqN Read_n31 Read_n32 rfl rfl rfl ?_
    refine ws_seqN Read_n33 Read_n34 rfl rfl rfl ?_
    refine ws_region rfl ?_
    refine wlm 0 1 rfl rfl rfl rfl rfl rfl rfl ?_
    refine wlo 1 2 rfl rfl rfl (wo_run rfl rfl (run_len rfl rfl rfl rfl rfl rfl Tryd.underlying35) ?_)
    refine wlm 2 3 rfl rfl rfl rfl rfl rfl rfl ?_
    refine wl_end rfl ?_
    refine nm_sub [(0, _), (4, _), (5, _), (23, _), (24, _), (25, _)] ⟨rfl, rfl, rfl, rfl, rfl, rfl, trivial⟩ ?_
    refine nm_thn ?_
    refine ws_blockN Read_n35 0 rfl rfl rfl ?_
    have S21 := S20.nilrow cdTm; clear S20
    refine ws_loopE (fun mx_ ax_ wx_ => ∃ (i : Nat) (sg : Int) (acc : List Tm) (vro : Value) (M10 : Hp), M9.le M10 ∧ mx_ = (spw (rst s)).length - i ∧ Env 57 [(0, .string (sB s)), (4, vro), (5, .int .i64 sg), (23, .slice A5 (spw (rst s)).length c5), (24, .int .i64 ((spw (rst s)).length : Int)), (25, .int .i64 (i : Int))] ax_ ∧ SH wx_ M10 X [Rs.row cdTm vro acc] ∧ i ≤ (spw (rst s)).length ∧ (sg = 1 ∨ sg = -1) ∧ sg = rdS (spw (rst s)) (sg0 s) i ∧ acc = rdO (spw (rst s)) (sg0 s) i ∧ acc.length ≤ i) rfl ?_ ?_
    ·intro ax_ hax_
     refine ⟨_, ⟨0, (sg0 s), _, _, _, Hp.le_refl _, rfl, hax_.sub ⟨rfl, rfl, rfl, rfl, rfl, rfl, trivial⟩, S21.pick [0] [_] (by decide) ⟨rfl, trivial⟩, ?hq5f0, ?hq5f1, ?hq5f2, ?hq5f3, ?hq5f4⟩⟩
     case hq5f0 => omega
     case hq5f1 => exact hsg0
     case hq5f2 => rfl
     case hq5f3 => rfl
     case hq5f4 => (show 0 ≤ _; omega)
    ·rintro m2 a2 w18 ⟨i, sg, acc, vro, M10, hle10, rfl, he2, S22, hi, hs1, hsg, hac, hal⟩
     clear S21
     refine ws_in he2 (c := Read_n36) rfl ?_
     clear he2 a2
     replace hlb := hlb.mono (Hp.un_mono hle10 S22.mx)
     replace hr5 := hr5.mono hle10
     have hwl := fun h => spw_gal (rst s) (i := i) h
     refine ws_seqN Read_n37 Read_n38 rfl rfl rfl ?_
     refine ws_region rfl ?_
     refine wlo 0 1 rfl rfl rfl (wo_run rfl rfl (run_lss rfl rfl rfl) ?_)
     refine wl_end rfl ?_
     refine nm_thn ?_
     refine ws_seqN Read_n39 Read_n40 rfl rfl rfl ?_
     refine ws_condN Read_n41 Read_n42 rfl rfl rfl rfl (fun hb26 => ?_) (fun hb26 => ?_)
     ·replace hb26 := of_decide_eq_true hb26
      refine ws_skip rfl ?_
      refine nm_sub [(0, _), (4, _), (5, _), (23, _), (24, _), (25, _)] ⟨rfl, rfl, rfl, rfl, rfl, rfl, trivial⟩ ?_
      refine nm_thn ?_
      refine ws_seqN Read_n43 Read_n44 rfl rfl rfl ?_
      refine ws_blockN Read_n45 1 rfl rfl rfl ?_
      refine ws_seqN Read_n46 Read_n47 rfl rfl rfl ?_
      refine ws_region rfl ?_
      refine wlm 0 1 rfl rfl rfl rfl rfl rfl rfl ?_
      refine wlo 1 2 rfl rfl rfl (wo_run rfl rfl (run_indexM (C := cdStr) i rfl rfl rfl sl35 (by first | rfl | omega) hr5 (by first | omega | (simp only [lens]; omega))) ?_)
      refine wlo 2 3 rfl rfl rfl (wo_run rfl rfl (run_load1 rfl rfl Tryd.underlying9 rfl (hr5.cell S22.m (i := i) (by first | omega | (simp only [lens]; omega)) 0 rfl rfl)) ?_)
      refine wla 3 4 rfl rfl rfl rfl rfl rfl rfl ?_
      refine wla 4 5 rfl rfl rfl rfl rfl rfl rfl ?_
      refine wl_end rfl ?_
      refine nm_sub [(0, _), (4, _), (5, _), (23, _), (24, _), (25, _), (8, _), (9, _)] ⟨rfl, rfl, rfl, rfl, rfl, rfl, rfl, rfl, trivial⟩ ?_
      refine nm_thn ?_
      refine ws_seqN Read_n48 Read_n49 rfl rfl rfl ?_
      refine ws_seqN Read_n50 Read_n51 rfl rfl rfl ?_
      refine ws_region rfl ?_
      refine wlm 0 1 rfl rfl rfl rfl rfl rfl rfl ?_
      refine wlo 1 2 rfl rfl rfl (wo_run rfl rfl (run_rem rfl rfl rfl (by first | omega | (simp only [lens]; omega))) ?_)
      refine wlo 2 3 rfl rfl rfl (wo_run rfl rfl (run_eql rfl rfl rfl) ?_)
      refine wl_end rfl ?_
      refine nm_sub [(0, _), (4, _), (5, _), (23, _), (24, _), (25, _), (9, _), (32, _)] ⟨rfl, rfl, rfl, rfl, rfl, rfl, rfl, rfl, trivial⟩ ?_
      refine nm_thn ?_
      refine ws_condN Read_n52 Read_n53 rfl rfl rfl rfl (fun hb32 => ?_) (fun hb32 => ?_)
      ·replace hb32 := of_decide_eq_true hb32
       refine ws_seqN Read_n54 Read_n55 rfl rfl rfl ?_
       refine ws_region rfl ?_
       refine wla 0 1 rfl rfl rfl rfl rfl rfl rfl ?_
       refine wl_end rfl ?_
       refine nm_sub [(0, _), (4, _), (5, _), (23, _), (24, _), (25, _), (9, _)] ⟨rfl, rfl, rfl, rfl, rfl, rfl, rfl, trivial⟩ ?_
       refine nm_thn ?_
       refine ws_seqN Read_n56 Read_n57 rfl rfl rfl ?_
       refine ws_seqN Read_n58 Read_n59 rfl rfl rfl ?_
       refine ws_region rfl ?_
       refine wlm 0 1 rfl rfl rfl rfl rfl rfl rfl ?_
       refine wlo 1 2 rfl rfl rfl (wo_run rfl rfl (run_eqlD rfl rfl rfl) ?_)
       refine wl_end rfl ?_
       refine nm_sub [(0, _), (4, _), (5, _), (23, _), (24, _), (25, _), (34, _)] ⟨rfl, rfl, rfl, rfl, rfl, rfl, rfl, trivial⟩ ?_
       refine nm_thn ?_
       refine ws_condN Read_n60 Read_n61 rfl rfl rfl rfl (fun hb34 => ?_) (fun hb34 => ?_)
       ·replace hb34 := of_decide_eq_true hb34
        refine ws_region rfl ?_
        refine wla 0 1 rfl rfl rfl rfl rfl rfl rfl ?_
        refine wl_end rfl ?_
        refine nm_sub [(0, _), (4, _), (5, _), (23, _), (24, _), (25, _)] ⟨rfl, rfl, rfl, rfl, rfl, rfl, trivial⟩ ?_
        refine nm_thn ?_
        refine ws_exit rfl rfl ?_
        refine nm_thn ?_
        refine ws_region rfl ?_
        refine wlo 0 1 rfl rfl rfl (wo_run rfl rfl (run_add rfl rfl rfl (by first | omega | (simp only [lens]; omega))) ?_)
        refine wlm 1 2 rfl rfl rfl rfl rfl rfl rfl ?_
        refine wl_end rfl ?_
        refine nm_lp ?_
        intro ax_ hax_
        refine ⟨_, ?hq6m, ⟨i + 1, (-1), _, _, _, (hle10), rfl, hax_.sub ⟨rfl, rfl, rfl, rfl, rfl, rfl, trivial⟩, S22.pick [0] [_] (by decide) ⟨rfl, trivial⟩, ?hq6f0, ?hq6f1, ?hq6f2, ?hq6f3, ?hq6f4⟩⟩
        case hq6f0 => omega
        case hq6f1 => first | exact hs1 | omega
        case hq6f2 => (rw [rdS]; first | (rw [if_pos (by omega)]; first | (rw [if_pos (by assumption)]; done) | (rw [if_neg (by assumption)]; done)) | (rw [if_neg (by omega)]; exact hsg))
        case hq6f3 => (rw [rdO]; first | (rw [if_pos (by omega)]; exact hac) | (rw [if_neg (by omega), ← hac, ← hsg]))
        case hq6f4 => first | omega | (rw [List.length_append]; simp only [List.length_cons, List.length_nil]; omega)
        case hq6m => omega
       ·replace hb34 := of_decide_eq_false hb34
        refine ws_skip rfl ?_
        refine nm_sub [(0, _), (4, _), (5, _), (23, _), (24, _), (25, _)] ⟨rfl, rfl, rfl, rfl, rfl, rfl, trivial⟩ ?_
        refine nm_thn ?_
        refine ws_exit rfl rfl ?_
        refine nm_thn ?_
        refine ws_region rfl ?_
        refine wlo 0 1 rfl rfl rfl (wo_run rfl rfl (run_add rfl rfl rfl (by first | omega | (simp only [lens]; omega))) ?_)
        refine wlm 1 2 rfl rfl rfl rfl rfl rfl rfl ?_
        refine wl_end rfl ?_
        refine nm_lp ?_
        intro ax_ hax_
        refine ⟨_, ?hq7m, ⟨i + 1, 1, _, _, _, (hle10), rfl, hax_.sub ⟨rfl, rfl, rfl, rfl, rfl, rfl, trivial⟩, S22.pick [0] [_] (by decide) ⟨rfl, trivial⟩, ?hq7f0, ?hq7f1, ?hq7f2, ?hq7f3, ?hq7f4⟩⟩
        case hq7f0 => omega
        case hq7f1 => first | exact hs1 | omega
        case hq7f2 => (rw [rdS]; first | (rw [if_pos (by omega)]; first | (rw [if_pos (by assumption)]; done) | (rw [if_neg (by assumption)]; done)) | (rw [if_neg (by omega)]; exact hsg))
        case hq7f3 => (rw [rdO]; first | (rw [if_pos (by omega)]; exact hac) | (rw [if_neg (by omega), ← hac, ← hsg]))
        case hq7f4 => first | omega | (rw [List.length_append]; simp only [List.length_cons, List.length_nil]; omega)
        case hq7m => omega
      ·replace hb32 := of_decide_eq_false hb32
       refine ws_skip rfl ?_
       refine nm_sub [(0, _), (4, _), (5, _), (23, _), (24, _), (25, _), (9, _)] ⟨rfl, rfl, rfl, rfl, rfl, rfl, rfl, trivial⟩ ?_
       refine nm_thn ?_
       refine ws_seqN Read_n62 Read_n63 rfl rfl rfl ?_
       refine ws_region rfl ?_
       refine wlm 0 1 rfl rfl rfl rfl rfl rfl rfl ?_
       refine wlo 1 2 rfl rfl rfl (wo_ct rfl rfl rfl rfl rfl rfl rfl cf13 S22 (term_t (ga (spw (rst s)) i) (by omega) (hlb.mono S22.un_XH) S22.lend) ?_)
       intro vw19 w19 M11 hle11 S23 hRw19; clear S22
       replace hlb := hlb.mono (Hp.un_mono hle11 S23.mx)
       replace hr5 := hr5.mono hle11
       obtain rfl := hRw19
       have hab36 := termP_bd (ga (spw (rst s)) i)
       refine wlo 2 3 rfl rfl rfl (wo_alloc (l := [_, _]) rfl rfl rfl zr38 rfl S23 ?_)
       intro gb3 w20 S24; clear S23
       refine wlo 3 4 rfl rfl rfl (wo_storeB (i := 0) (us := [_, _]) (l' := [_, _]) (H' := [_, _]) rfl rfl S24 rfl rfl rfl rfl sz38 rfl rfl rfl rfl ?_)
       intro w21 S25; clear S24
       refine wl_end rfl ?_
       refine nm_sub [(0, _), (4, _), (5, _), (23, _), (24, _), (25, _), (10, _)] ⟨rfl, rfl, rfl, rfl, rfl, rfl, rfl, trivial⟩ ?_
       refine nm_thn ?_
       refine ws_seqN Read_n64 Read_n65 rfl rfl rfl ?_
       refine ws_region rfl ?_
       refine wlo 0 1 rfl rfl rfl (wo_run rfl rfl (run_fieldAddr rfl rfl Tryd.underlying38 rfl (ce3) (nf3)) ?_)
       refine wlo 1 2 rfl rfl rfl (wo_run rfl rfl (run_load1 rfl rfl Tryd.underlying3 rfl (S25.boxc (i := 0) rfl rfl)) ?_)
       refine wlm 2 3 rfl rfl rfl rfl rfl rfl rfl ?_
       refine wlo 3 4 rfl rfl rfl (wo_run rfl rfl (run_mulW rfl rfl rfl) ?_)
       refine wlo 4 5 rfl rfl rfl (wo_run rfl rfl (run_fieldAddr rfl rfl Tryd.underlying38 rfl (ce3) (nf3)) ?_)
       refine wlo 5 6 rfl rfl rfl (wo_storeB (i := 0) (us := [_]) (l' := [_, _]) (H' := [_, _]) rfl rfl S25 rfl rfl rfl rfl sz3 rfl rfl rfl rfl ?_)
       intro w22 S26; clear S25
       refine wl_end rfl ?_
       refine nm_sub [(0, _), (4, _), (5, _), (23, _), (24, _), (25, _), (10, _)] ⟨rfl, rfl, rfl, rfl, rfl, rfl, rfl, trivial⟩ ?_
       refine nm_thn ?_
       refine ws_region rfl ?_
       refine wlm 0 1 rfl rfl rfl rfl rfl rfl rfl ?_
       refine wlo 1 2 rfl rfl rfl (wo_run rfl rfl (run_loadN (us := [_, _]) rfl rfl Tryd.underlying38 rfl sz38 (S26.boxcs (i := 0) rfl ⟨rfl, rfl, trivial⟩)) ?_)
       refine wlo 2 3 rfl rfl rfl (wo_buildSlice1 (C := cdTm) (l := [_, _]) rfl rfl rfl rfl sl22 rfl rfl rfl rfl S26 ?_)
       intro gb4 w23 S27; clear S26
       refine wlo 3 4 rfl rfl rfl (wo_append1 (C := cdTm) (i := 2) (q := 0) (⟨(termP (ga (spw (rst s)) i)).e, wr (((termP (ga (spw (rst s)) i)).c) * sg)⟩ : Tm) rfl rfl rfl rfl rfl rfl rfl rfl sl22 S27 rfl rfl rfl (by show (_ + 1) * 16 ≤ _; first | omega | (simp only [lens]; omega)) ?_)
       intro vro2 w24 S28; clear S27
       have S29 := S28.pick [1, 2] [_, _] (by decide) ⟨rfl, rfl, trivial⟩; clear S28
       refine wla 4 5 rfl rfl rfl rfl rfl rfl rfl ?_
       refine wl_end rfl ?_
       refine nm_blk ?_
       refine nm_sub [(0, _), (4, _), (5, _), (23, _), (24, _), (25, _)] ⟨rfl, rfl, rfl, rfl, rfl, rfl, trivial⟩ ?_
       refine nm_thn ?_
       refine ws_region rfl ?_
       refine wlo 0 1 rfl rfl rfl (wo_run rfl rfl (run_add rfl rfl rfl (by first | omega | (simp only [lens]; omega))) ?_)
       refine wlm 1 2 rfl rfl rfl rfl rfl rfl rfl ?_
       refine wl_end rfl ?_
       refine nm_lp ?_
       intro ax_ hax_
       refine ⟨_, ?hq8m, ⟨i + 1, sg, _, _, _, (hle10.trans hle11), rfl, hax_.sub ⟨rfl, rfl, rfl, rfl, rfl, rfl, trivial⟩, S29.pick [1] [_] (by decide) ⟨rfl, trivial⟩, ?hq8f0, ?hq8f1, ?hq8f2, ?hq8f3, ?hq8f4⟩⟩
       case hq8f0 => omega
       case hq8f1 => first | exact hs1 | omega
       case hq8f2 => (rw [rdS]; first | (rw [if_pos (by omega)]; first | (rw [if_pos (by assumption)]; done) | (rw [if_neg (by assumption)]; done)) | (rw [if_neg (by omega)]; exact hsg))
       case hq8f3 => (rw [rdO]; first | (rw [if_pos (by omega)]; exact hac) | (rw [if_neg (by omega), ← hac, ← hsg]))
       case hq8f4 => first | omega | (rw [List.length_append]; simp only [List.length_cons, List.length_nil]; omega)
       case hq8m => omega
     ·replace hb26 := of_decide_eq_false hb26
      refine ws_exit rfl rfl ?_
      refine nm_sub [(0, _), (4, _)] ⟨rfl, rfl, trivial⟩ ?_
      refine nm_thn ?_
      refine ws_seqN Read_n66 Read_n67 rfl rfl rfl ?_
      refine ws_seqN Read_n68 Read_n69 rfl rfl rfl ?_
      refine ws_region rfl ?_
      refine wlm 0 1 rfl rfl rfl rfl rfl rfl rfl ?_
      obtain ⟨A6, c6, e4, hr6⟩ := S22.lendRd (i := 0) rfl (by show _ * 16 ≤ _; first | omega | (simp only [lens]; omega))
      have hcall3 := May_q acc hr6 S22.lend
      refine wlo 1 2 rfl rfl rfl (wo_cq rfl rfl rfl rfl rfl rfl rfl cf14 S22 (Cq.cast (by simp only [e4]) (hcall3)) ?_)
      rintro _ w25 S30 rfl; clear S22
      refine wlo 2 3 rfl rfl rfl (wo_run rfl rfl (run_not rfl rfl) ?_)
      refine wlm 3 4 rfl rfl rfl rfl rfl rfl rfl ?_
      refine wl_split (t := 50) rfl (fun hg50 => ?_) (fun hg50 => ?_)
      ·simp only [Bool.and_eq_true, Bool.or_eq_true, Bool.and_eq_false_iff, Bool.or_eq_false_iff, decide_eq_true_eq, decide_eq_false_iff_not, Bool.not_eq_true', Bool.not_eq_false'] at hg50
       refine wl_no (k := 4) (k' := 5) (d := 51) rfl rfl ⟨_, _, _, rfl, rfl, rfl, rfl⟩ rfl rfl ?_
       refine wl_no (k := 5) (k' := 6) (d := 52) rfl rfl ⟨_, _, _, rfl, rfl, rfl, rfl⟩ rfl rfl ?_
       refine wl_no (k := 6) (k' := 7) (d := 53) rfl rfl ⟨_, _, _, rfl, rfl, rfl, rfl⟩ rfl rfl ?_
       refine wl_no (k := 7) (k' := 8) (d := 54) rfl rfl ⟨_, _, _, rfl, rfl, rfl, rfl⟩ rfl rfl ?_
       refine wlo 8 9 rfl rfl rfl (wo_run rfl rfl (run_pickT rfl rfl rfl) ?_)
       refine wl_end rfl ?_
       refine nm_sub [(4, _), (55, _)] ⟨rfl, rfl, trivial⟩ ?_
       refine nm_thn ?_
       refine ws_condTN Read_n70 rfl rfl rfl ?_
       refine ws_seqN Read_n72 Read_n73 rfl rfl rfl ?_
       refine ws_region rfl ?_
       refine wla 0 1 rfl rfl rfl rfl rfl rfl rfl ?_
       refine wla 1 2 rfl rfl rfl rfl rfl rfl rfl ?_
       refine wl_end rfl ?_
       refine nm_sub [(2, _), (3, _)] ⟨rfl, rfl, trivial⟩ ?_
       refine nm_thn ?_
       refine ws_ret hC [_, _] rfl rfl ⟨rfl, rfl, trivial⟩ ?_
       refine ⟨_, rfl, _, hle9.trans hle10, (S30.pick [] [] (by decide) trivial), ?_⟩
       refine TE.of (p := ([], 1)) ⟨_, _, rfl, RdA.nil_⟩ ?_
       unfold pieceR
       rw [if_neg (by omega), if_neg (by assumption)]
       have hie : i = (spw (rst s)).length := by omega
       rw [hie] at hac
       have hpr : progR s = acc := by rw [hac]; rfl
       rw [hpr]
       unfold endR
       rw [if_neg (by rintro ⟨h1, h2⟩; first | (simp_all; done) | contradiction)]
      ·simp only [Bool.and_eq_true, Bool.or_eq_true, Bool.and_eq_false_iff, Bool.or_eq_false_iff, decide_eq_true_eq, decide_eq_false_iff_not, Bool.not_eq_true', Bool.not_eq_false'] at hg50
       have hm9 : mayT acc = true := by simpa using hg50
       obtain ⟨hal9, hok9⟩ := mayT_may hm9
       refine wl_opG (k := 4) (k' := 5) rfl rfl ⟨_, _, _, rfl, rfl, rfl, rfl⟩ rfl (wo_run rfl rfl (run_move rfl rfl) ?_)
       obtain ⟨A7, c7, e5, hr7⟩ := S30.lendRd (i := 0) rfl (by show _ * 16 ≤ _; first | omega | (simp only [lens]; omega))
       have hcall4 := text_q acc hr7 hok9 hal9 (hlb.mono S30.un_XH).tb S30.lend
       refine wl_opG (k := 5) (k' := 6) rfl rfl ⟨_, _, _, rfl, rfl, rfl, rfl⟩ rfl (wo_cq rfl rfl rfl rfl rfl rfl rfl cf15 S30 (Cq.cast (by simp only [e5]) (hcall4)) ?_)
       rintro _ w26 S31 rfl; clear S30
       refine wl_opG (k := 6) (k' := 7) rfl rfl ⟨_, _, _, rfl, rfl, rfl, rfl⟩ rfl (wo_run rfl rfl (run_move rfl rfl) ?_)
       refine wl_opG (k := 7) (k' := 8) rfl rfl ⟨_, _, _, rfl, rfl, rfl, rfl⟩ rfl (wo_run rfl rfl (run_neqD rfl rfl rfl) ?_)
       refine wlo 8 9 rfl rfl rfl (wo_run rfl rfl (run_pickF rfl rfl rfl) ?_)
       refine wl_end rfl ?_
       refine nm_sub [(4, _), (55, _)] ⟨rfl, rfl, trivial⟩ ?_
       refine nm_thn ?_
       refine ws_condN Read_n70 Read_n71 rfl rfl rfl rfl (fun hb55 => ?_) (fun hb55 => ?_)
       ·replace hb55 := of_decide_eq_true hb55
        refine ws_seqN Read_n72 Read_n73 rfl rfl rfl ?_
        refine ws_region rfl ?_
        refine wla 0 1 rfl rfl rfl rfl rfl rfl rfl ?_
        refine wla 1 2 rfl rfl rfl rfl rfl rfl rfl ?_
        refine wl_end rfl ?_
        refine nm_sub [(2, _), (3, _)] ⟨rfl, rfl, trivial⟩ ?_
        refine nm_thn ?_
        refine ws_ret hC [_, _] rfl rfl ⟨rfl, rfl, trivial⟩ ?_
        refine ⟨_, rfl, _, hle9.trans hle10, (S31.pick [] [] (by decide) trivial), ?_⟩
        refine TE.of (p := ([], 1)) ⟨_, _, rfl, RdA.nil_⟩ ?_
        unfold pieceR
        rw [if_neg (by omega), if_neg (by assumption)]
        have hie : i = (spw (rst s)).length := by omega
        rw [hie] at hac
        have hpr : progR s = acc := by rw [hac]; rfl
        rw [hpr]
        unfold endR
        rw [if_neg (by rintro ⟨h1, h2⟩; first | (simp_all; done) | contradiction)]
       ·replace hb55 := of_decide_eq_false hb55
        refine ws_skip rfl ?_
        refine nm_sub [(4, _)] ⟨rfl, trivial⟩ ?_
        refine nm_thn ?_
        refine ws_seqN Read_n74 Read_n75 rfl rfl rfl ?_
        refine ws_region rfl ?_
        refine wlm 0 1 rfl rfl rfl rfl rfl rfl rfl ?_
        refine wla 1 2 rfl rfl rfl rfl rfl rfl rfl ?_
        refine wla 2 3 rfl rfl rfl rfl rfl rfl rfl ?_
        refine wl_end rfl ?_
        refine nm_sub [(2, _), (3, _)] ⟨rfl, rfl, trivial⟩ ?_
        refine nm_thn ?_
        obtain ⟨M12, hle12, S32, ⟨A8, c8, e6, hr8⟩⟩ := S31.pubrow (i := 0) (H' := [_]) rfl rfl (by show _ * 16 ≤ _; first | omega | (simp only [lens]; omega))
        clear S31; subst e6
        replace hlb := hlb.mono (Hp.un_mono hle12 S32.mx)
        replace hr5 := hr5.mono hle12
        refine ws_ret hC [_, _] rfl rfl ⟨rfl, rfl, trivial⟩ ?_
        refine ⟨_, rfl, _, (hle9.trans hle10).trans hle12, (S32.pick [] [] (by decide) trivial), ?_⟩
        refine TE.of (p := (acc, 0)) ⟨_, _, rfl, hr8⟩ ?_
        unfold pieceR
        rw [if_neg (by omega), if_neg (by assumption)]
        have hie : i = (spw (rst s)).length := by omega
        rw [hie] at hac
        have hpr : progR s = acc := by rw [hac]; rfl
        rw [hpr]
        unfold endR
        rw [if_pos ⟨hm9, by first | assumption | (simp_all; done)⟩]
end Go.Proofs.YtklcecpjgingpaaDoor
namespace Go.Proofs.YtklcecpjgingpaaDoor
open Go.ChangeShapes Go.WideShapes Go.ChangeAt Go.RowKit
noncomputable def wholeAt_n0 : Code := Tryd.f16.body.getD .skip
noncomputable def wholeAt_n1 : Code := cL wholeAt_n0
noncomputable def wholeAt_n2 : Code := cR wholeAt_n0
noncomputable def wholeAt_n3 : Code := cL wholeAt_n2
noncomputable def wholeAt_n4 : Code := cR wholeAt_n2
noncomputable def wholeAt_n5 : Code := cL wholeAt_n4
noncomputable def wholeAt_n6 : Code := cR wholeAt_n4
noncomputable def wholeAt_n7 : Code := cL wholeAt_n6
noncomputable def wholeAt_n8 : Code := cR wholeAt_n6
noncomputable def wholeAt_n9 : Code := cL wholeAt_n7
noncomputable def wholeAt_n10 : Code := cL wholeAt_n9
noncomputable def wholeAt_n11 : Code := cL wholeAt_n10
noncomputable def wholeAt_n12 : Code := cR wholeAt_n10
noncomputable def wholeAt_n13 : Code := cL wholeAt_n11
noncomputable def wholeAt_n14 : Code := cR wholeAt_n11
noncomputable def wholeAt_n15 : Code := cL wholeAt_n14
noncomputable def wholeAt_n16 : Code := cR wholeAt_n14
noncomputable def wholeAt_n17 : Code := cL wholeAt_n12
noncomputable def wholeAt_n18 : Code := cL wholeAt_n17
noncomputable def wholeAt_n19 : Code := cR wholeAt_n17
noncomputable def wholeAt_n20 : Code := cL wholeAt_n8
noncomputable def wholeAt_n21 : Code := cR wholeAt_n8
set_option maxHeartbeats 1000000 in
set_option maxRecDepth 10000 in
theorem wholeAt_q {w : World} {M : Hp} {X : Fr} (s : List UInt8) (k : Nat) (hs : s.length ≤ 2000) (hk : k ≤ s.length) (S : SH w M X []) : Cq Tryd.prog 16 [.string (sB s), .int .i64 (k : Int)] w M X (fun u => u = .tuple [.int .i64 ((wh s k).1 : Int), .int .i64 ((wh s k).2 : Int)].toArray) := by
 unfold Cq
 refine calls_in (b := wholeAt_n0) Tryd.func16 rfl Tryd.ntmps16 rfl (fun C hC => ?_)
 refine ws_sub [(0, _), (1, _)] ⟨rfl, rfl, trivial⟩ ?_
 refine ws_seqN wholeAt_n1 wholeAt_n2 rfl rfl rfl ?_
 refine ws_region rfl ?_
 refine wla 0 1 rfl rfl rfl rfl rfl rfl rfl ?_
 refine wla 1 2 rfl rfl rfl rfl rfl rfl rfl ?_
 refine wl_end rfl ?_
 refine nm_sub [(0, _), (1, _)] ⟨rfl, rfl, trivial⟩ ?_
 refine nm_thn ?_
 refine ws_seqN wholeAt_n3 wholeAt_n4 rfl rfl rfl ?_
 refine ws_region rfl ?_
 refine wla 0 1 rfl rfl rfl rfl rfl rfl rfl ?_
 refine wl_end rfl ?_
 refine nm_thn ?_
 refine ws_seqN wholeAt_n5 wholeAt_n6 rfl rfl rfl ?_
 refine ws_region rfl ?_
 refine wlm 0 1 rfl rfl rfl rfl rfl rfl rfl ?_
 refine wla 1 2 rfl rfl rfl rfl rfl rfl rfl ?_
 refine wl_end rfl ?_
 refine nm_sub [(0, _), (1, _), (6, _), (7, _)] ⟨rfl, rfl, rfl, rfl, trivial⟩ ?_
 refine nm_thn ?_
 refine ws_seqN wholeAt_n7 wholeAt_n8 rfl rfl rfl ?_
 refine ws_blockN wholeAt_n9 0 rfl rfl rfl ?_
 refine ws_loopE (fun mx_ ax_ wx_ => ∃ (f : Nat) (i : Nat) (n : Nat), mx_ = k + 7 - i ∧ Env 43 [(0, .string (sB s)), (1, .int .i64 (k : Int)), (6, .int .i64 (n : Int)), (7, .int .i64 (i : Int))] ax_ ∧ SH wx_ M X [] ∧ i + f = k + 7 ∧ whA s f i n = wh s k ∧ (n + 1) * 10 ^ f ≤ 10000000 ∧ k ≤ i) rfl ?_ ?_
 ·intro ax_ hax_
  refine ⟨_, ⟨7, k, 0, rfl, hax_.sub ⟨rfl, rfl, rfl, rfl, trivial⟩, S.pick [] [] (by decide) trivial, ?hq1f0, ?hq1f1, ?hq1f2, ?hq1f3⟩⟩
  case hq1f0 => omega
  case hq1f1 => rfl
  case hq1f2 => decide
  case hq1f3 => omega
 ·rintro m1 a1 w1 ⟨f, i, n, rfl, he1, S1, hf, hwh, hpw, hki⟩
  clear S
  refine ws_in he1 (c := wholeAt_n10) rfl ?_
  clear he1 a1
  have hn9 := pow_lt hpw
  refine ws_seqN wholeAt_n11 wholeAt_n12 rfl rfl rfl ?_
  refine ws_seqN wholeAt_n13 wholeAt_n14 rfl rfl rfl ?_
  refine ws_region rfl ?_
  refine wlm 0 1 rfl rfl rfl rfl rfl rfl rfl ?_
  refine wlm 1 2 rfl rfl rfl rfl rfl rfl rfl ?_
  refine wlo 2 3 rfl rfl rfl (wo_run rfl rfl (run_lenS rfl rfl rfl rfl rfl rfl Tryd.underlying9) ?_)
  refine wlo 3 4 rfl rfl rfl (wo_run rfl rfl (run_lss rfl rfl rfl) ?_)
  refine wlm 4 5 rfl rfl rfl rfl rfl rfl rfl ?_
  refine wl_split (t := 13) rfl (fun hg13 => ?_) (fun hg13 => ?_)
  ·replace hg13 := of_decide_eq_true hg13
   refine wl_opG (k := 5) (k' := 6) rfl rfl ⟨_, _, _, rfl, rfl, rfl, rfl⟩ rfl (wo_run rfl rfl (run_move rfl rfl) ?_)
   refine wl_opG (k := 6) (k' := 7) rfl rfl ⟨_, _, _, rfl, rfl, rfl, rfl⟩ rfl (wo_run rfl rfl (run_move rfl rfl) ?_)
   refine wl_opG (k := 7) (k' := 8) rfl rfl ⟨_, _, _, rfl, rfl, rfl, rfl⟩ rfl (wo_run rfl rfl (run_add rfl rfl rfl (by first | omega | (simp only [lens]; omega))) ?_)
   refine wl_opG (k := 8) (k' := 9) rfl rfl ⟨_, _, _, rfl, rfl, rfl, rfl⟩ rfl (wo_run rfl rfl (run_lss rfl rfl rfl) ?_)
   refine wlo 9 10 rfl rfl rfl (wo_run rfl rfl (run_pickT rfl rfl rfl) ?_)
   refine wlm 10 11 rfl rfl rfl rfl rfl rfl rfl ?_
   refine wl_split (t := 19) rfl (fun hg19 => ?_) (fun hg19 => ?_)
   ·replace hg19 := of_decide_eq_true hg19
    refine wl_opG (k := 11) (k' := 12) rfl rfl ⟨_, _, _, rfl, rfl, rfl, rfl⟩ rfl (wo_run rfl rfl (run_move rfl rfl) ?_)
    refine wl_opG (k := 12) (k' := 13) rfl rfl ⟨_, _, _, rfl, rfl, rfl, rfl⟩ rfl (wo_run rfl rfl (run_move rfl rfl) ?_)
    refine wl_opG (k := 13) (k' := 14) rfl rfl ⟨_, _, _, rfl, rfl, rfl, rfl⟩ rfl (wo_run rfl rfl (run_indexS i rfl rfl rfl Tryd.underlying9 ((by first | omega | (simp only [lens]; omega)))) ?_)
    refine wl_opG (k := 14) (k' := 15) rfl rfl ⟨_, _, _, rfl, rfl, rfl, rfl⟩ rfl (wo_run rfl rfl (run_geqB (p := (ga s i).toNat) (q := 48) rfl rfl rfl) ?_)
    refine wlo 15 16 rfl rfl rfl (wo_run rfl rfl (run_pickT rfl rfl rfl) ?_)
    refine wlm 16 17 rfl rfl rfl rfl rfl rfl rfl ?_
    refine wl_split (t := 25) rfl (fun hg25 => ?_) (fun hg25 => ?_)
    ·replace hg25 := of_decide_eq_true hg25
     refine wl_opG (k := 17) (k' := 18) rfl rfl ⟨_, _, _, rfl, rfl, rfl, rfl⟩ rfl (wo_run rfl rfl (run_move rfl rfl) ?_)
     refine wl_opG (k := 18) (k' := 19) rfl rfl ⟨_, _, _, rfl, rfl, rfl, rfl⟩ rfl (wo_run rfl rfl (run_move rfl rfl) ?_)
     refine wl_opG (k := 19) (k' := 20) rfl rfl ⟨_, _, _, rfl, rfl, rfl, rfl⟩ rfl (wo_run rfl rfl (run_indexS i rfl rfl rfl Tryd.underlying9 ((by first | omega | (simp only [lens]; omega)))) ?_)
     refine wl_opG (k := 20) (k' := 21) rfl rfl ⟨_, _, _, rfl, rfl, rfl, rfl⟩ rfl (wo_run rfl rfl (run_leqB (p := (ga s i).toNat) (q := 57) rfl rfl rfl) ?_)
     refine wlo 21 22 rfl rfl rfl (wo_run rfl rfl (run_pickT rfl rfl rfl) ?_)
     refine wl_end rfl ?_
     refine nm_sub [(0, _), (1, _), (6, _), (7, _), (30, _)] ⟨rfl, rfl, rfl, rfl, rfl, trivial⟩ ?_
     refine nm_thn ?_
     refine ws_condN wholeAt_n15 wholeAt_n16 rfl rfl rfl rfl (fun hb30 => ?_) (fun hb30 => ?_)
     ·replace hb30 := of_decide_eq_true hb30
      refine ws_skip rfl ?_
      refine nm_sub [(0, _), (1, _), (6, _), (7, _)] ⟨rfl, rfl, rfl, rfl, trivial⟩ ?_
      refine nm_thn ?_
      refine ws_blockN wholeAt_n17 1 rfl rfl rfl ?_
      refine ws_seqN wholeAt_n18 wholeAt_n19 rfl rfl rfl ?_
      refine ws_region rfl ?_
      refine wlm 0 1 rfl rfl rfl rfl rfl rfl rfl ?_
      refine wlo 1 2 rfl rfl rfl (wo_run rfl rfl (run_mul rfl rfl rfl (by first | omega | (simp only [lens]; omega))) ?_)
      refine wlm 2 3 rfl rfl rfl rfl rfl rfl rfl ?_
      refine wlm 3 4 rfl rfl rfl rfl rfl rfl rfl ?_
      refine wlo 4 5 rfl rfl rfl (wo_run rfl rfl (run_indexS i rfl rfl rfl Tryd.underlying9 ((by first | omega | (simp only [lens]; omega)))) ?_)
      refine wlo 5 6 rfl rfl rfl (wo_run rfl rfl (run_subB (p := (ga s i).toNat) (q := 48) rfl rfl rfl (by have := UInt8.toNat_lt (ga s i); omega)) ?_)
      refine wlo 6 7 rfl rfl rfl (wo_run rfl rfl (run_convU (s := ((ga s i).toNat - 48)) rfl rfl ⟨_, Tryd.underlying5⟩ Tryd.underlying3 (by have := UInt8.toNat_lt (ga s i); first | omega | (simp only [lens]; omega))) ?_)
      refine wlo 7 8 rfl rfl rfl (wo_run rfl rfl (run_add rfl rfl rfl (by first | omega | (simp only [lens]; omega))) ?_)
      refine wla 8 9 rfl rfl rfl rfl rfl rfl rfl ?_
      refine wl_end rfl ?_
      refine nm_sub [(0, _), (1, _), (6, _), (7, _)] ⟨rfl, rfl, rfl, rfl, trivial⟩ ?_
      refine nm_thn ?_
      refine ws_eq 6 (.int .i64 ((10 * n + ((ga s i).toNat - 48) : Nat) : Int)) rfl (int_eq (by omega)) ?_
      refine ws_region rfl ?_
      refine wlm 0 1 rfl rfl rfl rfl rfl rfl rfl ?_
      refine wlo 1 2 rfl rfl rfl (wo_run rfl rfl (run_add rfl rfl rfl (by first | omega | (simp only [lens]; omega))) ?_)
      refine wla 2 3 rfl rfl rfl rfl rfl rfl rfl ?_
      refine wl_end rfl ?_
      refine nm_blk ?_
      refine nm_lp ?_
      intro ax_ hax_
      refine ⟨_, ?hq2m, ⟨(f - 1), i + 1, 10 * n + ((ga s i).toNat - 48), rfl, hax_.sub ⟨rfl, rfl, rfl, rfl, trivial⟩, S1.pick [] [] (by decide) trivial, ?hq2f0, ?hq2f1, ?hq2f2, ?hq2f3⟩⟩
      case hq2f0 => omega
      case hq2f1 => (exact (whA_go (s := s) (f := f) (i := i) (n := n) (by omega) ⟨by omega, by omega, by omega⟩).symm.trans hwh)
      case hq2f2 => exact pow_step (by omega) (by omega) hpw
      case hq2f3 => omega
      case hq2m => omega
     ·replace hb30 := of_decide_eq_false hb30
      refine ws_exit rfl rfl ?_
      refine nm_sub [(6, _), (7, _)] ⟨rfl, rfl, trivial⟩ ?_
      refine nm_thn ?_
      refine ws_seqN wholeAt_n20 wholeAt_n21 rfl rfl rfl ?_
      refine ws_region rfl ?_
      refine wlm 0 1 rfl rfl rfl rfl rfl rfl rfl ?_
      refine wlm 1 2 rfl rfl rfl rfl rfl rfl rfl ?_
      refine wla 2 3 rfl rfl rfl rfl rfl rfl rfl ?_
      refine wla 3 4 rfl rfl rfl rfl rfl rfl rfl ?_
      refine wl_end rfl ?_
      refine nm_sub [(4, _), (5, _)] ⟨rfl, rfl, trivial⟩ ?_
      refine nm_thn ?_
      refine ws_ret hC [_, _] rfl rfl ⟨rfl, rfl, trivial⟩ ?_
      exact ⟨_, rfl, (S1.pick [] [] (by decide) trivial), (by have h9 : wh s k = (n, i) := (by rw [← hwh]; first | (rw [show f = 0 by omega]; rfl) | exact whA_stop (by omega)); rw [h9]; rfl)⟩
    ·replace hg25 := of_decide_eq_false hg25
     refine wl_no (k := 17) (k' := 18) (d := 26) rfl rfl ⟨_, _, _, rfl, rfl, rfl, rfl⟩ rfl rfl ?_
     refine wl_no (k := 18) (k' := 19) (d := 27) rfl rfl ⟨_, _, _, rfl, rfl, rfl, rfl⟩ rfl rfl ?_
     refine wl_no (k := 19) (k' := 20) (d := 28) rfl rfl ⟨_, _, _, rfl, rfl, rfl, rfl⟩ rfl rfl ?_
     refine wl_no (k := 20) (k' := 21) (d := 29) rfl rfl ⟨_, _, _, rfl, rfl, rfl, rfl⟩ rfl rfl ?_
     refine wlo 21 22 rfl rfl rfl (wo_run rfl rfl (run_pickF rfl rfl rfl) ?_)
     refine wl_end rfl ?_
     refine nm_sub [(0, _), (1, _), (6, _), (7, _), (30, _)] ⟨rfl, rfl, rfl, rfl, rfl, trivial⟩ ?_
     refine nm_thn ?_
     refine ws_condFN wholeAt_n16 rfl rfl rfl ?_
     refine ws_exit rfl rfl ?_
     refine nm_sub [(6, _), (7, _)] ⟨rfl, rfl, trivial⟩ ?_
     refine nm_thn ?_
     refine ws_seqN wholeAt_n20 wholeAt_n21 rfl rfl rfl ?_
     refine ws_region rfl ?_
     refine wlm 0 1 rfl rfl rfl rfl rfl rfl rfl ?_
     refine wlm 1 2 rfl rfl rfl rfl rfl rfl rfl ?_
     refine wla 2 3 rfl rfl rfl rfl rfl rfl rfl ?_
     refine wla 3 4 rfl rfl rfl rfl rfl rfl rfl ?_
     refine wl_end rfl ?_
     refine nm_sub [(4, _), (5, _)] ⟨rfl, rfl, trivial⟩ ?_
     refine nm_thn ?_
     refine ws_ret hC [_, _] rfl rfl ⟨rfl, rfl, trivial⟩ ?_
     exact ⟨_, rfl, (S1.pick [] [] (by decide) trivial), (by have h9 : wh s k = (n, i) := (by rw [← hwh]; first | (rw [show f = 0 by omega]; rfl) | exact whA_stop (by omega)); rw [h9]; rfl)⟩
   ·replace hg19 := of_decide_eq_false hg19
    refine wl_no (k := 11) (k' := 12) (d := 20) rfl rfl ⟨_, _, _, rfl, rfl, rfl, rfl⟩ rfl rfl ?_
    refine wl_no (k := 12) (k' := 13) (d := 21) rfl rfl ⟨_, _, _, rfl, rfl, rfl, rfl⟩ rfl rfl ?_
    refine wl_no (k := 13) (k' := 14) (d := 22) rfl rfl ⟨_, _, _, rfl, rfl, rfl, rfl⟩ rfl rfl ?_
    refine wl_no (k := 14) (k' := 15) (d := 23) rfl rfl ⟨_, _, _, rfl, rfl, rfl, rfl⟩ rfl rfl ?_
    refine wlo 15 16 rfl rfl rfl (wo_run rfl rfl (run_pickF rfl rfl rfl) ?_)
    refine wlm 16 17 rfl rfl rfl rfl rfl rfl rfl ?_
    refine wl_no (k := 17) (k' := 18) (d := 26) rfl rfl ⟨_, _, _, rfl, rfl, rfl, rfl⟩ rfl rfl ?_
    refine wl_no (k := 18) (k' := 19) (d := 27) rfl rfl ⟨_, _, _, rfl, rfl, rfl, rfl⟩ rfl rfl ?_
    refine wl_no (k := 19) (k' := 20) (d := 28) rfl rfl ⟨_, _, _, rfl, rfl, rfl, rfl⟩ rfl rfl ?_
    refine wl_no (k := 20) (k' := 21) (d := 29) rfl rfl ⟨_, _, _, rfl, rfl, rfl, rfl⟩ rfl rfl ?_
    refine wlo 21 22 rfl rfl rfl (wo_run rfl rfl (run_pickF rfl rfl rfl) ?_)
    refine wl_end rfl ?_
    refine nm_sub [(0, _), (1, _), (6, _), (7, _), (30, _)] ⟨rfl, rfl, rfl, rfl, rfl, trivial⟩ ?_
    refine nm_thn ?_
    refine ws_condFN wholeAt_n16 rfl rfl rfl ?_
    refine ws_exit rfl rfl ?_
    refine nm_sub [(6, _), (7, _)] ⟨rfl, rfl, trivial⟩ ?_
    refine nm_thn ?_
    refine ws_seqN wholeAt_n20 wholeAt_n21 rfl rfl rfl ?_
    refine ws_region rfl ?_
    refine wlm 0 1 rfl rfl rfl rfl rfl rfl rfl ?_
    refine wlm 1 2 rfl rfl rfl rfl rfl rfl rfl ?_
    refine wla 2 3 rfl rfl rfl rfl rfl rfl rfl ?_
    refine wla 3 4 rfl rfl rfl rfl rfl rfl rfl ?_
    refine wl_end rfl ?_
    refine nm_sub [(4, _), (5, _)] ⟨rfl, rfl, trivial⟩ ?_
    refine nm_thn ?_
    refine ws_ret hC [_, _] rfl rfl ⟨rfl, rfl, trivial⟩ ?_
    exact ⟨_, rfl, (S1.pick [] [] (by decide) trivial), (by have h9 : wh s k = (n, i) := (by rw [← hwh]; first | (rw [show f = 0 by omega]; rfl) | exact whA_stop (by omega)); rw [h9]; rfl)⟩
  ·replace hg13 := of_decide_eq_false hg13
   refine wl_no (k := 5) (k' := 6) (d := 14) rfl rfl ⟨_, _, _, rfl, rfl, rfl, rfl⟩ rfl rfl ?_
   refine wl_no (k := 6) (k' := 7) (d := 15) rfl rfl ⟨_, _, _, rfl, rfl, rfl, rfl⟩ rfl rfl ?_
   refine wl_no (k := 7) (k' := 8) (d := 16) rfl rfl ⟨_, _, _, rfl, rfl, rfl, rfl⟩ rfl rfl ?_
   refine wl_no (k := 8) (k' := 9) (d := 17) rfl rfl ⟨_, _, _, rfl, rfl, rfl, rfl⟩ rfl rfl ?_
   refine wlo 9 10 rfl rfl rfl (wo_run rfl rfl (run_pickF rfl rfl rfl) ?_)
   refine wlm 10 11 rfl rfl rfl rfl rfl rfl rfl ?_
   refine wl_no (k := 11) (k' := 12) (d := 20) rfl rfl ⟨_, _, _, rfl, rfl, rfl, rfl⟩ rfl rfl ?_
   refine wl_no (k := 12) (k' := 13) (d := 21) rfl rfl ⟨_, _, _, rfl, rfl, rfl, rfl⟩ rfl rfl ?_
   refine wl_no (k := 13) (k' := 14) (d := 22) rfl rfl ⟨_, _, _, rfl, rfl, rfl, rfl⟩ rfl rfl ?_
   refine wl_no (k := 14) (k' := 15) (d := 23) rfl rfl ⟨_, _, _, rfl, rfl, rfl, rfl⟩ rfl rfl ?_
   refine wlo 15 16 rfl rfl rfl (wo_run rfl rfl (run_pickF rfl rfl rfl) ?_)
   refine wlm 16 17 rfl rfl rfl rfl rfl rfl rfl ?_
   refine wl_no (k := 17) (k' := 18) (d := 26) rfl rfl ⟨_, _, _, rfl, rfl, rfl, rfl⟩ rfl rfl ?_
   refine wl_no (k := 18) (k' := 19) (d := 27) rfl rfl ⟨_, _, _, rfl, rfl, rfl, rfl⟩ rfl rfl ?_
   refine wl_no (k := 19) (k' := 20) (d := 28) rfl rfl ⟨_, _, _, rfl, rfl, rfl, rfl⟩ rfl rfl ?_
   refine wl_no (k := 20) (k' := 21) (d := 29) rfl rfl ⟨_, _, _, rfl, rfl, rfl, rfl⟩ rfl rfl ?_
   refine wlo 21 22 rfl rfl rfl (wo_run rfl rfl (run_pickF rfl rfl rfl) ?_)
   refine wl_end rfl ?_
   refine nm_sub [(0, _), (1, _), (6, _), (7, _), (30, _)] ⟨rfl, rfl, rfl, rfl, rfl, trivial⟩ ?_
   refine nm_thn ?_
   refine ws_condFN wholeAt_n16 rfl rfl rfl ?_
   refine ws_exit rfl rfl ?_
   refine nm_sub [(6, _), (7, _)] ⟨rfl, rfl, trivial⟩ ?_
   refine nm_thn ?_
   refine ws_seqN wholeAt_n20 wholeAt_n21 rfl rfl rfl ?_
   refine ws_region rfl ?_
   refine wlm 0 1 rfl rfl rfl rfl rfl rfl rfl ?_
   refine wlm 1 2 rfl rfl rfl rfl rfl rfl rfl ?_
   refine wla 2 3 rfl rfl rfl rfl rfl rfl rfl ?_
   refine wla 3 4 rfl rfl rfl rfl rfl rfl rfl ?_
   refine wl_end rfl ?_
   refine nm_sub [(4, _), (5, _)] ⟨rfl, rfl, trivial⟩ ?_
   refine nm_thn ?_
   refine ws_ret hC [_, _] rfl rfl ⟨rfl, rfl, trivial⟩ ?_
   exact ⟨_, rfl, (S1.pick [] [] (by decide) trivial), (by have h9 : wh s k = (n, i) := (by rw [← hwh]; first | (rw [show f = 0 by omega]; rfl) | exact whA_stop (by omega)); rw [h9]; rfl)⟩
end Go.Proofs.YtklcecpjgingpaaDoor
