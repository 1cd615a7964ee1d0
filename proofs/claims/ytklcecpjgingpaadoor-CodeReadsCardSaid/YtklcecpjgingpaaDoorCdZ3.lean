/- Part 3 of the proof of the law CodeReads: the walks through its functions and the plain laws that they need. -/
import Derived.Test.YtklcecpjgingpaaDoorCdZ2
set_option linter.unusedSimpArgs false
set_option linter.unusedVariables false
namespace Go.Proofs.YtklcecpjgingpaaDoor
open Go.ChangeShapes Go.WideShapes Go.ChangeAt Go.RowKit
def isBl (c : UInt8) : Bool := c = 9 || c = 10 || c = 13 || c = 32
def fldA : List UInt8 → List UInt8 → List (List UInt8)
 | cur, [] => if cur = [] then [] else [cur]
 | cur, c :: s => if isBl c = true then (if cur = [] then fldA [] s else cur :: fldA [] s) else fldA (cur ++ [c]) s
theorem fldA_run : ∀ (w r cur : List UInt8), (∀ c ∈ w, isBl c = false) → fldA cur (w ++ r) = fldA (cur ++ w) r
 | [], r, cur, _ => by rw [List.append_nil]; rfl
 | c :: w, r, cur, h => by
  have hc := h c (List.mem_cons_self ..)
  show fldA cur (c :: (w ++ r)) = _
  rw [fldA, if_neg (by rw [hc]; decide), fldA_run w r (cur ++ [c]) (fun x hx => h x (List.mem_cons_of_mem _ hx))]
  congr 1; simp
/-- The text is over, or a blank stands there. -/
def bl0 (r : List UInt8) : Prop := r = [] ∨ ∃ c q, r = c :: q ∧ isBl c = true
theorem fldA_word {w r : List UInt8} (hw : w ≠ []) (h : ∀ c ∈ w, isBl c = false) (hr : bl0 r) : fldA [] (w ++ r) = w :: fldA [] r := by
 rw [fldA_run w r [] h, List.nil_append]
 rcases hr with rfl | ⟨c, q, rfl, hc⟩
 ·show (if w = [] then [] else [w]) = w :: (if ([] : List UInt8) = [] then [] else [[]])
  rw [if_neg hw, if_pos rfl]
 ·rw [fldA, if_pos hc, if_neg hw]
  show w :: fldA [] q = w :: (if isBl c = true then (if ([] : List UInt8) = [] then fldA [] q else [] :: fldA [] q) else fldA ([] ++ [c]) q)
  rw [if_pos hc, if_pos rfl]
theorem word_of : ∀ (s : List UInt8), ∃ w r, s = w ++ r ∧ (∀ c ∈ w, isBl c = false) ∧ bl0 r
 | [] => ⟨[], [], rfl, by simp, .inl rfl⟩
 | c :: s => by
  by_cases hc : isBl c = true
  ·exact ⟨[], c :: s, rfl, by simp, .inr ⟨c, s, rfl, hc⟩⟩
  ·obtain ⟨w, r, e, h1, h2⟩ := word_of s
   refine ⟨c :: w, r, by rw [e]; rfl, fun x hx => ?_, h2⟩
   rcases List.mem_cons.1 hx with rfl | hx
   ·simpa using hc
   ·exact h1 x hx
theorem word_uniq : ∀ {w r w2 r2 : List UInt8}, w ++ r = w2 ++ r2 → (∀ c ∈ w, isBl c = false) → bl0 r → (∀ c ∈ w2, isBl c = false) → bl0 r2 → w = w2
 | [], r, [], r2, _, _, _, _, _ => rfl
 | [], r, c :: w2, r2, e, _, hr, h2, _ => by
  rcases hr with rfl | ⟨d, q, rfl, hd⟩
  ·cases e
  ·have e1 : d = c := (List.cons.inj e).1
   have := h2 c (List.mem_cons_self ..)
   rw [e1, this] at hd; cases hd
 | c :: w, r, [], r2, e, h1, _, _, hr2 => by
  rcases hr2 with rfl | ⟨d, q, rfl, hd⟩
  ·cases e
  ·have e1 : c = d := (List.cons.inj e).1
   have := h1 c (List.mem_cons_self ..)
   rw [← e1, this] at hd; cases hd
 | c :: w, r, d :: w2, r2, e, h1, hr, h2, hr2 => by
  obtain ⟨e1, e2⟩ := List.cons.inj e
  rw [e1, word_uniq (show w ++ r = w2 ++ r2 from e2) (fun x hx => h1 x (List.mem_cons_of_mem _ hx)) hr (fun x hx => h2 x (List.mem_cons_of_mem _ hx)) hr2]
def spc (b : UInt8) : List UInt8 → List (List UInt8)
 | [] => [[]]
 | c :: l => if c = b then [] :: spc b l else match spc b l with
  | [] => [[c]]
  | w :: ws => (c :: w) :: ws
theorem spc_ne (b : UInt8) (l : List UInt8) : spc b l ≠ [] := by
 cases l with
 | nil => simp [spc]
 | cons c l =>
  unfold spc
  split
  ·simp
  ·split <;> simp
theorem spc_none {b : UInt8} {l : List UInt8} (h : b ∉ l) : spc b l = [l] := by
 induction l with
 | nil => rfl
 | cons c l ih =>
  have hc : ¬ c = b := fun e => h (by rw [e]; exact List.mem_cons_self ..)
  unfold spc
  rw [if_neg hc, ih (fun hl => h (List.mem_cons_of_mem _ hl))]
theorem spc_at (b : UInt8) (u v : List UInt8) : spc b (u ++ b :: v) = spc b u ++ spc b v := by
 induction u with
 | nil => show spc b (b :: v) = [[]] ++ spc b v; rw [spc, if_pos rfl]; rfl
 | cons c u ih =>
  show spc b (c :: (u ++ b :: v)) = _
  rw [spc, spc]
  by_cases hc : c = b
  ·rw [if_pos hc, if_pos hc, ih]; rfl
  ·rw [if_neg hc, if_neg hc, ih]
   cases h : spc b u with
   | nil => exact absurd h (spc_ne b u)
   | cons w ws => rfl
theorem spc_fst {b : UInt8} {u v : List UInt8} (h : b ∉ u) : spc b (u ++ b :: v) = u :: spc b v := by rw [spc_at, spc_none h]; rfl
def joB (b : UInt8) : List (List UInt8) → List UInt8
 | [] => []
 | [w] => w
 | w :: ws => w ++ b :: joB b ws
theorem joB_spc (b : UInt8) : ∀ l : List UInt8, joB b (spc b l) = l
 | [] => rfl
 | c :: l => by
  have ih := joB_spc b l
  unfold spc
  by_cases hc : c = b
  ·rw [if_pos hc]
   cases h : spc b l with
   | nil => exact absurd h (spc_ne b l)
   | cons w ws => rw [h] at ih; show [] ++ b :: joB b (w :: ws) = c :: l; rw [ih, hc]; rfl
  ·rw [if_neg hc]
   cases h : spc b l with
   | nil => exact absurd h (spc_ne b l)
   | cons w ws =>
    rw [h] at ih
    cases ws with
    | nil => show c :: w = c :: l; rw [← ih]; rfl
    | cons w2 ws => show c :: w ++ b :: joB b (w2 :: ws) = c :: l; rw [← ih]; rfl
theorem mem_cutB {b : UInt8} (s : List UInt8) (h : b ∈ s) : ∃ u v, s = u ++ b :: v ∧ b ∉ u := by
 induction s with
 | nil => simp at h
 | cons c s ih =>
  by_cases hc : c = b
  ·exact ⟨[], s, by rw [hc]; rfl, by simp⟩
  ·rcases List.mem_cons.1 h with e | h
   ·exact absurd e.symm hc
   ·obtain ⟨u, v, e, hu⟩ := ih h
    refine ⟨c :: u, v, by rw [e]; rfl, fun hm => ?_⟩
    rcases List.mem_cons.1 hm with e2 | hm
    ·exact hc e2.symm
    ·exact hu hm
theorem split_spc (b : UInt8) : ∀ (n : Nat) (s : List UInt8), s.length ≤ n → Lib.splitK [b] 0 (Lib.count s [b]) s = spc b s := by
 intro n
 induction n with
 | zero =>
  intro s h
  obtain rfl : s = [] := List.eq_nil_of_length_eq_zero (by omega)
  have : Lib.count [] [b] = 0 := Lib.count_miss (idx1_miss (by simp))
  rw [this]; rfl
 | succ n ih =>
  intro s h
  by_cases hm : b ∈ s
  ·obtain ⟨u, v, rfl, hu⟩ := mem_cutB s hm
   have hi := idx1_hit v hu
   have e : (u ++ b :: v).drop (u.length + [b].length) = v := by
    rw [← List.drop_drop, List.drop_left]; rfl
   have hc := Lib.count_hit (sub := [b]) (by simp) hi
   rw [e] at hc
   rw [hc, Nat.add_comm 1, Lib.splitK, hi]
   have h2 : ((u.length : Int) == -1) = false := by rw [beq_eq_false_iff_ne]; omega
   rw [h2, if_neg (by decide), Int.toNat_natCast, Nat.add_zero, List.take_left, e, ih v (by rw [List.length_append, List.length_cons] at h; omega), spc_fst hu]
  ·rw [Lib.count_miss (idx1_miss hm), spc_none hm]; rfl
theorem split_b (b : UInt8) (s : List UInt8) : Lib.split s [b] = spc b s := split_spc b _ _ (Nat.le_refl _)
def okN (n : List UInt8) : Prop := n ≠ [] ∧ n.length ≤ 3 ∧ allD n
instance (n : List UInt8) : Decidable (okN n) := by unfold okN allD; infer_instance
def crossW (w : List UInt8) (x : Cr) : Prop := ∃ (p : Bool) (n1 n2 n3 n4 : List UInt8), okN n1 ∧ okN n2 ∧ okN n3 ∧ okN n4 ∧ w = 88 :: (if p = true then 43 else 45) :: 91 :: (n1 ++ 44 :: (n2 ++ 44 :: (n3 ++ 44 :: (n4 ++ [93])))) ∧ x = ⟨(valD 0 n1 : Nat), (valD 0 n2 : Nat), (valD 0 n3 : Nat), (valD 0 n4 : Nat), p⟩
theorem okN.no {n : List UInt8} (h : okN n) {c : UInt8} (hc : c.toNat < 48 ∨ 57 < c.toNat) : c ∉ n := fun hm => by have := h.2.2 c hm; omega
def midW (w : List UInt8) : List UInt8 := (w.drop 3).take (w.length - 1 - 3)
def endB (w : List UInt8) : Bool := [93].isSuffixOf w
/-- The program's reader of a crossing. -/
def crossP (w : List UInt8) : Option Cr :=
 if ([88, 43, 91].isPrefixOf w = false ∧ [88, 45, 91].isPrefixOf w = false) ∨ endB w = false then none
 else if (spc 44 (midW w)).length ≠ 4 then none
 else if okN (ga (spc 44 (midW w)) 0) ∧ okN (ga (spc 44 (midW w)) 1) ∧ okN (ga (spc 44 (midW w)) 2) ∧ okN (ga (spc 44 (midW w)) 3) then some ⟨(valD 0 (ga (spc 44 (midW w)) 0) : Nat), (valD 0 (ga (spc 44 (midW w)) 1) : Nat), (valD 0 (ga (spc 44 (midW w)) 2) : Nat), (valD 0 (ga (spc 44 (midW w)) 3) : Nat), [88, 43, 91].isPrefixOf w⟩
 else none
theorem pre3 {a b c : UInt8} {w : List UInt8} (h : [a, b, c].isPrefixOf w = true) : ∃ r, w = a :: b :: c :: r := by
 obtain ⟨r, e⟩ := List.isPrefixOf_iff_prefix.1 h
 exact ⟨r, e.symm⟩
theorem suf1 {a : UInt8} {w : List UInt8} (h : [a].isSuffixOf w = true) : ∃ r, w = r ++ [a] := by
 obtain ⟨r, e⟩ := List.isSuffixOf_iff_suffix.1 h
 exact ⟨r, e.symm⟩
theorem midW_eq (a b : UInt8) (m : List UInt8) : midW (88 :: a :: b :: (m ++ [93])) = m := by
 unfold midW
 show List.take _ (m ++ [93]) = m
 simp only [List.length_cons, List.length_append, List.length_nil]
 rw [show m.length + (0 + 1) + 1 + 1 + 1 - 1 - 3 = m.length by omega, List.take_left]
theorem crossP_some {w : List UInt8} {x : Cr} (h : crossP w = some x) : crossW w x := by
 unfold crossP at h
 split at h
 ·cases h
 ·rename_i h1
  split at h
  ·cases h
  ·rename_i h2
   split at h
   ·rename_i h3
    have hb : endB w = true := by
     cases e : endB w with
     | true => rfl
     | false => exact absurd (.inr e) h1
    obtain ⟨r, hr⟩ := suf1 hb
    have hp : ∃ p : Bool, [88, 43, 91].isPrefixOf w = p ∧ ∃ q, w = 88 :: (if p = true then 43 else 45) :: 91 :: q := by
     cases e : [88, 43, 91].isPrefixOf w with
     | true => obtain ⟨q, hq⟩ := pre3 e; exact ⟨true, rfl, q, hq⟩
     | false =>
      cases e2 : [88, 45, 91].isPrefixOf w with
      | true => obtain ⟨q, hq⟩ := pre3 e2; exact ⟨false, rfl, q, hq⟩
      | false => exact absurd (.inl ⟨e, e2⟩) h1
    obtain ⟨p, hp1, q, hq⟩ := hp
    have hm : ∃ m, q = m ++ [93] := by
     match r, hr with
     | [], hr => rw [hq] at hr; have := congrArg List.length hr; simp at this
     | [a], hr => rw [hq] at hr; have := congrArg List.length hr; simp at this
     | [a, b], hr =>
      rw [hq] at hr
      have := (List.cons.inj (List.cons.inj (List.cons.inj hr).2).2).1
      exact absurd this (by decide)
     | a :: b :: c :: m, hr =>
      rw [hq] at hr
      exact ⟨m, (List.cons.inj (List.cons.inj (List.cons.inj hr).2).2).2⟩
    obtain ⟨m, rfl⟩ := hm
    have hmid : midW w = m := by rw [hq]; exact midW_eq _ _ m
    rw [hmid] at h h2 h3
    have hj := joB_spc 44 m
    match hl : spc 44 m, (show (spc 44 m).length = 4 by omega) with
    | [n1, n2, n3, n4], _ =>
     rw [hl] at h h3 hj
     refine ⟨p, n1, n2, n3, n4, h3.1, h3.2.1, h3.2.2.1, h3.2.2.2, ?_, ?_⟩
     ·rw [hq, ← hj]
      show _ = 88 :: (if p = true then 43 else 45) :: 91 :: _
      simp [joB]
     ·have := Option.some.inj h
      rw [← this, hp1]; rfl
   ·cases h
theorem crossP_of {w : List UInt8} {x : Cr} (h : crossW w x) : crossP w = some x := by
 obtain ⟨p, n1, n2, n3, n4, o1, o2, o3, o4, rfl, rfl⟩ := h
 have hm : (88 :: (if p = true then 43 else 45) :: 91 :: (n1 ++ 44 :: (n2 ++ 44 :: (n3 ++ 44 :: (n4 ++ [93]))))) = (88 :: (if p = true then 43 else 45) :: 91 :: ((n1 ++ 44 :: (n2 ++ 44 :: (n3 ++ 44 :: n4))) ++ [93]) : List UInt8) := by simp
 rw [hm]
 have hmid := midW_eq (if p = true then 43 else 45) 91 (n1 ++ 44 :: (n2 ++ 44 :: (n3 ++ 44 :: n4)))
 have hsp : spc 44 (n1 ++ 44 :: (n2 ++ 44 :: (n3 ++ 44 :: n4))) = [n1, n2, n3, n4] := by
  rw [spc_fst (o1.no (by decide)), spc_fst (o2.no (by decide)), spc_fst (o3.no (by decide)), spc_none (o4.no (by decide))]
 have hend : endB (88 :: (if p = true then 43 else 45) :: 91 :: ((n1 ++ 44 :: (n2 ++ 44 :: (n3 ++ 44 :: n4))) ++ [93])) = true := by
  unfold endB
  exact List.isSuffixOf_iff_suffix.2 ⟨88 :: (if p = true then 43 else 45) :: 91 :: (n1 ++ 44 :: (n2 ++ 44 :: (n3 ++ 44 :: n4))), by simp⟩
 have hpre : [88, 43, 91].isPrefixOf (88 :: (if p = true then 43 else 45) :: 91 :: ((n1 ++ 44 :: (n2 ++ 44 :: (n3 ++ 44 :: n4))) ++ [93])) = p := by cases p <;> simp [List.isPrefixOf]
 have hpre2 : p = false → [88, 45, 91].isPrefixOf (88 :: (if p = true then 43 else 45) :: 91 :: ((n1 ++ 44 :: (n2 ++ 44 :: (n3 ++ 44 :: n4))) ++ [93])) = true := by rintro rfl; simp [List.isPrefixOf]
 unfold crossP
 rw [hmid, hsp, hend, hpre, if_neg, if_neg (by simp), if_pos]
 ·rfl
 ·exact ⟨o1, o2, o3, o4⟩
 ·rintro (⟨e1, e2⟩ | e)
  ·rw [hpre2 e1] at e2; cases e2
  ·cases e
theorem crossW_bl {w : List UInt8} {x : Cr} (h : crossW w x) : w ≠ [] ∧ w ≠ [79] ∧ ∀ c ∈ w, isBl c = false := by
 obtain ⟨p, n1, n2, n3, n4, o1, o2, o3, o4, rfl, rfl⟩ := h
 refine ⟨by simp, by simp, ?_⟩
 have hd : ∀ n, okN n → ∀ c ∈ n, isBl c = false := fun n o c hc => by
  have := o.2.2 c hc
  unfold isBl
  have h9 : ¬ c = 9 := fun e => by rw [e] at this; revert this; decide
  have h10 : ¬ c = 10 := fun e => by rw [e] at this; revert this; decide
  have h13 : ¬ c = 13 := fun e => by rw [e] at this; revert this; decide
  have h32 : ¬ c = 32 := fun e => by rw [e] at this; revert this; decide
  simp [h9, h10, h13, h32]
 intro c hc
 simp only [List.mem_cons, List.mem_append, List.mem_nil_iff, or_false] at hc
 rcases hc with rfl | rfl | rfl | hc | rfl | hc | rfl | hc | rfl | hc | rfl
 ·decide
 ·cases p <;> decide
 ·decide
 ·exact hd _ o1 c hc
 ·decide
 ·exact hd _ o2 c hc
 ·decide
 ·exact hd _ o3 c hc
 ·decide
 ·exact hd _ o4 c hc
 ·decide
def stp (s : List UInt8) (i : Nat) (c : UInt8) : Option (Nat × Nat) := if (whA s 3 i 0).2 = i ∨ s.length ≤ (whA s 3 i 0).2 ∨ ga s (whA s 3 i 0).2 ≠ c then none else some ((whA s 3 i 0).1, (whA s 3 i 0).2 + 1)
def hdI (s : List UInt8) (k : Nat) : Prop := k + 3 ≤ s.length ∧ ga s k = 88 ∧ (ga s (k + 1) = 43 ∨ ga s (k + 1) = 45) ∧ ga s (k + 2) = 91
instance (s : List UInt8) (k : Nat) : Decidable (hdI s k) := by unfold hdI; infer_instance
def crossI (s : List UInt8) (k : Nat) : Option (Cr × Nat) :=
 if hdI s k then
  match stp s (k + 3) 44 with
  | none => none
  | some q1 => match stp s q1.2 44 with
   | none => none
   | some q2 => match stp s q2.2 44 with
    | none => none
    | some q3 => match stp s q3.2 93 with
     | none => none
     | some q4 => some (⟨(q1.1 : Nat), (q2.1 : Nat), (q3.1 : Nat), (q4.1 : Nat), decide (ga s (k + 1) = 43)⟩, q4.2)
 else none
theorem drop_ga {s : List UInt8} {i : Nat} (h : i < s.length) : s.drop i = ga s i :: s.drop (i + 1) := by rw [List.drop_eq_getElem_cons h, ga_eq h]
theorem whA_inv (s : List UInt8) : ∀ f i n, i ≤ s.length → ∃ d, allD d ∧ d.length ≤ f ∧ s.drop i = d ++ s.drop (whA s f i n).2 ∧ (whA s f i n).2 = i + d.length ∧ (whA s f i n).1 = valD n d := by
 intro f
 induction f with
 | zero => intro i n _; exact ⟨[], by intro c hc; simp at hc, Nat.le_refl _, rfl, rfl, rfl⟩
 | succ f ih =>
  intro i n hi
  unfold whA
  split
  ·rename_i h
   obtain ⟨d, h1, h2, h3, h4, h5⟩ := ih (i + 1) (10 * n + ((ga s i).toNat - 48)) (by omega)
   refine ⟨ga s i :: d, ?_, by rw [List.length_cons]; omega, by rw [drop_ga h.1, h3]; rfl, by rw [h4, List.length_cons]; omega, h5⟩
   intro c hc
   rcases List.mem_cons.1 hc with rfl | hc
   ·exact h.2
   ·exact h1 c hc
  ·exact ⟨[], by intro c hc; simp at hc, Nat.zero_le _, rfl, rfl, rfl⟩
theorem stp_hit {n r : List UInt8} {c : UInt8} (hn : okN n) (hc : c.toNat < 48 ∨ 57 < c.toNat) (p : List UInt8) : stp (p ++ n ++ c :: r) p.length c = some (valD 0 n, p.length + n.length + 1) := by
 have h := whA_dig (r := c :: r) (.inr ⟨c, r, rfl, hc⟩) 3 p 0 hn.2.2 hn.2.1
 have hl := List.length_pos_iff.2 hn.1
 have hg : ga (p ++ n ++ c :: r) (p.length + n.length) = c := by
  have := ga_mid (p ++ n) c r
  rwa [List.length_append] at this
 unfold stp
 rw [h, if_neg]
 show ¬ (p.length + n.length = p.length ∨ (p ++ n ++ c :: r).length ≤ p.length + n.length ∨ ga (p ++ n ++ c :: r) (p.length + n.length) ≠ c)
 rintro (e | e | e)
 ·omega
 ·simp only [List.length_append, List.length_cons] at e; omega
 ·exact e hg
theorem stp_inv {s : List UInt8} {i : Nat} {c : UInt8} {q : Nat × Nat} (hi : i ≤ s.length) (h : stp s i c = some q) : ∃ n, okN n ∧ s.drop i = n ++ c :: s.drop q.2 ∧ q.2 = i + n.length + 1 ∧ q.1 = valD 0 n ∧ q.2 ≤ s.length := by
 unfold stp at h
 split at h
 ·cases h
 ·rename_i hb
  obtain ⟨d, h1, h2, h3, h4, h5⟩ := whA_inv s 3 i 0 hi
  have e := Option.some.inj h
  obtain ⟨b1, b2⟩ := not_or.1 hb
  obtain ⟨b2, b3⟩ := not_or.1 b2
  have hlt : (whA s 3 i 0).2 < s.length := by omega
  have hg : ga s (whA s 3 i 0).2 = c := Classical.not_not.1 b3
  refine ⟨d, ⟨fun e2 => b1 (by rw [h4, e2]; rfl), h2, h1⟩, ?_, by rw [← e]; show (whA s 3 i 0).2 + 1 = _; omega, by rw [← e]; exact h5, by rw [← e]; exact hlt⟩
  rw [← e]
  show s.drop i = d ++ c :: s.drop ((whA s 3 i 0).2 + 1)
  rw [← hg, ← drop_ga hlt]; exact h3
theorem crossI_hit {w r : List UInt8} {x : Cr} (h : crossW w x) (p : List UInt8) : crossI (p ++ w ++ r) p.length = some (x, p.length + w.length) := by
 obtain ⟨b, n1, n2, n3, n4, o1, o2, o3, o4, rfl, rfl⟩ := h
 obtain ⟨sg, hsg⟩ : ∃ sg : UInt8, sg = if b = true then 43 else 45 := ⟨_, rfl⟩
 rw [← hsg]
 have e0 : p ++ (88 :: sg :: 91 :: (n1 ++ 44 :: (n2 ++ 44 :: (n3 ++ 44 :: (n4 ++ [93]))))) ++ r = p ++ 88 :: sg :: 91 :: (n1 ++ 44 :: (n2 ++ 44 :: (n3 ++ 44 :: (n4 ++ 93 :: r)))) := by simp
 rw [e0]
 obtain ⟨S, hS⟩ : ∃ S, S = p ++ 88 :: sg :: 91 :: (n1 ++ 44 :: (n2 ++ 44 :: (n3 ++ 44 :: (n4 ++ 93 :: r)))) := ⟨_, rfl⟩
 rw [← hS]
 have g0 : ga S p.length = 88 := by rw [hS]; exact ga_app2 _ _ 0 rfl
 have g1 : ga S (p.length + 1) = sg := by rw [hS]; exact ga_app2 _ _ 1 rfl
 have g2 : ga S (p.length + 2) = 91 := by rw [hS]; exact ga_app2 _ _ 2 rfl
 have h1 := stp_hit (r := n2 ++ 44 :: (n3 ++ 44 :: (n4 ++ 93 :: r))) (c := 44) o1 (by decide) (p ++ [88, sg, 91])
 have h2 := stp_hit (r := n3 ++ 44 :: (n4 ++ 93 :: r)) (c := 44) o2 (by decide) (p ++ [88, sg, 91] ++ n1 ++ [44])
 have h3 := stp_hit (r := n4 ++ 93 :: r) (c := 44) o3 (by decide) (p ++ [88, sg, 91] ++ n1 ++ [44] ++ n2 ++ [44])
 have h4 := stp_hit (r := r) (c := 93) o4 (by decide) (p ++ [88, sg, 91] ++ n1 ++ [44] ++ n2 ++ [44] ++ n3 ++ [44])
 have t1 : p ++ [88, sg, 91] ++ n1 ++ 44 :: (n2 ++ 44 :: (n3 ++ 44 :: (n4 ++ 93 :: r))) = S := by rw [hS]; simp
 have t2 : p ++ [88, sg, 91] ++ n1 ++ [44] ++ n2 ++ 44 :: (n3 ++ 44 :: (n4 ++ 93 :: r)) = S := by rw [hS]; simp
 have t3 : p ++ [88, sg, 91] ++ n1 ++ [44] ++ n2 ++ [44] ++ n3 ++ 44 :: (n4 ++ 93 :: r) = S := by rw [hS]; simp
 have t4 : p ++ [88, sg, 91] ++ n1 ++ [44] ++ n2 ++ [44] ++ n3 ++ [44] ++ n4 ++ 93 :: r = S := by rw [hS]; simp
 rw [t1] at h1; rw [t2] at h2; rw [t3] at h3; rw [t4] at h4
 simp only [List.length_append, List.length_cons, List.length_nil] at h1 h2 h3 h4
 have hd : hdI S p.length := ⟨by rw [hS]; simp only [List.length_append, List.length_cons]; omega, g0, by rw [g1, hsg]; cases b <;> simp, g2⟩
 unfold crossI
 rw [if_pos hd, g1]
 rw [show p.length + 3 = p.length + (0 + 1 + 1 + 1) by omega, h1]
 dsimp only
 rw [show p.length + (0 + 1 + 1 + 1) + n1.length + 1 = p.length + (0 + 1 + 1 + 1) + n1.length + (0 + 1) by omega, h2]
 dsimp only
 rw [show p.length + (0 + 1 + 1 + 1) + n1.length + (0 + 1) + n2.length + 1 = p.length + (0 + 1 + 1 + 1) + n1.length + (0 + 1) + n2.length + (0 + 1) by omega, h3]
 dsimp only
 rw [show p.length + (0 + 1 + 1 + 1) + n1.length + (0 + 1) + n2.length + (0 + 1) + n3.length + 1 = p.length + (0 + 1 + 1 + 1) + n1.length + (0 + 1) + n2.length + (0 + 1) + n3.length + (0 + 1) by omega, h4]
 have hb : decide (sg = 43) = b := by rw [hsg]; cases b <;> decide
 dsimp only
 rw [hb]
 simp only [List.length_append, List.length_cons, List.length_nil, Option.some.injEq, Prod.mk.injEq, true_and]
 omega
theorem crossI_inv {s : List UInt8} {k : Nat} {x : Cr} {e : Nat} (h : crossI s k = some (x, e)) : ∃ w, crossW w x ∧ s.drop k = w ++ s.drop e ∧ e = k + w.length ∧ e ≤ s.length := by
 unfold crossI at h
 split at h
 ·rename_i hd
  obtain ⟨d1, d2, d3, d4⟩ := hd
  split at h
  ·cases h
  ·rename_i q1 h1
   split at h
   ·cases h
   ·rename_i q2 h2
    split at h
    ·cases h
    ·rename_i q3 h3
     split at h
     ·cases h
     ·rename_i q4 h4
      obtain ⟨n1, o1, r1, e1, v1, l1⟩ := stp_inv d1 h1
      obtain ⟨n2, o2, r2, e2, v2, l2⟩ := stp_inv l1 h2
      obtain ⟨n3, o3, r3, e3, v3, l3⟩ := stp_inv l2 h3
      obtain ⟨n4, o4, r4, e4, v4, l4⟩ := stp_inv l3 h4
      have ee := Option.some.inj h
      have ex : x = ⟨(q1.1 : Nat), (q2.1 : Nat), (q3.1 : Nat), (q4.1 : Nat), decide (ga s (k + 1) = 43)⟩ := (congrArg Prod.fst ee).symm
      have eq : e = q4.2 := (congrArg Prod.snd ee).symm
      refine ⟨_, ⟨decide (ga s (k + 1) = 43), n1, n2, n3, n4, o1, o2, o3, o4, rfl, by rw [ex, v1, v2, v3, v4]⟩, ?_, ?_, by rw [eq]; exact l4⟩
      ·have hs : (if decide (ga s (k + 1) = 43) = true then (43 : UInt8) else 45) = ga s (k + 1) := by
        rcases d3 with e | e <;> rw [e] <;> decide
       rw [hs, drop_ga (show k < s.length by omega), drop_ga (show k + 1 < s.length by omega), drop_ga (show k + 1 + 1 < s.length by omega), d2, show ga s (k + 1 + 1) = 91 from d4, show k + 1 + 1 + 1 = k + 3 by omega, r1, r2, r3, r4, eq]
       simp
      ·rw [eq, e4, e3, e2, e1]
       simp only [List.length_append, List.length_cons, List.length_nil]
       omega
 ·cases h
def cdP : List (List UInt8) → Dg → Option Dg
 | [], d => some d
 | w :: ws, d => if w = [79] then cdP ws ⟨d.crs, d.loops + 1⟩ else match crossP w with
  | none => none
  | some x => cdP ws ⟨d.crs ++ [x], d.loops⟩
def blA (s : List UInt8) (k : Nat) : Bool := decide (s.length ≤ k) || isBl (ga s k)
def rdR (s : List UInt8) : Nat → Nat → Dg → Option Dg
 | 0, k, d => if k < s.length then none else some d
 | f + 1, k, d => if k < s.length then (if blA s k = true then rdR s f (k + 1) d else if ga s k = 79 ∧ blA s (k + 1) = true then rdR s f (k + 1) ⟨d.crs, d.loops + 1⟩ else match crossI s k with
  | none => none
  | some q => if blA s q.2 = true then rdR s f q.2 ⟨d.crs ++ [q.1], d.loops⟩ else none) else some d
theorem bl0_iff (s : List UInt8) (k : Nat) : blA s k = true ↔ bl0 (s.drop k) := by
 unfold blA bl0
 by_cases h : k < s.length
 ·rw [decide_eq_false (by omega), Bool.false_or, drop_ga h]
  constructor
  ·intro e; exact .inr ⟨_, _, rfl, e⟩
  ·rintro (e | ⟨c, q, e, hc⟩)
   ·cases e
   ·rw [(List.cons.inj e).1]; exact hc
 ·rw [decide_eq_true (by omega), Bool.true_or, List.drop_of_length_le (by omega)]
  simp
theorem read_words (s : List UInt8) : ∀ f k d, s.length ≤ k + f → rdR s f k d = cdP (fldA [] (s.drop k)) d := by
 intro f
 induction f with
 | zero =>
  intro k d h
  unfold rdR
  rw [if_neg (by omega), List.drop_of_length_le (by omega)]
  rfl
 | succ f ih =>
  intro k d h
  unfold rdR
  by_cases hk : k < s.length
  ·rw [if_pos hk]
   by_cases hb : blA s k = true
   ·rw [if_pos hb, ih _ _ (by omega), drop_ga hk]
    have hc : isBl (ga s k) = true := by unfold blA at hb; rwa [decide_eq_false (by omega), Bool.false_or] at hb
    rw [fldA, if_pos hc, if_pos rfl]
   ·rw [if_neg hb]
    obtain ⟨w, r, e, hw, hr⟩ := word_of (s.drop k)
    have hwn : w ≠ [] := fun e2 => hb ((bl0_iff s k).2 (by rw [e, e2]; exact hr))
    have hlen : s.length - k = w.length + r.length := by
     have := congrArg List.length e
     rwa [List.length_drop, List.length_append] at this
    have hdr : s.drop (k + w.length) = r := by rw [← List.drop_drop, e, List.drop_left]
    have hwl := List.length_pos_iff.2 hwn
    rw [e, fldA_word hwn hw hr]
    show _ = if w = [79] then _ else _
    by_cases h79 : w = [79]
    ·have g0 : ga s k = 79 := by
      have := drop_ga hk
      rw [e, h79] at this
      exact (List.cons.inj this).1.symm
     have hb1 : blA s (k + 1) = true := (bl0_iff s (k + 1)).2 (by rw [show k + 1 = k + w.length by rw [h79]; rfl, hdr]; exact hr)
     rw [if_pos ⟨g0, hb1⟩, if_pos h79, ih _ _ (by omega), show k + 1 = k + w.length by rw [h79]; rfl, hdr]
    ·have hn : ¬ (ga s k = 79 ∧ blA s (k + 1) = true) := by
      rintro ⟨g0, hb1⟩
      have e2 : w ++ r = [79] ++ s.drop (k + 1) := by rw [← e, drop_ga hk, g0]; rfl
      exact h79 (word_uniq e2 hw hr (by intro c hc; rw [List.mem_singleton.1 hc]; decide) ((bl0_iff s (k + 1)).1 hb1))
     rw [if_neg hn, if_neg h79]
     have hsp : s = s.take k ++ w ++ r := by rw [List.append_assoc, ← e, List.take_append_drop]
     have htk : (s.take k).length = k := by rw [List.length_take]; omega
     cases hx : crossP w with
     | some x =>
      have hI := crossI_hit (r := r) (crossP_some hx) (s.take k)
      rw [← hsp, htk] at hI
      rw [hI]
      dsimp only
      rw [if_pos ((bl0_iff s (k + w.length)).2 (by rw [hdr]; exact hr)), ih _ _ (by omega), hdr]
     | none =>
      cases hI : crossI s k with
      | none => rfl
      | some q =>
       obtain ⟨w2, c2, e2, l2, _⟩ := crossI_inv (x := q.1) (e := q.2) (by rw [hI])
       have hq : ¬ blA s q.2 = true := fun hb2 => by
        have := word_uniq (by rw [← e, e2]) hw hr (crossW_bl c2).2.2 ((bl0_iff s q.2).1 hb2)
        rw [this, crossP_of c2] at hx
        cases hx
       dsimp only
       rw [if_neg hq]
  ·rw [if_neg hk, List.drop_of_length_le (by omega)]
   rfl
def endC (o : Option Dg) : Dg × Int := match o with
 | none => (⟨[], 0⟩, 1)
 | some d => if mayB d = true then (d, 0) else (⟨[], 0⟩, 7)
def readC (s : List UInt8) : Dg × Int := if 2000 < s.length then (⟨[], 0⟩, 2) else endC (cdP (fldA [] s) ⟨[], 0⟩)
theorem readC_ref (s : List UInt8) : rdR s s.length 0 ⟨[], 0⟩ = cdP (fldA [] s) ⟨[], 0⟩ := by
 have := read_words s s.length 0 ⟨[], 0⟩ (by omega)
 rwa [List.drop_zero] at this
end Go.Proofs.YtklcecpjgingpaaDoor
