/- Part 7 of the proof of the law AlexTells: the walks through its functions and the plain laws that they need. -/
import Derived.Test.YtkcighnochjlgaaAtZ6
import Derived.Maps.RangeRun
import Derived.Shelf.SlMaps.Clone
set_option linter.unusedSimpArgs false
set_option linter.unusedVariables false
namespace Go.Proofs.Ytkcighnochjlgaa
/-- A sum. -/
def sm : Nat → (Nat → Pol) → Pol
  | 0, _ => Pol.o
  | n + 1, f => sm n f + f n
theorem sm_congr {n : Nat} {f g : Nat → Pol} (h : ∀ i, i < n → f i = g i) : sm n f = sm n g := by
  induction n with
  | zero => rfl
  | succ n ih => rw [sm, sm, ih (fun i hi => h i (by omega)), h n (by omega)]
theorem sm_zero (n : Nat) : sm n (fun _ => Pol.o) = Pol.o := by
  induction n with
  | zero => rfl
  | succ n ih => rw [sm, ih, Pol.add_zero]
theorem sm_add (n : Nat) (f g : Nat → Pol) : sm n (fun i => f i + g i) = sm n f + sm n g := by
  induction n with
  | zero => exact (Pol.add_zero _).symm
  | succ n ih => rw [sm, sm, sm, ih]; ac_rfl
theorem sm_mul (n : Nat) (x : Pol) (f : Nat → Pol) : sm n (fun i => x * f i) = x * sm n f := by
  induction n with
  | zero => exact (Pol.mul_zero x).symm
  | succ n ih => rw [sm, sm, ih, Pol.mul_add]
theorem sm_neg (n : Nat) (f : Nat → Pol) : sm n (fun i => - f i) = - sm n f := by
  induction n with
  | zero => exact Pol.neg_zero.symm
  | succ n ih => rw [sm, sm, ih, Pol.neg_add]
theorem sm_swap (n m : Nat) (f : Nat → Nat → Pol) : sm n (fun i => sm m (f i)) = sm m (fun j => sm n (fun i => f i j)) := by
  induction n with
  | zero => exact (sm_zero m).symm
  | succ n ih => rw [sm, ih]; simp only [sm]; rw [sm_add]
/-- Signs. -/
def sg (n : Nat) (x : Pol) : Pol := if n % 2 = 1 then -x else x
theorem sg_par {a b : Nat} (h : a % 2 = b % 2) (x : Pol) : sg a x = sg b x := by unfold sg; rw [h]
theorem sg_sg (a b : Nat) (x : Pol) : sg a (sg b x) = sg (a + b) x := by
  unfold sg
  split <;> split <;> split <;> first | rfl | (exfalso; omega) | exact Pol.neg_neg x
theorem sg_mul (a : Nat) (x y : Pol) : x * sg a y = sg a (x * y) := by
  unfold sg; split
  · exact Pol.mul_neg x y
  · rfl
theorem sg_sm (a n : Nat) (f : Nat → Pol) : sg a (sm n f) = sm n (fun i => sg a (f i)) := by
  unfold sg; split
  · exact (sm_neg n f).symm
  · rfl
theorem sg_o (a : Nat) : sg a Pol.o = Pol.o := by
  unfold sg; split
  · exact Pol.neg_zero
  · rfl
/-- How many of a set lie below. -/
def bl (S : Nat → Bool) : Nat → Nat
  | 0 => 0
  | c + 1 => bl S c + if S c = true then 1 else 0
theorem bl_mono (S : Nat → Bool) {a b : Nat} (h : a ≤ b) : bl S a ≤ bl S b := by
  induction b with
  | zero => obtain rfl : a = 0 := by omega
            exact Nat.le_refl _
  | succ b ih =>
    by_cases e : a = b + 1
    · subst e; exact Nat.le_refl _
    · exact Nat.le_trans (ih (by omega)) (by rw [bl]; omega)
theorem bl_lt {S : Nat → Bool} {c N : Nat} (h : c < N) (hc : S c = true) : bl S c < bl S N := by
  have h1 : bl S (c + 1) = bl S c + 1 := by rw [bl, if_pos hc]
  have := bl_mono S (show c + 1 ≤ N by omega)
  omega
/-- How many lie above, of those below N. -/
def ab (S : Nat → Bool) (N c : Nat) : Nat := bl S N - bl S (c + 1)
def del (S : Nat → Bool) (c : Nat) : Nat → Bool := fun x => S x && !decide (x = c)
theorem del_self (S : Nat → Bool) (c : Nat) : del S c c = false := by simp [del]
theorem del_ne (S : Nat → Bool) {c x : Nat} (h : x ≠ c) : del S c x = S x := by simp [del, h]
theorem del_del (S : Nat → Bool) (c d : Nat) : del (del S c) d = del (del S d) c := by
  funext x; unfold del; rw [Bool.and_assoc, Bool.and_assoc, Bool.and_comm (!decide (x = c))]
theorem bl_del (S : Nat → Bool) {c : Nat} (hc : S c = true) (n : Nat) : bl (del S c) n = bl S n - if c < n then 1 else 0 := by
  induction n with
  | zero => rfl
  | succ n ih =>
    rw [bl, bl, ih]
    by_cases e : n = c
    · subst e
      rw [del_self, if_neg (Nat.lt_irrefl n), if_pos (Nat.lt_succ_self n), if_pos hc]; simp
    · rw [del_ne S e]
      by_cases h : c < n
      · have := bl_lt h hc
        rw [if_pos h, if_pos (show c < n + 1 by omega)]; omega
      · rw [if_neg h, if_neg (show ¬ c < n + 1 by omega)]; omega
section
variable (m : Nat → Nat → Pol) (N : Nat)
def dF : List Nat → (Nat → Bool) → Pol
  | [], _ => Pol.i
  | r :: rs, S => sm N fun c => if S c = true then sg (bl S c) (m r c * dF rs (del S c)) else Pol.o
def dL : List Nat → (Nat → Bool) → Pol
  | [], _ => Pol.i
  | r :: rs, S => sm N fun c => if S c = true then sg (ab S N c) (m r c * dL rs (del S c)) else Pol.o
variable {m N}
theorem card_del {S : Nat → Bool} {c : Nat} (hc : c < N) (hS : S c = true) : bl (del S c) N + 1 = bl S N := by
  rw [bl_del S hS, if_pos hc]
  have := bl_lt hc hS
  omega
theorem dF_dL (n : Nat) : ∀ (rs : List Nat) (S : Nat → Bool), rs.length = n → bl S N = n → dF m N rs S = dL m N rs.reverse S := by
  induction n using Nat.strongRecOn with
  | _ n ih =>
  intro rs S hl hc
  match rs, hl with
  | [], _ => rfl
  | [a], hl =>
    simp only [List.length_singleton] at hl
    subst hl
    show dF m N [a] S = dL m N [a] S
    unfold dF dL
    refine sm_congr fun c hc' => ?_
    split
    · rename_i hS
      have h1 : bl S (c + 1) = bl S c + 1 := by rw [bl, if_pos hS]
      have h2 := bl_mono S (show c + 1 ≤ N by omega)
      rw [show bl S c = 0 by omega, show ab S N c = 0 by unfold ab; omega]
      rfl
    · rfl
  | a :: x :: rs, hl =>
    obtain ⟨mid, b, hmb⟩ : ∃ mid b, x :: rs = mid ++ [b] := ⟨_, _, (List.dropLast_concat_getLast (by simp : x :: rs ≠ [])).symm⟩
    rw [hmb] at hl ⊢
    simp only [List.length_cons, List.length_append, List.length_nil] at hl
    have e1 : (a :: (mid ++ [b])).reverse = b :: (mid.reverse ++ [a]) := by simp
    rw [e1]
    have hF : dF m N (a :: (mid ++ [b])) S = sm N fun c => sm N fun d => if S c = true ∧ S d = true ∧ c ≠ d then sg (bl S c + ab (del S c) N d) (m a c * (m b d * dL m N mid.reverse (del (del S c) d))) else Pol.o := by
      rw [dF]
      refine sm_congr fun c hc' => ?_
      by_cases hS : S c = true
      · rw [if_pos hS, ih (n - 1) (by omega) (mid ++ [b]) (del S c) (by simp; omega) (by have := card_del hc' hS; omega)]
        rw [show (mid ++ [b]).reverse = b :: mid.reverse by simp, dL, ← sm_mul, sg_sm]
        refine sm_congr fun d _ => ?_
        by_cases hd : S d = true ∧ c ≠ d
        · rw [if_pos (by rw [del_ne S (Ne.symm hd.2)]; exact hd.1), if_pos ⟨hS, hd⟩, sg_mul, sg_sg]
        · rw [if_neg (fun h => hd ⟨by
            by_cases e : d = c
            · subst e; exact hS
            · rwa [del_ne S e] at h, fun e => by subst e; rw [del_self] at h; cases h⟩), if_neg (fun h => hd h.2), Pol.mul_zero, sg_o]
      · rw [if_neg hS]
        rw [show (fun d => if S c = true ∧ S d = true ∧ c ≠ d then sg (bl S c + ab (del S c) N d) (m a c * (m b d * dL m N mid.reverse (del (del S c) d))) else Pol.o) = fun _ => Pol.o from by funext d; rw [if_neg (fun h => hS h.1)], sm_zero]
    have hL : dL m N (b :: (mid.reverse ++ [a])) S = sm N fun d => sm N fun c => if S c = true ∧ S d = true ∧ c ≠ d then sg (ab S N d + bl (del S d) c) (m b d * (m a c * dF m N mid (del (del S d) c))) else Pol.o := by
      rw [dL]
      refine sm_congr fun d hd' => ?_
      by_cases hS : S d = true
      · rw [if_pos hS, show mid.reverse ++ [a] = (a :: mid).reverse by simp, ← ih (n - 1) (by omega) (a :: mid) (del S d) (by simp; omega) (by have := card_del hd' hS; omega)]
        rw [dF, ← sm_mul, sg_sm]
        refine sm_congr fun c _ => ?_
        by_cases hc2 : S c = true ∧ c ≠ d
        · rw [if_pos (by rw [del_ne S hc2.2]; exact hc2.1), if_pos ⟨hc2.1, hS, hc2.2⟩, sg_mul, sg_sg]
        · rw [if_neg (fun h => hc2 ⟨by
            by_cases e : c = d
            · subst e; exact hS
            · rwa [del_ne S e] at h, fun e => by subst e; rw [del_self] at h; cases h⟩), if_neg (fun h => hc2 ⟨h.1, h.2.2⟩), Pol.mul_zero, sg_o]
      · rw [if_neg hS]
        rw [show (fun c => if S c = true ∧ S d = true ∧ c ≠ d then sg (ab S N d + bl (del S d) c) (m b d * (m a c * dF m N mid (del (del S d) c))) else Pol.o) = fun _ => Pol.o from by funext c; rw [if_neg (fun h => hS h.2.1)], sm_zero]
    rw [hF, hL, sm_swap]
    refine sm_congr fun d hd' => sm_congr fun c hc' => ?_
    by_cases h : S c = true ∧ S d = true ∧ c ≠ d
    · rw [if_pos h, if_pos h]
      have q1 := card_del hc' h.1
      have q2 := card_del (S := del S c) hd' (by rw [del_ne S (Ne.symm h.2.2)]; exact h.2.1)
      rw [← ih (n - 2) (by omega) mid (del (del S c) d) (by omega) (by omega), del_del S c d]
      rw [show m a c * (m b d * dF m N mid (del (del S d) c)) = m b d * (m a c * dF m N mid (del (del S d) c)) by ac_rfl]
      refine sg_par ?_ _
      have p1 : bl S (d + 1) = bl S d + 1 := by rw [bl, if_pos h.2.1]
      have p2 := bl_mono S (show d + 1 ≤ N by omega)
      unfold ab
      rw [bl_del S h.1, bl_del S h.1, bl_del S h.2.1, if_pos hc']
      by_cases hcd : c < d
      · rw [if_neg (show ¬ d < c by omega), if_pos (show c < d + 1 by omega)]
        have := bl_lt (show c < d by omega) h.1
        omega
      · have := bl_lt (show d < c by omega) h.2.1
        rw [if_pos (show d < c by omega), if_neg (show ¬ c < d + 1 by omega)]
        have p3 : bl S (c + 1) = bl S c + 1 := by rw [bl, if_pos h.1]
        have p4 := bl_mono S (show c + 1 ≤ N by omega)
        omega
    · rw [if_neg h, if_neg h]
end
def els (S : Nat → Bool) (N : Nat) : List Nat := (List.range N).filter S
theorem els_succ (S : Nat → Bool) (N : Nat) : els S (N + 1) = els S N ++ (if S N = true then [N] else []) := by
  unfold els
  rw [List.range_succ, List.filter_append]
  by_cases h : S N = true
  · rw [if_pos h, List.filter_cons_of_pos h]; rfl
  · rw [if_neg h, List.filter_cons_of_neg h]; rfl
theorem els_len (S : Nat → Bool) (N : Nat) : (els S N).length = bl S N := by
  induction N with
  | zero => rfl
  | succ N ih => rw [els_succ, List.length_append, ih, bl]; split <;> rfl
theorem els_nodup (S : Nat → Bool) (N : Nat) : (els S N).Nodup := List.Pairwise.filter _ List.nodup_range
theorem els_del (S : Nat → Bool) (N c : Nat) : els (del S c) N = (els S N).filter fun x => !decide (x = c) := by
  unfold els; rw [List.filter_filter]
  refine List.filter_congr fun x _ => ?_
  unfold del; rw [Bool.and_comm]
theorem filter_erase : ∀ {l : List Nat} (_ : l.Nodup) {j : Nat} (hj : j < l.length), (l.filter fun x => !decide (x = l[j])) = l.eraseIdx j
  | [], _, j, hj => by simp at hj
  | a :: l, hn, 0, _ => by
    obtain ⟨h1, h2⟩ := List.nodup_cons.1 hn
    simp only [List.getElem_cons_zero, List.eraseIdx_cons_zero]
    rw [List.filter_cons_of_neg (by simp)]
    exact List.filter_eq_self.2 fun x hx => by
      have : x ≠ a := fun e => h1 (e ▸ hx)
      simp [this]
  | a :: l, hn, j + 1, hj => by
    obtain ⟨h1, h2⟩ := List.nodup_cons.1 hn
    simp only [List.length_cons, Nat.add_lt_add_iff_right] at hj
    simp only [List.getElem_cons_succ, List.eraseIdx_cons_succ]
    have hne : a ≠ l[j] := fun e => h1 (e ▸ List.getElem_mem hj)
    rw [List.filter_cons_of_pos (by simp [hne]), filter_erase h2 hj]
theorem sm_els (S : Nat → Bool) (N : Nat) (f : Nat → Nat → Pol) : sm (els S N).length (fun j => f j (ga (els S N) j)) = sm N (fun c => if S c = true then f (bl S c) c else Pol.o) := by
  induction N with
  | zero => rfl
  | succ N ih =>
    rw [sm, ← ih]
    by_cases h : S N = true
    · have e : els S (N + 1) = els S N ++ [N] := by rw [els_succ, if_pos h]
      rw [if_pos h, e, List.length_append, List.length_singleton, sm]
      refine congr (congrArg _ (sm_congr fun i hi => ?_)) ?_
      · rw [ga_append_left _ _ _ hi]
      · rw [ga_append_right _ _ _ (Nat.le_refl _), Nat.sub_self, els_len]; rfl
    · have e : els S (N + 1) = els S N := by rw [els_succ, if_neg h, List.append_nil]
      rw [if_neg h, e, Pol.add_zero]
instance : Inhabited Pol := ⟨Pol.o⟩
/-- By the first row; n: how many rows there are. -/
def dT : Nat → List (List Pol) → Pol
  | 0, _ => Pol.i
  | n + 1, M => sm (n + 1) fun c => sg c (ga (ga M 0) c * dT n ((M.drop 1).map fun r => r.eraseIdx c))
theorem map_eraseIdx {α β : Type} (f : α → β) : ∀ (l : List α) (j : Nat), (l.map f).eraseIdx j = (l.eraseIdx j).map f
  | [], _ => rfl
  | _ :: _, 0 => rfl
  | a :: l, j + 1 => by simp only [List.map_cons, List.eraseIdx_cons_succ, map_eraseIdx f l j]
theorem dT_dF (m : Nat → Nat → Pol) (N : Nat) : ∀ (rs : List Nat) (S : Nat → Bool), bl S N = rs.length → dT rs.length (rs.map fun r => (els S N).map (m r)) = dF m N rs S
  | [], _, _ => rfl
  | r :: rs, S, h => by
    rw [List.length_cons] at h
    rw [List.length_cons, dT, dF, ← sm_els S N (fun b c => sg b (m r c * dF m N rs (del S c))), els_len, h]
    refine sm_congr fun j hj => ?_
    have hj' : j < (els S N).length := by rw [els_len]; omega
    have hg : ga (els S N) j = (els S N)[j] := ga_eq hj'
    have hmem := List.getElem_mem hj'
    have hS : S (els S N)[j] = true ∧ (els S N)[j] < N := by
      have := List.mem_filter.1 hmem
      exact ⟨this.2, List.mem_range.1 this.1⟩
    have e1 : ga (ga (List.map (fun r => List.map (m r) (els S N)) (r :: rs)) 0) j = m r (ga (els S N) j) := by
      rw [List.map_cons]
      show ga (List.map (m r) (els S N)) j = _
      unfold ga
      rw [List.getD_eq_getElem?_getD, List.getElem?_map, List.getD_eq_getElem?_getD, List.getElem?_eq_getElem hj']
      rfl
    rw [e1]
    have e2 : (List.drop 1 (List.map (fun r => List.map (m r) (els S N)) (r :: rs))).map (fun r => r.eraseIdx j) = rs.map fun r => (els (del S (ga (els S N) j)) N).map (m r) := by
      rw [List.map_cons, List.drop_one, List.tail_cons, List.map_map]
      refine List.map_congr_left fun q _ => ?_
      show ((els S N).map (m q)).eraseIdx j = _
      rw [map_eraseIdx, els_del, hg, filter_erase (els_nodup S N) hj']
    rw [e2, dT_dF m N rs _ (by rw [hg]; have := card_del hS.2 hS.1; omega)]
end Go.Proofs.Ytkcighnochjlgaa
namespace Go.Proofs.Ytkcighnochjlgaa
open Go.ChangeShapes Go.WideShapes Go.ChangeAt Go.RowKit
open Go.ChangeMaps (setBlock)
theorem MpOk.mono {κ ε : Type} {kc : κ → Value} {vc : ε → Value} {g : Nat} {es : List (κ × ε)} {N N' : Hp} (h : MpOk kc vc g es N) (k : N.le N') : MpOk kc vc g es N' := by
  obtain ⟨arr, clock, h1, h2, h3⟩ := h
  exact ⟨arr, clock, k _ _ h1, h2, h3⟩
/-- An iterator over a map that stays as it is. -/
def Rs.itr (g clock r : Nat) (seen : Array Nat) : Rs := ⟨[r], fun h => h r = some (.mapIter (some g) clock seen clock), fun h h' hb hk => by rw [hb r (by simp)]; exact hk⟩
section
variable {κ ε : Type}
/-- The map's entries. -/
def MpEs (kc : κ → Value) (vc : ε → Value) (N : Hp) (g : Nat) (arr : Array MapEntry) (clock : Nat) (es : List (κ × ε)) : Prop := N g = some (.map arr clock) ∧ arr.toList.map (fun e => (e.key, e.val)) = es.map (fun p => (kc p.1, vc p.2)) ∧ Stm arr clock
/-- What is left to come. -/
def Lft (kc : κ → Value) (vc : ε → Value) (arr : Array MapEntry) (seen : Array Nat) (lf : List (κ × ε)) : Prop := (leftOf arr seen).toList.map (fun e => (e.key, e.val)) = lf.map (fun p => (kc p.1, vc p.2))
/-- The entry that came last. -/
def Lst (kc : κ → Value) (vc : ε → Value) (arr : Array MapEntry) (seen : Array Nat) (k : κ) (v : ε) : Prop := ∃ (e : MapEntry) (s0 : Array Nat), seen = s0.push e.born ∧ e ∈ arr.toList ∧ e.key = kc k ∧ e.val = vc v
variable {kc : κ → Value} {vc : ε → Value} {N : Hp} {arr : Array MapEntry} {clock g : Nat} {es lf : List (κ × ε)} {seen : Array Nat}
theorem MpEs.mono {N' : Hp} (h : MpEs kc vc N g arr clock es) (k : N.le N') : MpEs kc vc N' g arr clock es := ⟨k _ _ h.1, h.2⟩
theorem MpOk.ents (h : MpOk kc vc g es N) : ∃ arr clock, MpEs kc vc N g arr clock es := by
  obtain ⟨arr, clock, h⟩ := h
  exact ⟨arr, clock, h⟩
theorem left_empty (arr : Array MapEntry) : leftOf arr #[] = arr := by unfold leftOf; simp
theorem MpEs.lft (h : MpEs kc vc N g arr clock es) : Lft kc vc arr #[] es := by unfold Lft; rw [left_empty]; exact h.2.1
theorem left_push (arr : Array MapEntry) (seen : Array Nat) (b : Nat) : (leftOf arr (seen.push b)).toList = (leftOf arr seen).toList.filter fun e => !decide (e.born = b) := by
  unfold leftOf
  rw [Array.toList_filter, Array.toList_filter, List.filter_filter]
  refine List.filter_congr fun x _ => ?_
  have e : (seen.push b).contains x.born = (seen.contains x.born || decide (x.born = b)) := by
    rw [Bool.eq_iff_iff]
    simp [Array.mem_push]
  rw [e, Bool.not_or, Bool.and_comm]
theorem filter_one {l : List MapEntry} (hn : (l.map (·.born)).Nodup) {e : MapEntry} (he : e ∈ l) : ∃ a b, l = a ++ e :: b ∧ (l.filter fun x => !decide (x.born = e.born)) = a ++ b := by
  obtain ⟨a, b, rfl⟩ := List.append_of_mem he
  refine ⟨a, b, rfl, ?_⟩
  rw [List.map_append, List.map_cons] at hn
  obtain ⟨n1, n2, n3⟩ := List.nodup_append.1 hn
  rw [List.filter_append, List.filter_cons_of_neg (by simp)]
  have h1 : (a.filter fun x => !decide (x.born = e.born)) = a := List.filter_eq_self.2 fun x hx => by
    have := n3 x.born (List.mem_map.2 ⟨x, hx, rfl⟩) e.born (by simp)
    simp [this]
  have h2 : (b.filter fun x => !decide (x.born = e.born)) = b := List.filter_eq_self.2 fun x hx => by
    have := (List.nodup_cons.1 n2).1
    have hne : x.born ≠ e.born := fun e' => this (by rw [← e']; exact List.mem_map.2 ⟨x, hx, rfl⟩)
    simp [hne]
  rw [h1, h2]
theorem split_map : ∀ {a : List MapEntry} {e : MapEntry} {b : List MapEntry} {lf : List (κ × ε)}, (a ++ e :: b).map (fun e => (e.key, e.val)) = lf.map (fun p => (kc p.1, vc p.2)) → ∃ l1 p l2, lf = l1 ++ p :: l2 ∧ e.key = kc p.1 ∧ e.val = vc p.2 ∧ (a ++ b).map (fun e => (e.key, e.val)) = (l1 ++ l2).map (fun p => (kc p.1, vc p.2))
  | [], e, b, [], h => by simp at h
  | [], e, b, p :: lf, h => by
    simp only [List.nil_append, List.map_cons, List.cons.injEq, Prod.mk.injEq] at h
    exact ⟨[], p, lf, rfl, h.1.1, h.1.2, h.2⟩
  | x :: a, e, b, [], h => by simp at h
  | x :: a, e, b, q :: lf, h => by
    simp only [List.cons_append, List.map_cons, List.cons.injEq] at h
    obtain ⟨l1, p, l2, rfl, h1, h2, h3⟩ := split_map h.2
    exact ⟨q :: l1, p, l2, rfl, h1, h2, by simp only [List.cons_append, List.map_cons, h.1, h3]⟩
section
variable {P : Program} {o : Oper} {L : List (Nat × Value)} {w : World} {x : Operand} {T K E : TypeId} {n d r i : Nat} {Kt : List (Nat × Value) → World → Prop} {M : Hp} {X : Fr} {H : List Rs}
theorem wo_range (hop : o.op = .range T x) (hd : o.dst = some d) (hn : Nat.blt d n = true) (hx : oev L x = some (.map (some g))) (hu : P.underlying T = some (.map K E)) (S : SH w M X H) (hg : MpEs kc vc N g arr clock es) (hN : N.le (hp w))
    (h : ∀ r w', SH w' M X (Rs.itr g clock r #[] :: H) → Kt ((d, .pointer (some ⟨r, 0, none⟩)) :: L) w') : WO P n o L w Kt := by
  have hg' : w.heap[g]? = some (.map arr clock) := hN _ _ hg.1
  refine wo_run (v := .pointer (some ⟨w.heap.size, 0, none⟩)) (w' := w.alloc (.mapIter (some g) clock #[] clock)) hd hn ?_ (h _ _ ?_)
  · intro n c he
    unfold execOp
    simp only [hop, he.eval hx, run_range_map w T K E g arr clock hu hg', Sem.run_bind, Result.andThen_ok, Sem.run_pure]
  · exact S.cons (like_alloc w _) (keep_alloc w _) (heap_alloc_new w _) (fun b hb => by simp [Rs.itr] at hb; subst hb; rw [size_al]; omega)
theorem wo_next (hop : o.op = .next x false) (hd : o.dst = some d) (hn : Nat.blt d n = true) (hx : oev L x = some (.pointer (some ⟨r, 0, none⟩))) (S : SH w M X H) (hi : nth H i = some (Rs.itr g clock r seen)) (hg : MpEs kc vc N g arr clock es) (hN : N.le (hp w)) (hl : Lft kc vc arr seen lf)
    (h0 : lf = [] → Kt ((d, .tuple [.bool false].toArray) :: L) w)
    (h1 : ∀ k v l1 l2 seen' w', lf = l1 ++ (k, v) :: l2 → Lft kc vc arr seen' (l1 ++ l2) → Lst kc vc arr seen' k v → SH w' M X (H.set i (Rs.itr g clock r seen')) → Kt ((d, .tuple [.bool true, kc k, vc v].toArray) :: L) w') : WO P n o L w Kt := by
  have hg' : w.heap[g]? = some (.map arr clock) := hN _ _ hg.1
  have hr : w.heap[r]? = some (.mapIter (some g) clock seen clock) := S.get hi
  rcases run_next_at (P := P) w o.type r g clock clock seen arr clock hr hg' hg.2.2.2 (Nat.le_refl _) with ⟨e0, hrun⟩ | ⟨e, he, w1, hal, hrun⟩
  · refine wo_run (v := .tuple #[.bool false]) (w' := w) hd hn ?_ (h0 ?_)
    · intro n c he
      unfold execOp
      simp only [hop, he.eval hx, hrun, Sem.run_bind, Result.andThen_ok, Sem.run_pure]
    · have : leftOf arr seen = #[] := Array.eq_empty_of_size_eq_zero e0
      unfold Lft at hl
      rw [this] at hl
      cases lf with
      | nil => rfl
      | cons p l => simp at hl
  · obtain ⟨hem, _⟩ := mem_left he
    have hsub : ((leftOf arr seen).toList.map (·.born)).Nodup := by
      unfold leftOf; rw [Array.toList_filter]
      exact List.Nodup.sublist (List.Sublist.map _ List.filter_sublist) hg.2.2.1
    obtain ⟨a, b, hab, hf⟩ := filter_one hsub he
    unfold Lft at hl
    rw [hab] at hl
    obtain ⟨l1, p, l2, hlf, hk, hv, hl'⟩ := split_map hl
    have hrun' : (Instr.next (.pointer (some ⟨r, 0, none⟩)) false o.type).run P w = .ok (.tuple [.bool true, kc p.1, vc p.2].toArray) (setBlock w1 r (.mapIter (some g) clock (seen.push e.born) clock)) := by rw [hrun, hk, hv]
    have hr1 : w1.heap[r]? = some (.mapIter (some g) clock seen clock) := by rcases hal with rfl | rfl <;> exact hr
    have hset := Go.MapKept.heap_set (o' := .mapIter (some g) clock (seen.push e.born) clock) hr1
    have hlike : Like w w1 := by rcases hal with rfl | rfl <;> exact ⟨rfl, rfl, rfl, Nat.le_refl _⟩
    have hheap : w1.heap = w.heap := by rcases hal with rfl | rfl <;> rfl
    have hsz : (setBlock w1 r (.mapIter (some g) clock (seen.push e.born) clock)).heap.size = w1.heap.size := by simp [setBlock]
    refine wo_run (v := .tuple [.bool true, kc p.1, vc p.2].toArray) (w' := setBlock w1 r (.mapIter (some g) clock (seen.push e.born) clock)) hd hn ?_ (h1 p.1 p.2 l1 l2 (seen.push e.born) _ hlf ?_ ⟨e, seen, rfl, hem, hk, hv⟩ ?_)
    · intro n c he
      unfold execOp
      simp only [hop, he.eval hx, hrun', Sem.run_bind, Result.andThen_ok, Sem.run_pure]
    · unfold Lft
      rw [left_push, hf]
      exact hl'
    · refine S.step hi rfl (hlike.trans ⟨rfl, rfl, rfl, by rw [hsz]; exact Nat.le_refl _⟩) (fun b _ hb => ?_) hset.1 (fun b hb => ⟨.inl hb, ?_⟩)
      · have hne : b ≠ r := by simpa [Rs.itr] using hb
        show (setBlock w1 r _).heap[b]? = w.heap[b]?
        exact (hset.2 b hne).trans (by rw [hheap])
      · simp [Rs.itr] at hb
        subst hb
        rw [hsz, hheap]
        exact hp_lt hr
theorem run_entry (hop : o.op = .entry x) (hx : oev L x = some (.pointer (some ⟨r, 0, none⟩))) (S : SH w M X H) (hi : nth H i = some (Rs.itr g clock r seen)) (hg : MpEs kc vc N g arr clock es) (hN : N.le (hp w)) {k : κ} {v : ε} (hl : Lst kc vc arr seen k v) : Run P o L w (.tuple [kc k, vc v].toArray) w := by
  have hg' : w.heap[g]? = some (.map arr clock) := hN _ _ hg.1
  obtain ⟨e, s0, rfl, he, hk, hv⟩ := hl
  have hr : w.heap[r]? = some (.mapIter (some g) clock (s0.push e.born) clock) := S.get hi
  have hrun := run_entry_at (P := P) w r g clock s0 arr clock e hr hg' he hg.2.2.1
  rw [hk, hv] at hrun
  intro n c he
  unfold execOp
  simp only [hop, he.eval hx, hrun, Sem.run_bind, Result.andThen_ok, Sem.run_pure]
theorem one_sh (hm : MpOk kc vc g es (hp w)) : SH w (fun _ => none) ⟨fun _ => none, w⟩ [Rs.mp kc vc g es] := by
  refine ⟨fun _ _ h => by simp at h, fun _ _ h => by simp at h, fun _ _ h => by simp at h, fun r hr => ?_, fun r hr b hb => ?_, fun i j r s hij h1 h2 => ?_, Like.refl w⟩
  · rw [List.mem_singleton] at hr; subst hr; exact hm
  · rw [List.mem_singleton] at hr; subst hr
    obtain ⟨arr, clock, h1, _⟩ := hm
    simp [Rs.mp] at hb; subst hb
    exact ⟨hp_lt h1, rfl, rfl⟩
  · have h1 := (List.getElem?_eq_some_iff.1 h1).1
    have h2 := (List.getElem?_eq_some_iff.1 h2).1
    simp at h1 h2; omega
/-- A lookup in a map that lasts. -/
theorem lookM [DecidableEq κ] {k : κ} {zv : ε} (hm : MpOk kc vc g es (hp w)) (hu : P.underlying T = some (.map K E)) (hK : MapK P K kc) (hz : (P.info? E).map (·.zero) = some (some (vc zv))) : (Instr.lookup T (.map (some g)) (kc k) false).run P w = .ok (vc ((mg k es).getD zv)) w :=
  (SH.look (i := 0) (H := [Rs.mp kc vc g es]) (M := fun _ => none) (X := ⟨fun _ => none, w⟩) (one_sh hm) rfl hu hK hz).1
theorem run_lookupM [DecidableEq κ] {y : Operand} {k : κ} {zv : ε} (hop : o.op = .lookup T x y false) (hx : oev L x = some (.map (some g))) (hy : oev L y = some (kc k)) (hu : P.underlying T = some (.map K E)) (hK : MapK P K kc) (hz : (P.info? E).map (·.zero) = some (some (vc zv))) (hm : MpOk kc vc g es N) (hN : N.le (hp w)) : Run P o L w (vc ((mg k es).getD zv)) w := by
  intro n c he
  unfold execOp
  simp only [hop, he.eval hx, he.eval hy, lookM (hm.mono hN) hu hK hz, Sem.run_bind, Result.andThen_ok, Sem.run_pure]
/-- A map of the call's own lasts from now on. -/
theorem SH.pubmap {H' : List Rs} (S : SH w M X H) (hi : nth H i = some (Rs.mp kc vc g es)) (hH : H.set i Rs.emp = H') : ∃ M', M.le M' ∧ SH w M' X H' ∧ MpOk kc vc g es M' := by
  obtain ⟨h1, h2, h3⟩ := S.pub hi hH
  have h4 : MpOk kc vc g es (hp w) := S.get hi
  obtain ⟨arr, clock, e, h5⟩ := h4
  exact ⟨_, h1, h2, arr, clock, (h3 g (by simp [Rs.mp])).trans e, h5⟩
end
end
section
variable {P : Program} {o : Oper} {L : List (Nat × Value)} {w : World} {x y : Operand} {t t' : TypeId} {a b : Int}
theorem run_mulW (ho : o.op = .binOp .mul t x y t') (hx : oev L x = some (.int .i64 a)) (hy : oev L y = some (.int .i64 b)) : Run P o L w (.int .i64 (wr (a * b))) w :=
  run_bin ho hx hy fun w => by simp [binOp, Op.intArith, wr]
theorem run_negW (ho : o.op = .unOp .neg t x) (hx : oev L x = some (.int .i64 a)) : Run P o L w (.int .i64 (wr (-a))) w := by
  intro n c hc; unfold execOp; simp [ho, hc.eval hx, Op.unary, Op.intArith, wr]
end
end Go.Proofs.Ytkcighnochjlgaa
namespace Go.Proofs.Ytkcighnochjlgaa
open Go.ChangeShapes Go.WideShapes Go.ChangeAt Go.RowKit
def Bd (l : List Tm) (B : Nat) : Prop := ∀ t ∈ l, -(B : Int) ≤ t.e ∧ t.e ≤ B
theorem Bd.mono {l : List Tm} {B C : Nat} (h : Bd l B) (k : B ≤ C) : Bd l C := fun t ht => by have := h t ht; omega
theorem put_bd {l : List Tm} {B : Nat} (h : Bd l B) {e c : Int} (he : -(B : Int) ≤ e ∧ e ≤ B) : Bd (put l e c) B := fun t ht => by
  rcases put_mem ht with e1 | h1
  · rw [e1]; exact he
  · exact h t h1
theorem inc_len : ∀ {ks : List Int} {lo hi : Int}, ks.Pairwise (fun a b => a < b) → (∀ k ∈ ks, lo ≤ k ∧ k ≤ hi) → lo ≤ hi + 1 → (ks.length : Int) ≤ hi - lo + 1
  | [], lo, hi, _, _, h => by simp; omega
  | k :: ks, lo, hi, hp, hb, h => by
    obtain ⟨h1, h2⟩ := List.pairwise_cons.1 hp
    have hk := hb k (by simp)
    have := inc_len (lo := k + 1) (hi := hi) h2 (fun j hj => ⟨by have := h1 j hj; omega, (hb j (by simp [hj])).2⟩) (by omega)
    simp only [List.length_cons]
    omega
theorem can_len {l : List Tm} {B : Nat} (h : Can l) (hb : Bd l B) : l.length ≤ 2 * B + 1 := by
  have := inc_len (ks := l.map (·.e)) (lo := -(B : Int)) (hi := B) (by rw [List.pairwise_map]; exact h.1) (fun k hk => by
    obtain ⟨t, ht, rfl⟩ := List.mem_map.1 hk
    exact hb t ht) (by omega)
  rw [List.length_map] at this
  omega
def Ents (es : List (Int × Int)) (B : Nat) : Prop := (es.map Prod.fst).Nodup ∧ ∀ q ∈ es, (-(B : Int) ≤ q.1 ∧ q.1 ≤ B) ∧ wr q.2 = q.2
theorem Ents.nil_ (B : Nat) : Ents [] B := ⟨by simp, by simp⟩
theorem Ents.mono {es : List (Int × Int)} {B C : Nat} (h : Ents es B) (k : B ≤ C) : Ents es C := ⟨h.1, fun q hq => by have := h.2 q hq; exact ⟨by omega, this.2⟩⟩
theorem mp_mem {k v : Int} {es : List (Int × Int)} {q : Int × Int} (h : q ∈ mp k v es) : q = (k, v) ∨ q ∈ es := by
  induction es with
  | nil => simp [mp] at h; exact .inl h
  | cons p r ih =>
    unfold mp at h
    split at h
    · rcases List.mem_cons.1 h with e | h
      · exact .inl e
      · exact .inr (by simp [h])
    · rcases List.mem_cons.1 h with e | h
      · exact .inr (by simp [e])
      · rcases ih h with e | h
        · exact .inl e
        · exact .inr (by simp [h])
theorem mp_keys (k v : Int) (es : List (Int × Int)) : (mp k v es).map Prod.fst = if k ∈ es.map Prod.fst then es.map Prod.fst else es.map Prod.fst ++ [k] := by
  induction es with
  | nil => simp [mp]
  | cons p r ih =>
    unfold mp
    by_cases h : k = p.1
    · rw [if_pos h]; simp [h]
    · rw [if_neg h, List.map_cons, ih]
      by_cases h2 : k ∈ r.map Prod.fst
      · rw [if_pos h2, if_pos (by rw [List.map_cons]; exact List.mem_cons_of_mem _ h2), List.map_cons]
      · rw [if_neg h2, if_neg (by rw [List.map_cons]; intro h3; exact (List.mem_cons.1 h3).elim h h2), List.map_cons, List.cons_append]
theorem mp_ents {es : List (Int × Int)} {B : Nat} (h : Ents es B) {k v : Int} (hk : -(B : Int) ≤ k ∧ k ≤ B) (hv : wr v = v) : Ents (mp k v es) B := by
  refine ⟨?_, fun q hq => ?_⟩
  · rw [mp_keys]
    split
    · exact h.1
    · rename_i hn
      exact List.nodup_append.2 ⟨h.1, by simp, fun a ha b hb => by simp at hb; subst hb; exact fun e => hn (e ▸ ha)⟩
  · rcases mp_mem hq with rfl | hq
    · exact ⟨hk, hv⟩
    · exact h.2 q hq
theorem mk_mp (k v : Int) (es : List (Int × Int)) : mk (mp k v es) = mk es + mono k (v - (mg k es).getD 0) := by
  induction es with
  | nil =>
    show mk [(k, v)] = Pol.o + mono k (v - 0)
    rw [Pol.zero_add, Int.sub_zero]; rfl
  | cons p r ih =>
    unfold mp mg
    by_cases h : k = p.1
    · rw [if_pos h, if_pos h, mk_cons, mk_cons]
      subst h
      show mono p.1 v + mk r = mono p.1 p.2 + mk r + mono p.1 (v - p.2)
      rw [Pol.add_assoc, Pol.add_comm (mk r), ← Pol.add_assoc, ← mono_add, show p.2 + (v - p.2) = v by omega]
    · rw [if_neg h, if_neg h, mk_cons, mk_cons, ih, Pol.add_assoc]
theorem mk_mp_add (k c : Int) (es : List (Int × Int)) : mk (mp k (wr ((mg k es).getD 0 + c)) es) = mk es + mono k c := by
  rw [mk_mp]
  refine congrArg _ (mono_congr rfl ?_)
  have h1 := md_add (md_wr ((mg k es).getD 0 + c)) (rfl : md (-(mg k es).getD 0) = _)
  rw [show wr ((mg k es).getD 0 + c) - (mg k es).getD 0 = wr ((mg k es).getD 0 + c) + -(mg k es).getD 0 by omega, h1]
  congr 1; omega
theorem mg_mem {es : List (Int × Int)} (h : (es.map Prod.fst).Nodup) {q : Int × Int} (hq : q ∈ es) : (mg q.1 es).getD 0 = q.2 := by
  induction es with
  | nil => simp at hq
  | cons p r ih =>
    obtain ⟨h1, h2⟩ := List.nodup_cons.1 (by simpa using h : (p.1 :: r.map Prod.fst).Nodup)
    unfold mg
    rcases List.mem_cons.1 hq with rfl | hq
    · rw [if_pos rfl]; rfl
    · rw [if_neg (fun e => h1 (by rw [← e]; exact List.mem_map.2 ⟨q, hq, rfl⟩))]
      exact ih h2 hq
theorem mg_none {es : List (Int × Int)} {k : Int} (h : k ∉ es.map Prod.fst) : (mg k es).getD 0 = 0 := by
  induction es with
  | nil => rfl
  | cons p r ih =>
    unfold mg
    rw [if_neg (fun e => h (by simp [e]))]
    exact ih fun h2 => h (by rw [List.map_cons]; exact List.mem_cons_of_mem _ h2)
theorem mg_rng {es : List (Int × Int)} {B : Nat} (h : Ents es B) (k : Int) : wr ((mg k es).getD 0) = (mg k es).getD 0 := by
  by_cases hk : k ∈ es.map Prod.fst
  · obtain ⟨q, hq, rfl⟩ := List.mem_map.1 hk
    rw [mg_mem h.1 hq]; exact (h.2 q hq).2
  · rw [mg_none hk]; exact wr_id (by omega)
theorem srt_inc {ks : List Int} (h : ks.Nodup) : (srt ks).Pairwise (fun a b => a < b) := by
  have h1 : (srt ks).Pairwise (fun a b => decide (a ≤ b) = true) := List.pairwise_mergeSort (fun a b c h1 h2 => by simp at *; omega) (fun a b => by simp; omega) ks
  have h2 : (srt ks).Nodup := (srt_perm ks).nodup_iff.2 h
  exact (h1.and h2).imp fun {a b} h => by have := h.1; have := h.2; simp at *; omega
theorem ents_len {es : List (Int × Int)} {B : Nat} (h : Ents es B) : es.length ≤ 2 * B + 1 := by
  have := inc_len (ks := srt (es.map Prod.fst)) (lo := -(B : Int)) (hi := B) (srt_inc h.1) (fun k hk => by
    obtain ⟨q, hq, rfl⟩ := List.mem_map.1 (srt_mem.1 hk)
    exact (h.2 q hq).1) (by omega)
  rw [srt_len, List.length_map] at this
  omega
def fm (es : List (Int × Int)) (ks : List Int) : List Tm := ks.flatMap fun e => if (mg e es).getD 0 = 0 then [] else [⟨e, (mg e es).getD 0⟩]
theorem fm_snoc (es : List (Int × Int)) (ks : List Int) (e : Int) : fm es (ks ++ [e]) = fm es ks ++ (if (mg e es).getD 0 = 0 then [] else [⟨e, (mg e es).getD 0⟩]) := by
  unfold fm; rw [List.flatMap_append]; simp
theorem fm_mem {es : List (Int × Int)} {ks : List Int} {t : Tm} (h : t ∈ fm es ks) : t.e ∈ ks ∧ t.c = (mg t.e es).getD 0 ∧ t.c ≠ 0 := by
  obtain ⟨e, he, ht⟩ := List.mem_flatMap.1 h
  split at ht
  · simp at ht
  · rename_i h0
    simp at ht; subst ht; exact ⟨he, rfl, h0⟩
theorem fm_len (es : List (Int × Int)) (ks : List Int) : (fm es ks).length ≤ ks.length := by
  induction ks with
  | nil => simp [fm]
  | cons k ks ih =>
    have : fm es (k :: ks) = (if (mg k es).getD 0 = 0 then [] else [⟨k, (mg k es).getD 0⟩]) ++ fm es ks := by unfold fm; rw [List.flatMap_cons]
    rw [this, List.length_append, List.length_cons]
    split <;> simp <;> omega
theorem fm_inc {es : List (Int × Int)} : ∀ {ks : List Int}, ks.Pairwise (fun a b => a < b) → (fm es ks).Pairwise (fun s t => s.e < t.e)
  | [], _ => List.Pairwise.nil
  | k :: ks, h => by
    obtain ⟨h1, h2⟩ := List.pairwise_cons.1 h
    have e : fm es (k :: ks) = (if (mg k es).getD 0 = 0 then [] else [⟨k, (mg k es).getD 0⟩]) ++ fm es ks := by unfold fm; rw [List.flatMap_cons]
    rw [e]
    split
    · exact fm_inc h2
    · exact List.pairwise_cons.2 ⟨fun t ht => h1 _ (fm_mem ht).1, fm_inc h2⟩
theorem mk_fm (es : List (Int × Int)) (ks : List Int) : mk (pr (fm es ks)) = mk (ks.map fun e => (e, (mg e es).getD 0)) := by
  induction ks with
  | nil => rfl
  | cons k ks ih =>
    have e : fm es (k :: ks) = (if (mg k es).getD 0 = 0 then [] else [⟨k, (mg k es).getD 0⟩]) ++ fm es ks := by unfold fm; rw [List.flatMap_cons]
    rw [e, List.map_cons, mk_cons, ← ih]
    split
    · rename_i h0
      show mk (pr (fm es ks)) = mono k ((mg k es).getD 0) + _
      rw [h0, mono_zero, Pol.zero_add]
    · rfl
def formL (es : List (Int × Int)) : List Tm := fm es (srt (es.map Prod.fst))
theorem mk_formL {es : List (Int × Int)} {B : Nat} (h : Ents es B) : mk (pr (formL es)) = mk es := by
  unfold formL
  rw [mk_fm, mk_perm ((srt_perm (es.map Prod.fst)).map _), List.map_map]
  refine congrArg mk ?_
  conv => rhs; rw [← List.map_id es]
  refine List.map_congr_left fun q hq => ?_
  show (q.1, (mg q.1 es).getD 0) = q
  rw [mg_mem h.1 hq]
theorem formL_bd {es : List (Int × Int)} {B : Nat} (h : Ents es B) : Bd (formL es) B := fun t ht => by
  obtain ⟨q, hq, e⟩ := List.mem_map.1 (srt_mem.1 (fm_mem ht).1)
  rw [← e]; exact (h.2 q hq).1
theorem formL_can {es : List (Int × Int)} {B : Nat} (h : Ents es B) (hB : B ≤ 1099511627776) : Can (formL es) := by
  refine ⟨fm_inc (srt_inc h.1), fun t ht => ?_⟩
  obtain ⟨h1, h2, h3⟩ := fm_mem ht
  have := formL_bd h t ht
  exact ⟨h3, by rw [h2]; exact mg_rng h _, wr_id (by omega)⟩
def Wk (N : Hp) (g : Nat) (B : Nat) (p : Pol) : Prop := ∃ es, MpOk (Value.int .i64) (Value.int .i64) g es N ∧ Ents es B ∧ mk es = p
theorem Wk.mono {N N' : Hp} {g B : Nat} {p : Pol} (h : Wk N g B p) (k : N.le N') : Wk N' g B p := by
  obtain ⟨es, h1, h2⟩ := h
  exact ⟨es, h1.mono k, h2⟩
theorem Wk.up {N : Hp} {g B C : Nat} {p : Pol} (h : Wk N g B p) (k : B ≤ C) : Wk N g C p := by
  obtain ⟨es, h1, h2, h3⟩ := h
  exact ⟨es, h1, h2.mono k, h3⟩
def WkR (B : Nat) (p : Pol) (u : Value) (N : Hp) : Prop := ∃ g, u = .map (some g) ∧ Wk N g B p
/-- Codec of lists of polynomials at work: each a map, or none yet. -/
def mpF (o : Option Nat) : List Value := [.map o]
theorem mpF_one (o : Option Nat) : ∀ u ∈ mpF o, u.oneCell' = true := fun u hu => by
  simp [mpF] at hu; subst hu; rfl
def cdMap (E : TypeId) : Cd (Option Nat) := ⟨mpF, 1, 8, E, none, fun _ => rfl, mpF_one⟩
/-- What the maps of a list are; bf: their exponents' bounds. -/
def Wks (bf : Nat → Nat) (N : Hp) (gs : List (Option Nat)) (ps : List (Option Pol)) : Prop := gs.length = ps.length ∧ ∀ i, i < gs.length → match ga ps i with
  | some p => ∃ g, ga gs i = some g ∧ Wk N g (bf i) p
  | none => ga gs i = none
section
variable {bf : Nat → Nat} {N N' : Hp} {gs : List (Option Nat)} {ps : List (Option Pol)}
theorem Wks.mono (h : Wks bf N gs ps) (k : N.le N') : Wks bf N' gs ps := ⟨h.1, fun i hi => by
  have := h.2 i hi
  split at this
  · obtain ⟨g, h1, h2⟩ := this
    exact ⟨g, h1, h2.mono k⟩
  · exact this⟩
theorem Wks.get (h : Wks bf N gs ps) {i : Nat} (hi : i < gs.length) {p : Pol} (hp : ga ps i = some p) : ∃ g, ga gs i = some g ∧ Wk N g (bf i) p := by
  have := h.2 i hi
  rw [hp] at this
  exact this
theorem Wks.rep (bf : Nat → Nat) (N : Hp) (n : Nat) : Wks bf N (List.replicate n none) (List.replicate n none) := ⟨by simp, fun i hi => by
  simp at hi
  rw [ga_rep _ _ _ hi, ga_rep _ _ _ hi]⟩
theorem Wks.nil_ (bf : Nat → Nat) (N : Hp) : Wks bf N [] [] := ⟨rfl, fun i hi => by simp at hi⟩
theorem Wks.set_ (h : Wks bf N gs ps) {g : Nat} {p : Pol} {i : Nat} (hg : Wk N g (bf i) p) (hi : i < gs.length) : Wks bf N (gs.set i (some g)) (ps.set i (some p)) := ⟨by simp [h.1], fun j hj => by
  rw [List.length_set] at hj
  rw [ga_set _ _ _ _ hi, ga_set _ _ _ _ (by rw [← h.1]; exact hi)]
  by_cases e : i = j
  · subst e; rw [if_pos rfl, if_pos rfl]; exact ⟨g, rfl, hg⟩
  · rw [if_neg e, if_neg e]; exact h.2 j hj⟩
end
/-- A table of maps. -/
def WksA (bf : Nat → Nat) (N : Hp) (gss : List (List (Option Nat))) (pss : List (List (Option Pol))) : Prop := gss.length = pss.length ∧ ∀ i, i < gss.length → Wks bf N (ga gss i) (ga pss i)
section
variable {bf : Nat → Nat} {N N' : Hp} {gss : List (List (Option Nat))} {pss : List (List (Option Pol))}
theorem WksA.mono (h : WksA bf N gss pss) (k : N.le N') : WksA bf N' gss pss := ⟨h.1, fun i hi => (h.2 i hi).mono k⟩
theorem WksA.nil_ (bf : Nat → Nat) (N : Hp) : WksA bf N [] [] := ⟨rfl, fun i hi => by simp at hi⟩
theorem WksA.snoc (h : WksA bf N gss pss) {gs : List (Option Nat)} {ps : List (Option Pol)} (k : Wks bf N gs ps) : WksA bf N (gss ++ [gs]) (pss ++ [ps]) := ⟨by simp [h.1], fun j hj => by
  simp at hj
  by_cases e : j < gss.length
  · rw [ga_append_left _ _ _ e, ga_append_left _ _ _ (by rw [← h.1]; exact e)]; exact h.2 j e
  · have hl := h.1
    obtain rfl : j = gss.length := by omega
    rw [ga_append_right gss _ _ (by omega), ga_append_right pss _ _ (by omega), show gss.length - gss.length = 0 by omega, show gss.length - pss.length = 0 by omega]
    exact k⟩
theorem WksA.set_ (h : WksA bf N gss pss) {gs : List (Option Nat)} {ps : List (Option Pol)} (k : Wks bf N gs ps) {i : Nat} (hi : i < gss.length) : WksA bf N (gss.set i gs) (pss.set i ps) := ⟨by simp [h.1], fun j hj => by
  rw [List.length_set] at hj
  rw [ga_set _ _ _ _ hi, ga_set _ _ _ _ (by rw [← h.1]; exact hi)]
  by_cases e : i = j
  · rw [if_pos e, if_pos e]; exact k
  · rw [if_neg e, if_neg e]; exact h.2 j hj⟩
end
end Go.Proofs.Ytkcighnochjlgaa
namespace Go.Proofs.Ytkcighnochjlgaa
open Go.ChangeShapes Go.WideShapes Go.ChangeAt Go.RowKit
set_option maxRecDepth 100000 in
set_option maxHeartbeats 2000000 in
theorem clone_any (b : Nat) (es : Array MapEntry) (clock : Nat) (w : World) (hb : w.heap[b]? = some (.map es clock)) :
    Calls Try.prog 103 #[.map (some b)] w fun e w' => e = .returned (.map (some w.heap.size)) ∧ w' = w.alloc (.map es clock) := by
  have hq := fun w => run_eql_map_nil_sl (P := Try.prog) w 87 _ _ (some b) Try.underlying87
  go_enter Try.func103, Try.ntmps103
  go_wp2
  rw [run_callFunc_extern Try.func141 (by kernel_rfl) (by kernel_rfl) (by kernel_rfl) (e := Extern.MapsClone.clone) (by kernel_rfl), run_maps_clone_sl w 87 hb]
  simp only [Result.andThen]
  rw [Oper.upon_value]
  go_wp2
  rw [run_typeAssert_map_sl _ 87 _ _ _ _ Try.underlying87]
  simp only [Result.andThen]
  rw [Oper.upon_value]
  go_wp2
  go_ret
  exact ⟨rfl, rfl⟩
/-- The copy is the call's own. -/
theorem Clone_o {w : World} {M : Hp} {X : Fr} {g : Nat} {es : List (Int × Int)} (h : MpOk (Value.int .i64) (Value.int .i64) g es (M.un X.h)) (S : SH w M X []) :
    Co Try.prog 103 [.map (some g)] w M X fun u N => ∃ g', u = .map (some g') ∧ N = [Rs.mp (Value.int .i64) (Value.int .i64) g' es] := by
  obtain ⟨arr, clock, h1, h2, h3⟩ := h
  have hb : w.heap[g]? = some (.map arr clock) := S.um _ _ h1
  unfold Co
  refine (clone_any g arr clock w hb).mono ?_
  rintro e w' ⟨rfl, rfl⟩
  refine ⟨_, rfl, _, S.cons (r := Rs.mp (Value.int .i64) (Value.int .i64) w.heap.size es) (like_alloc w _) (keep_alloc w _) ⟨arr, clock, heap_alloc_new w _, h2, h3⟩ (fun b hb => by simp [Rs.mp] at hb; subst hb; rw [size_al]; omega), _, rfl, rfl⟩
end Go.Proofs.Ytkcighnochjlgaa
namespace Go.Proofs.Ytkcighnochjlgaa
open Go.ChangeShapes Go.WideShapes Go.ChangeAt Go.RowKit
def tmF (t : Tm) : List Value := [.int .i64 t.e, .int .i64 t.c]
def cdTm : Cd Tm := ⟨tmF, 2, 16, 89, ⟨0, 0⟩, fun _ => rfl, by
 intro x u hu
 simp [tmF] at hu
 rcases hu with rfl | rfl <;> rfl⟩
/-- A list of terms that may be handed in. -/
def okT (a : List Tm) (i : Nat) : Prop := (-1000 ≤ (ga a i).e ∧ (ga a i).e ≤ 1000) ∧ (-1000000 ≤ (ga a i).c ∧ (ga a i).c ≤ 1000000) ∧ (ga a i).c ≠ 0 ∧ (0 < i → (ga a ((i : Int) - 1).toNat).e < (ga a i).e)
instance (a : List Tm) (i : Nat) : Decidable (okT a i) := by unfold okT; infer_instance
def LsE (a : List Tm) (u : Value) (N : Hp) : Prop := ∃ A c, u = .slice A a.length c ∧ RdA cdTm N A c a
/-- A polynomial in form, as a list that lasts. -/
def PT (B : Nat) (p : Pol) (u : Value) (N : Hp) : Prop := ∃ A c l, u = .slice A l.length c ∧ RdA cdTm N A c l ∧ Can l ∧ Bd l B ∧ mk (pr l) = p
theorem put_eq {l : List Tm} {e c : Int} {k : Nat} (hk : k ≤ l.length) (hlt : ∀ j, j < k → (ga l j).e < e) (hc : c ≠ 0) (hend : k = l.length ∨ (k < l.length ∧ ¬ (ga l k).e < e)) :
  put l e c = l.take k ++ (if k < l.length ∧ (ga l k).e = e then (if wr ((ga l k).c + c) = 0 then [] else [⟨e, wr ((ga l k).c + c)⟩]) ++ l.drop (k + 1) else ⟨e, c⟩ :: l.drop k) := by
 induction l generalizing k with
 | nil =>
  obtain rfl : k = 0 := by simp at hk; exact hk
  simp [put, hc]
 | cons t l ih =>
  unfold put
  rw [if_neg hc]
  cases k with
  | zero =>
   have hend' : ¬ t.e < e := by
    rcases hend with h | h
    ·simp at h
    ·exact h.2
   rw [if_neg hend']
   by_cases he : t.e = e
   ·have h2 : 0 < (t :: l).length ∧ (ga (t :: l) 0).e = e := ⟨by simp, he⟩
    rw [if_pos he, if_pos h2]
    show (if wr (t.c + c) = 0 then l else ⟨e, wr (t.c + c)⟩ :: l) = [] ++ ((if wr (t.c + c) = 0 then [] else [⟨e, wr (t.c + c)⟩]) ++ l)
    split <;> rfl
   ·have h2 : ¬ (0 < (t :: l).length ∧ (ga (t :: l) 0).e = e) := fun h => he h.2
    rw [if_neg he, if_neg h2]; rfl
  | succ k =>
   have h0 : t.e < e := hlt 0 (by omega)
   rw [if_pos h0]
   simp only [List.length_cons] at hk hend
   have e1 : ga (t :: l) (k + 1) = ga l k := rfl
   rw [ih (k := k) (by omega) (fun j hj => hlt (j + 1) (by omega)) (by rw [e1] at hend; omega), e1]
   simp only [List.length_cons, List.take_succ_cons, List.drop_succ_cons, List.cons_append, Nat.add_lt_add_iff_right]
theorem sl22 : SlOf Try.prog 22 cdTm := ⟨.agg [.int .i64 0, .int .i64 0].toArray, Try.underlying22, by kernel_rfl, rfl, by decide, by decide⟩
noncomputable def sameTerms_n0 : Code := Try.f17.body.getD .skip
noncomputable def sameTerms_n1 : Code := cL sameTerms_n0
noncomputable def sameTerms_n2 : Code := cR sameTerms_n0
noncomputable def sameTerms_n3 : Code := cL sameTerms_n2
noncomputable def sameTerms_n4 : Code := cR sameTerms_n2
noncomputable def sameTerms_n5 : Code := cL sameTerms_n3
noncomputable def sameTerms_n6 : Code := cR sameTerms_n3
noncomputable def sameTerms_n7 : Code := cL sameTerms_n6
noncomputable def sameTerms_n8 : Code := cR sameTerms_n6
noncomputable def sameTerms_n9 : Code := cL sameTerms_n4
noncomputable def sameTerms_n10 : Code := cR sameTerms_n4
noncomputable def sameTerms_n11 : Code := cL sameTerms_n9
noncomputable def sameTerms_n12 : Code := cR sameTerms_n9
noncomputable def sameTerms_n13 : Code := cL sameTerms_n12
noncomputable def sameTerms_n14 : Code := cL sameTerms_n13
noncomputable def sameTerms_n15 : Code := cL sameTerms_n14
noncomputable def sameTerms_n16 : Code := cR sameTerms_n14
noncomputable def sameTerms_n17 : Code := cL sameTerms_n15
noncomputable def sameTerms_n18 : Code := cR sameTerms_n15
noncomputable def sameTerms_n19 : Code := cL sameTerms_n18
noncomputable def sameTerms_n20 : Code := cR sameTerms_n18
noncomputable def sameTerms_n21 : Code := cL sameTerms_n16
noncomputable def sameTerms_n22 : Code := cR sameTerms_n16
noncomputable def sameTerms_n23 : Code := cL sameTerms_n21
noncomputable def sameTerms_n24 : Code := cL sameTerms_n23
noncomputable def sameTerms_n25 : Code := cR sameTerms_n23
noncomputable def sameTerms_n26 : Code := cL sameTerms_n25
noncomputable def sameTerms_n27 : Code := cR sameTerms_n25
noncomputable def sameTerms_n28 : Code := cL sameTerms_n10
noncomputable def sameTerms_n29 : Code := cR sameTerms_n10
set_option maxRecDepth 10000 in
theorem sameTerms_q {w : World} {M : Hp} {X : Fr} (p : List Tm) {pA : Option Addr} {pc : Nat} (q : List Tm) {qA : Option Addr} {qc : Nat} (hp : RdA cdTm (M.un X.h) pA pc p) (hq : RdA cdTm (M.un X.h) qA qc q) (he : p = q) (S : SH w M X []) : Cq Try.prog 17 [.slice pA p.length pc, .slice qA q.length qc] w M X (fun u => u = .bool true) := by
 unfold Cq
 have rmhp : p.length * 16 ≤ 140737488355328 := hp.room
 have rmhq : q.length * 16 ≤ 140737488355328 := hq.room
 have hle : p.length = q.length := by rw [he]
 refine calls_in (b := sameTerms_n0) Try.func17 rfl Try.ntmps17 rfl (fun C hC => ?_)
 refine ws_sub [(0, _), (1, _)] ⟨rfl, rfl, trivial⟩ ?_
 refine ws_seqN sameTerms_n1 sameTerms_n2 rfl rfl rfl ?_
 refine ws_region rfl ?_
 refine wla 0 1 rfl rfl rfl rfl rfl rfl rfl ?_
 refine wl_end rfl ?_
 refine nm_sub [(0, _), (1, _)] ⟨rfl, rfl, trivial⟩ ?_
 refine nm_thn ?_
 refine ws_seqN sameTerms_n3 sameTerms_n4 rfl rfl rfl ?_
 refine ws_seqN sameTerms_n5 sameTerms_n6 rfl rfl rfl ?_
 refine ws_region rfl ?_
 refine wlm 0 1 rfl rfl rfl rfl rfl rfl rfl ?_
 refine wlo 1 2 rfl rfl rfl (wo_run rfl rfl (run_len rfl rfl rfl rfl rfl rfl Try.underlying22) ?_)
 refine wlm 2 3 rfl rfl rfl rfl rfl rfl rfl ?_
 refine wlo 3 4 rfl rfl rfl (wo_run rfl rfl (run_len rfl rfl rfl rfl rfl rfl Try.underlying22) ?_)
 refine wlo 4 5 rfl rfl rfl (wo_run rfl rfl (run_neq rfl rfl rfl) ?_)
 refine wl_end rfl ?_
 refine nm_sub [(0, _), (1, _), (10, _)] ⟨rfl, rfl, rfl, trivial⟩ ?_
 refine nm_thn ?_
 refine ws_condN sameTerms_n7 sameTerms_n8 rfl rfl rfl rfl (fun hb10 => ?_) (fun hb10 => ?_)
 ·have hb10 := of_decide_eq_true hb10
  exfalso; omega
 ·have hb10 := of_decide_eq_false hb10
  refine ws_skip rfl ?_
  refine nm_sub [(0, _), (1, _)] ⟨rfl, rfl, trivial⟩ ?_
  refine nm_thn ?_
  refine ws_seqN sameTerms_n9 sameTerms_n10 rfl rfl rfl ?_
  refine ws_seqN sameTerms_n11 sameTerms_n12 rfl rfl rfl ?_
  refine ws_region rfl ?_
  refine wla 0 1 rfl rfl rfl rfl rfl rfl rfl ?_
  refine wl_end rfl ?_
  refine nm_thn ?_
  refine ws_blockN sameTerms_n13 0 rfl rfl rfl ?_
  refine ws_loopE (fun mx_ ax_ wx_ => ∃ (k : Nat), mx_ = p.length - k ∧ Env 26 [(0, .slice pA p.length pc), (1, .slice qA q.length qc), (5, .int .i64 (k : Int))] ax_ ∧ SH wx_ M X [] ∧ k ≤ p.length) rfl ?_ ?_
  ·intro ax_ hax_
   refine ⟨_, ⟨0, rfl, hax_.sub ⟨rfl, rfl, rfl, trivial⟩, S.pick [] [] (by decide) trivial, ?hq1f0⟩⟩
   case hq1f0 => omega
  ·rintro m1 a1 w1 ⟨k, rfl, he1, S1, hk⟩
   clear S
   refine ws_in he1 (c := sameTerms_n14) rfl ?_
   clear he1 a1
   refine ws_seqN sameTerms_n15 sameTerms_n16 rfl rfl rfl ?_
   refine ws_seqN sameTerms_n17 sameTerms_n18 rfl rfl rfl ?_
   refine ws_region rfl ?_
   refine wlm 0 1 rfl rfl rfl rfl rfl rfl rfl ?_
   refine wlm 1 2 rfl rfl rfl rfl rfl rfl rfl ?_
   refine wlo 2 3 rfl rfl rfl (wo_run rfl rfl (run_len rfl rfl rfl rfl rfl rfl Try.underlying22) ?_)
   refine wlo 3 4 rfl rfl rfl (wo_run rfl rfl (run_lss rfl rfl rfl) ?_)
   refine wl_end rfl ?_
   refine nm_sub [(0, _), (1, _), (5, _), (14, _)] ⟨rfl, rfl, rfl, rfl, trivial⟩ ?_
   refine nm_thn ?_
   refine ws_condN sameTerms_n19 sameTerms_n20 rfl rfl rfl rfl (fun hb14 => ?_) (fun hb14 => ?_)
   ·have hb14 := of_decide_eq_true hb14
    refine ws_skip rfl ?_
    refine nm_sub [(0, _), (1, _), (5, _)] ⟨rfl, rfl, rfl, trivial⟩ ?_
    refine nm_thn ?_
    refine ws_seqN sameTerms_n21 sameTerms_n22 rfl rfl rfl ?_
    refine ws_blockN sameTerms_n23 1 rfl rfl rfl ?_
    refine ws_seqN sameTerms_n24 sameTerms_n25 rfl rfl rfl ?_
    refine ws_draw rfl (by kernel_rfl) S1 9 rfl ?_
    clear S1
    refine wa_takeP (i := 0) (d := 17) 8 rfl (by kernel_rfl) (by kernel_rfl) (by kernel_rfl) rfl rfl rfl (fun w2 => run_move rfl rfl) ?_
    refine wa_takeP (i := 1) (d := 18) 7 rfl (by kernel_rfl) (by kernel_rfl) (by kernel_rfl) rfl rfl rfl (fun w3 => run_move rfl rfl) ?_
    refine wa_take (i := 2) (d := 19) 6 rfl (by kernel_rfl) (by kernel_rfl) (by kernel_rfl) rfl rfl rfl (fun M3 N3 w4 hle4 S4 => .inl (run_indexM (C := cdTm) k rfl rfl rfl sl22 (by first | rfl | omega) (hp.mono (Hp.un_mono hle4 S4.mx)) (by first | omega | (simp only [lens]; omega)))) ?_
    refine wa_take (i := 3) (d := 20) 5 rfl (by kernel_rfl) (by kernel_rfl) (by kernel_rfl) rfl rfl rfl (fun M4 N4 w5 hle5 S5 => .inl (run_loadN (us := [_, _]) rfl rfl Try.underlying89 rfl sz89 ((hp.mono (Hp.un_mono hle5 S5.mx)).cellsAt S5.um (e := k) (by first | omega | (simp only [lens]; omega)) (j := 0) ⟨rfl, rfl, trivial⟩))) ?_
    refine wa_takeP (i := 4) (d := 21) 4 rfl (by kernel_rfl) (by kernel_rfl) (by kernel_rfl) rfl rfl rfl (fun w6 => run_move rfl rfl) ?_
    refine wa_takeP (i := 5) (d := 22) 3 rfl (by kernel_rfl) (by kernel_rfl) (by kernel_rfl) rfl rfl rfl (fun w7 => run_move rfl rfl) ?_
    refine wa_take (i := 6) (d := 23) 2 rfl (by kernel_rfl) (by kernel_rfl) (by kernel_rfl) rfl rfl rfl (fun M7 N7 w8 hle8 S8 => .inl (run_indexM (C := cdTm) k rfl rfl rfl sl22 (by first | rfl | omega) (hq.mono (Hp.un_mono hle8 S8.mx)) (by first | omega | (simp only [lens]; omega)))) ?_
    refine wa_take (i := 7) (d := 24) 1 rfl (by kernel_rfl) (by kernel_rfl) (by kernel_rfl) rfl rfl rfl (fun M8 N8 w9 hle9 S9 => .inl (run_loadN (us := [_, _]) rfl rfl Try.underlying89 rfl sz89 ((hq.mono (Hp.un_mono hle9 S9.mx)).cellsAt S9.um (e := k) (by first | omega | (simp only [lens]; omega)) (j := 0) ⟨rfl, rfl, trivial⟩))) ?_
    refine wa_takeP (i := 8) (d := 25) 0 rfl (by kernel_rfl) (by kernel_rfl) (by kernel_rfl) rfl rfl rfl (fun w10 => run_neSt (Q := ((ga p k).e) = ((ga q k).e) ∧ ((ga p k).c) = ((ga q k).c)) rfl rfl rfl se89 ⟨_, _, _, _, rfl, rfl, ⟨_, _, _, rfl, rfl, rfl⟩, rfl⟩) ?_
    refine wa_end (by kernel_rfl) (fun w11 S11 => ?_)
    refine nm_sub [(0, _), (1, _), (5, _), (25, _)] ⟨rfl, rfl, rfl, rfl, trivial⟩ ?_
    refine nm_thn ?_
    refine ws_condN sameTerms_n26 sameTerms_n27 rfl rfl rfl rfl (fun hb25 => ?_) (fun hb25 => ?_)
    ·have hb25 := of_decide_eq_true hb25
     exfalso; exact hb25 (by rw [he]; exact ⟨rfl, rfl⟩)
    ·have hb25 := of_decide_eq_false hb25
     refine ws_skip rfl ?_
     refine nm_blk ?_
     refine nm_sub [(0, _), (1, _), (5, _)] ⟨rfl, rfl, rfl, trivial⟩ ?_
     refine nm_thn ?_
     refine ws_region rfl ?_
     refine wlm 0 1 rfl rfl rfl rfl rfl rfl rfl ?_
     refine wlo 1 2 rfl rfl rfl (wo_run rfl rfl (run_add rfl rfl rfl (by first | omega | (simp only [lens]; omega))) ?_)
     refine wla 2 3 rfl rfl rfl rfl rfl rfl rfl ?_
     refine wl_end rfl ?_
     refine nm_lp ?_
     intro ax_ hax_
     refine ⟨_, ?hq2m, ⟨k + 1, rfl, hax_.sub ⟨rfl, rfl, rfl, trivial⟩, S11.pick [] [] (by decide) trivial, ?hq2f0⟩⟩
     case hq2f0 => omega
     case hq2m => omega
   ·have hb14 := of_decide_eq_false hb14
    refine ws_exit rfl rfl ?_
    refine nm_sub [] trivial ?_
    refine nm_thn ?_
    refine ws_seqN sameTerms_n28 sameTerms_n29 rfl rfl rfl ?_
    refine ws_region rfl ?_
    refine wla 0 1 rfl rfl rfl rfl rfl rfl rfl ?_
    refine wl_end rfl ?_
    refine nm_thn ?_
    refine ws_ret hC [_] rfl rfl ⟨rfl, trivial⟩ ?_
    exact ⟨_, rfl, (S1.pick [] [] (by decide) trivial), rfl⟩
end Go.Proofs.Ytkcighnochjlgaa
