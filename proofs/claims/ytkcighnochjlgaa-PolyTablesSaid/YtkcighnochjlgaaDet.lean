/- Determinants over classes of polynomials: by the first row, and by the last one. Nothing of one program stands here. -/
import Derived.Test.YtkcighnochjlgaaPo
namespace Go.Proofs.Ytkcighnochjlgaa

/-- A sum. -/
def sm : Nat → (Nat → Pol) → Pol
  | 0, _ => Pol.o
  | n + 1, f => sm n f + f n
theorem sm_congr {n : Nat} {f g : Nat → Pol} (h : ∀ i, i < n → f i = g i) : sm n f = sm n g := by
  induction n with
  | zero => rfl
  | succ n ih => rw [sm, sm, ih (fun i hi => h i (by omega)), h n (by omega)]
theorem sm_zero (n : Nat) : sm n (fun _ => Pol.o) = Pol.o := by
  induction n with
  | zero => rfl
  | succ n ih => rw [sm, ih, Pol.add_zero]
theorem sm_add (n : Nat) (f g : Nat → Pol) : sm n (fun i => f i + g i) = sm n f + sm n g := by
  induction n with
  | zero => exact (Pol.add_zero _).symm
  | succ n ih => rw [sm, sm, sm, ih]; ac_rfl
theorem sm_mul (n : Nat) (x : Pol) (f : Nat → Pol) : sm n (fun i => x * f i) = x * sm n f := by
  induction n with
  | zero => exact (Pol.mul_zero x).symm
  | succ n ih => rw [sm, sm, ih, Pol.mul_add]
theorem sm_neg (n : Nat) (f : Nat → Pol) : sm n (fun i => - f i) = - sm n f := by
  induction n with
  | zero => exact Pol.neg_zero.symm
  | succ n ih => rw [sm, sm, ih, Pol.neg_add]
theorem sm_swap (n m : Nat) (f : Nat → Nat → Pol) : sm n (fun i => sm m (f i)) = sm m (fun j => sm n (fun i => f i j)) := by
  induction n with
  | zero => exact (sm_zero m).symm
  | succ n ih => rw [sm, ih]; simp only [sm]; rw [sm_add]
/-- Signs. -/
def sg (n : Nat) (x : Pol) : Pol := if n % 2 = 1 then -x else x
theorem sg_par {a b : Nat} (h : a % 2 = b % 2) (x : Pol) : sg a x = sg b x := by unfold sg; rw [h]
theorem sg_zero (x : Pol) : sg 0 x = x := rfl
theorem sg_sg (a b : Nat) (x : Pol) : sg a (sg b x) = sg (a + b) x := by
  unfold sg
  split <;> split <;> split <;> first | rfl | (exfalso; omega) | exact Pol.neg_neg x
theorem sg_mul (a : Nat) (x y : Pol) : x * sg a y = sg a (x * y) := by
  unfold sg; split
  · exact Pol.mul_neg x y
  · rfl
theorem sg_sm (a n : Nat) (f : Nat → Pol) : sg a (sm n f) = sm n (fun i => sg a (f i)) := by
  unfold sg; split
  · exact (sm_neg n f).symm
  · rfl
theorem sg_o (a : Nat) : sg a Pol.o = Pol.o := by
  unfold sg; split
  · exact Pol.neg_zero
  · rfl
/-- How many of a set lie below. -/
def bl (S : Nat → Bool) : Nat → Nat
  | 0 => 0
  | c + 1 => bl S c + if S c = true then 1 else 0
theorem bl_mono (S : Nat → Bool) {a b : Nat} (h : a ≤ b) : bl S a ≤ bl S b := by
  induction b with
  | zero => obtain rfl : a = 0 := by omega
            exact Nat.le_refl _
  | succ b ih =>
    by_cases e : a = b + 1
    · subst e; exact Nat.le_refl _
    · exact Nat.le_trans (ih (by omega)) (by rw [bl]; omega)
theorem bl_lt {S : Nat → Bool} {c N : Nat} (h : c < N) (hc : S c = true) : bl S c < bl S N := by
  have h1 : bl S (c + 1) = bl S c + 1 := by rw [bl, if_pos hc]
  have := bl_mono S (show c + 1 ≤ N by omega)
  omega
/-- How many lie above, of those below N. -/
def ab (S : Nat → Bool) (N c : Nat) : Nat := bl S N - bl S (c + 1)
def del (S : Nat → Bool) (c : Nat) : Nat → Bool := fun x => S x && !decide (x = c)
theorem del_self (S : Nat → Bool) (c : Nat) : del S c c = false := by simp [del]
theorem del_ne (S : Nat → Bool) {c x : Nat} (h : x ≠ c) : del S c x = S x := by simp [del, h]
theorem del_del (S : Nat → Bool) (c d : Nat) : del (del S c) d = del (del S d) c := by
  funext x; unfold del; rw [Bool.and_assoc, Bool.and_assoc, Bool.and_comm (!decide (x = c))]
theorem bl_del (S : Nat → Bool) {c : Nat} (hc : S c = true) (n : Nat) : bl (del S c) n = bl S n - if c < n then 1 else 0 := by
  induction n with
  | zero => rfl
  | succ n ih =>
    rw [bl, bl, ih]
    by_cases e : n = c
    · subst e
      rw [del_self, if_neg (Nat.lt_irrefl n), if_pos (Nat.lt_succ_self n), if_pos hc]; simp
    · rw [del_ne S e]
      by_cases h : c < n
      · have := bl_lt h hc
        rw [if_pos h, if_pos (show c < n + 1 by omega)]; omega
      · rw [if_neg h, if_neg (show ¬ c < n + 1 by omega)]; omega
section
variable (m : Nat → Nat → Pol) (N : Nat)
def dF : List Nat → (Nat → Bool) → Pol
  | [], _ => Pol.i
  | r :: rs, S => sm N fun c => if S c = true then sg (bl S c) (m r c * dF rs (del S c)) else Pol.o
def dL : List Nat → (Nat → Bool) → Pol
  | [], _ => Pol.i
  | r :: rs, S => sm N fun c => if S c = true then sg (ab S N c) (m r c * dL rs (del S c)) else Pol.o
variable {m N}
theorem card_del {S : Nat → Bool} {c : Nat} (hc : c < N) (hS : S c = true) : bl (del S c) N + 1 = bl S N := by
  rw [bl_del S hS, if_pos hc]
  have := bl_lt hc hS
  omega
theorem dF_dL (n : Nat) : ∀ (rs : List Nat) (S : Nat → Bool), rs.length = n → bl S N = n → dF m N rs S = dL m N rs.reverse S := by
  induction n using Nat.strongRecOn with
  | _ n ih =>
  intro rs S hl hc
  match rs, hl with
  | [], _ => rfl
  | [a], hl =>
    simp only [List.length_singleton] at hl
    subst hl
    show dF m N [a] S = dL m N [a] S
    unfold dF dL
    refine sm_congr fun c hc' => ?_
    split
    · rename_i hS
      have h1 : bl S (c + 1) = bl S c + 1 := by rw [bl, if_pos hS]
      have h2 := bl_mono S (show c + 1 ≤ N by omega)
      rw [show bl S c = 0 by omega, show ab S N c = 0 by unfold ab; omega]
      rfl
    · rfl
  | a :: x :: rs, hl =>
    obtain ⟨mid, b, hmb⟩ : ∃ mid b, x :: rs = mid ++ [b] := ⟨_, _, (List.dropLast_concat_getLast (by simp : x :: rs ≠ [])).symm⟩
    rw [hmb] at hl ⊢
    simp only [List.length_cons, List.length_append, List.length_nil] at hl
    have e1 : (a :: (mid ++ [b])).reverse = b :: (mid.reverse ++ [a]) := by simp
    rw [e1]
    have hF : dF m N (a :: (mid ++ [b])) S = sm N fun c => sm N fun d => if S c = true ∧ S d = true ∧ c ≠ d then sg (bl S c + ab (del S c) N d) (m a c * (m b d * dL m N mid.reverse (del (del S c) d))) else Pol.o := by
      rw [dF]
      refine sm_congr fun c hc' => ?_
      by_cases hS : S c = true
      · rw [if_pos hS, ih (n - 1) (by omega) (mid ++ [b]) (del S c) (by simp; omega) (by have := card_del hc' hS; omega)]
        rw [show (mid ++ [b]).reverse = b :: mid.reverse by simp, dL, ← sm_mul, sg_sm]
        refine sm_congr fun d _ => ?_
        by_cases hd : S d = true ∧ c ≠ d
        · rw [if_pos (by rw [del_ne S (Ne.symm hd.2)]; exact hd.1), if_pos ⟨hS, hd⟩, sg_mul, sg_sg]
        · rw [if_neg (fun h => hd ⟨by
            by_cases e : d = c
            · subst e; exact hS
            · rwa [del_ne S e] at h, fun e => by subst e; rw [del_self] at h; cases h⟩), if_neg (fun h => hd h.2), Pol.mul_zero, sg_o]
      · rw [if_neg hS]
        rw [show (fun d => if S c = true ∧ S d = true ∧ c ≠ d then sg (bl S c + ab (del S c) N d) (m a c * (m b d * dL m N mid.reverse (del (del S c) d))) else Pol.o) = fun _ => Pol.o from by funext d; rw [if_neg (fun h => hS h.1)], sm_zero]
    have hL : dL m N (b :: (mid.reverse ++ [a])) S = sm N fun d => sm N fun c => if S c = true ∧ S d = true ∧ c ≠ d then sg (ab S N d + bl (del S d) c) (m b d * (m a c * dF m N mid (del (del S d) c))) else Pol.o := by
      rw [dL]
      refine sm_congr fun d hd' => ?_
      by_cases hS : S d = true
      · rw [if_pos hS, show mid.reverse ++ [a] = (a :: mid).reverse by simp, ← ih (n - 1) (by omega) (a :: mid) (del S d) (by simp; omega) (by have := card_del hd' hS; omega)]
        rw [dF, ← sm_mul, sg_sm]
        refine sm_congr fun c _ => ?_
        by_cases hc2 : S c = true ∧ c ≠ d
        · rw [if_pos (by rw [del_ne S hc2.2]; exact hc2.1), if_pos ⟨hc2.1, hS, hc2.2⟩, sg_mul, sg_sg]
        · rw [if_neg (fun h => hc2 ⟨by
            by_cases e : c = d
            · subst e; exact hS
            · rwa [del_ne S e] at h, fun e => by subst e; rw [del_self] at h; cases h⟩), if_neg (fun h => hc2 ⟨h.1, h.2.2⟩), Pol.mul_zero, sg_o]
      · rw [if_neg hS]
        rw [show (fun c => if S c = true ∧ S d = true ∧ c ≠ d then sg (ab S N d + bl (del S d) c) (m b d * (m a c * dF m N mid (del (del S d) c))) else Pol.o) = fun _ => Pol.o from by funext c; rw [if_neg (fun h => hS h.2.1)], sm_zero]
    rw [hF, hL, sm_swap]
    refine sm_congr fun d hd' => sm_congr fun c hc' => ?_
    by_cases h : S c = true ∧ S d = true ∧ c ≠ d
    · rw [if_pos h, if_pos h]
      have q1 := card_del hc' h.1
      have q2 := card_del (S := del S c) hd' (by rw [del_ne S (Ne.symm h.2.2)]; exact h.2.1)
      rw [← ih (n - 2) (by omega) mid (del (del S c) d) (by omega) (by omega), del_del S c d]
      rw [show m a c * (m b d * dF m N mid (del (del S d) c)) = m b d * (m a c * dF m N mid (del (del S d) c)) by ac_rfl]
      refine sg_par ?_ _
      have p1 : bl S (d + 1) = bl S d + 1 := by rw [bl, if_pos h.2.1]
      have p2 := bl_mono S (show d + 1 ≤ N by omega)
      unfold ab
      rw [bl_del S h.1, bl_del S h.1, bl_del S h.2.1, if_pos hc']
      by_cases hcd : c < d
      · rw [if_neg (show ¬ d < c by omega), if_pos (show c < d + 1 by omega)]
        have := bl_lt (show c < d by omega) h.1
        omega
      · have := bl_lt (show d < c by omega) h.2.1
        rw [if_pos (show d < c by omega), if_neg (show ¬ c < d + 1 by omega)]
        have p3 : bl S (c + 1) = bl S c + 1 := by rw [bl, if_pos h.1]
        have p4 := bl_mono S (show c + 1 ≤ N by omega)
        omega
    · rw [if_neg h, if_neg h]
end
/-! ### A table as it lies: the first row's places, each with the table without its row and column -/
def els (S : Nat → Bool) (N : Nat) : List Nat := (List.range N).filter S
theorem els_succ (S : Nat → Bool) (N : Nat) : els S (N + 1) = els S N ++ (if S N = true then [N] else []) := by
  unfold els
  rw [List.range_succ, List.filter_append]
  by_cases h : S N = true
  · rw [if_pos h, List.filter_cons_of_pos h]; rfl
  · rw [if_neg h, List.filter_cons_of_neg h]; rfl
theorem els_len (S : Nat → Bool) (N : Nat) : (els S N).length = bl S N := by
  induction N with
  | zero => rfl
  | succ N ih => rw [els_succ, List.length_append, ih, bl]; split <;> rfl
theorem els_nodup (S : Nat → Bool) (N : Nat) : (els S N).Nodup := List.Pairwise.filter _ List.nodup_range
theorem els_del (S : Nat → Bool) (N c : Nat) : els (del S c) N = (els S N).filter fun x => !decide (x = c) := by
  unfold els; rw [List.filter_filter]
  refine List.filter_congr fun x _ => ?_
  unfold del; rw [Bool.and_comm]
theorem filter_erase : ∀ {l : List Nat} (_ : l.Nodup) {j : Nat} (hj : j < l.length), (l.filter fun x => !decide (x = l[j])) = l.eraseIdx j
  | [], _, j, hj => by simp at hj
  | a :: l, hn, 0, _ => by
    obtain ⟨h1, h2⟩ := List.nodup_cons.1 hn
    simp only [List.getElem_cons_zero, List.eraseIdx_cons_zero]
    rw [List.filter_cons_of_neg (by simp)]
    exact List.filter_eq_self.2 fun x hx => by
      have : x ≠ a := fun e => h1 (e ▸ hx)
      simp [this]
  | a :: l, hn, j + 1, hj => by
    obtain ⟨h1, h2⟩ := List.nodup_cons.1 hn
    simp only [List.length_cons, Nat.add_lt_add_iff_right] at hj
    simp only [List.getElem_cons_succ, List.eraseIdx_cons_succ]
    have hne : a ≠ l[j] := fun e => h1 (e ▸ List.getElem_mem hj)
    rw [List.filter_cons_of_pos (by simp [hne]), filter_erase h2 hj]
theorem sm_els (S : Nat → Bool) (N : Nat) (f : Nat → Nat → Pol) : sm (els S N).length (fun j => f j (ga (els S N) j)) = sm N (fun c => if S c = true then f (bl S c) c else Pol.o) := by
  induction N with
  | zero => rfl
  | succ N ih =>
    rw [sm, ← ih]
    by_cases h : S N = true
    · have e : els S (N + 1) = els S N ++ [N] := by rw [els_succ, if_pos h]
      rw [if_pos h, e, List.length_append, List.length_singleton, sm]
      refine congr (congrArg _ (sm_congr fun i hi => ?_)) ?_
      · rw [ga_append_left _ _ _ hi]
      · rw [ga_append_right _ _ _ (Nat.le_refl _), Nat.sub_self, els_len]; rfl
    · have e : els S (N + 1) = els S N := by rw [els_succ, if_neg h, List.append_nil]
      rw [if_neg h, e, Pol.add_zero]
instance : Inhabited Pol := ⟨Pol.o⟩
/-- By the first row; n: how many rows there are. -/
def dT : Nat → List (List Pol) → Pol
  | 0, _ => Pol.i
  | n + 1, M => sm (n + 1) fun c => sg c (ga (ga M 0) c * dT n ((M.drop 1).map fun r => r.eraseIdx c))
theorem map_eraseIdx {α β : Type} (f : α → β) : ∀ (l : List α) (j : Nat), (l.map f).eraseIdx j = (l.eraseIdx j).map f
  | [], _ => rfl
  | _ :: _, 0 => rfl
  | a :: l, j + 1 => by simp only [List.map_cons, List.eraseIdx_cons_succ, map_eraseIdx f l j]
theorem dT_dF (m : Nat → Nat → Pol) (N : Nat) : ∀ (rs : List Nat) (S : Nat → Bool), bl S N = rs.length → dT rs.length (rs.map fun r => (els S N).map (m r)) = dF m N rs S
  | [], _, _ => rfl
  | r :: rs, S, h => by
    rw [List.length_cons] at h
    rw [List.length_cons, dT, dF, ← sm_els S N (fun b c => sg b (m r c * dF m N rs (del S c))), els_len, h]
    refine sm_congr fun j hj => ?_
    have hj' : j < (els S N).length := by rw [els_len]; omega
    have hg : ga (els S N) j = (els S N)[j] := ga_eq hj'
    have hmem := List.getElem_mem hj'
    have hS : S (els S N)[j] = true ∧ (els S N)[j] < N := by
      have := List.mem_filter.1 hmem
      exact ⟨this.2, List.mem_range.1 this.1⟩
    have e1 : ga (ga (List.map (fun r => List.map (m r) (els S N)) (r :: rs)) 0) j = m r (ga (els S N) j) := by
      rw [List.map_cons]
      show ga (List.map (m r) (els S N)) j = _
      unfold ga
      rw [List.getD_eq_getElem?_getD, List.getElem?_map, List.getD_eq_getElem?_getD, List.getElem?_eq_getElem hj']
      rfl
    rw [e1]
    have e2 : (List.drop 1 (List.map (fun r => List.map (m r) (els S N)) (r :: rs))).map (fun r => r.eraseIdx j) = rs.map fun r => (els (del S (ga (els S N) j)) N).map (m r) := by
      rw [List.map_cons, List.drop_one, List.tail_cons, List.map_map]
      refine List.map_congr_left fun q _ => ?_
      show ((els S N).map (m q)).eraseIdx j = _
      rw [map_eraseIdx, els_del, hg, filter_erase (els_nodup S N) hj']
    rw [e2, dT_dF m N rs _ (by rw [hg]; have := card_del hS.2 hS.1; omega)]
end Go.Proofs.Ytkcighnochjlgaa
