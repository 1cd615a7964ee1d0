/- Part 3 of the proof of the law BraidEquals: the walks through its functions and the plain laws that they need. -/
import Derived.Test.YtomcgmialkdcbaaBeZ2
set_option linter.unusedSimpArgs false
set_option linter.unusedVariables false
namespace Go.Proofs.Ytomcgmialkdcbaa
open Go.RowKit
open Wd
def fnP (p : List Int) : Nat → Nat := fun j => (ga p j).toNat
structure PL (n : Nat) (p : List Int) : Prop where
  len : p.length = n + 1
  z : ga p 0 = 0
  rg : ∀ j, 1 ≤ j → j ≤ n → 1 ≤ ga p j ∧ ga p j ≤ n
  ij : ∀ i j, 1 ≤ i → i ≤ n → 1 ≤ j → j ≤ n → ga p i = ga p j → i = j
  sj : ∀ i : Nat, 1 ≤ i → i ≤ n → ∃ j, 1 ≤ j ∧ j ≤ n ∧ ga p j = (i : Int)
section
variable {n : Nat} {p q : List Int}
theorem PL.pm (h : PL n p) : Pm n (fnP p) := by
  refine ⟨fun j h1 h2 => ?_, fun i j h1 h2 h3 h4 e => ?_⟩
  · have := h.rg j h1 h2; unfold fnP; omega
  · have a := h.rg i h1 h2
    have b := h.rg j h3 h4
    unfold fnP at e
    exact h.ij i j h1 h2 h3 h4 (by omega)
theorem idL_ga {i : Nat} (h : i ≤ n) : ga (idL n) i = (i : Int) := by
  unfold idL; rw [ga_map _ _ _ (by rw [List.length_range]; omega), ga_eq (by rw [List.length_range]; omega), List.getElem_range]
theorem idL_len (n : Nat) : (idL n).length = n + 1 := by simp [idL]
theorem PL.id_ (n : Nat) : PL n (idL n) := ⟨idL_len n, idL_ga (Nat.zero_le _), fun j h1 h2 => by rw [idL_ga h2]; omega, fun i j _ h2 _ h4 e => by rw [idL_ga h2, idL_ga h4] at e; omega, fun i h1 h2 => ⟨i, h1, h2, idL_ga h2⟩⟩
theorem PL.pl_of (h : PL n p) {j : Nat} (h1 : 1 ≤ j) (h2 : j ≤ n) : plL p (ga p j) = j := by
  unfold plL
  have hl := h.len
  rw [idxF_hit (k := j) (by omega) (by simp) (fun i hi => ?_)]
  · simp
  · rw [decide_eq_false_iff_not]
    intro e
    by_cases i0 : i = 0
    · subst i0; have := h.z; have := h.rg j h1 h2; omega
    · have := h.ij i j (by omega) (by omega) h1 h2 e; omega
theorem PL.pl (h : PL n p) {i : Nat} (h1 : 1 ≤ i) (h2 : i ≤ n) : 1 ≤ plL p (i : Int) ∧ plL p (i : Int) ≤ n ∧ ga p (plL p (i : Int)) = (i : Int) := by
  obtain ⟨j, a, b, e⟩ := h.sj i h1 h2
  have := h.pl_of a b
  rw [e] at this
  rw [this]; exact ⟨a, b, e⟩
theorem two_set {xs : List Int} {a b : Nat} (hab : a ≠ b) (ha : a < xs.length) (hb : b < xs.length) (u v : Int) (j : Nat) : ga ((xs.set a u).set b v) j = if j = a then u else if j = b then v else ga xs j := by
  rw [ga_set _ _ _ _ (by simpa using hb)]
  by_cases h1 : b = j
  · rw [if_pos h1, if_neg (by omega), if_pos h1.symm]
  · rw [if_neg h1, ga_set _ _ _ _ ha]
    by_cases h2 : a = j
    · rw [if_pos h2, if_pos h2.symm]
    · rw [if_neg h2, if_neg (fun e => h2 e.symm), if_neg (fun e => h1 e.symm)]
theorem PL.pl_ne (h : PL n p) {i : Nat} (h1 : 1 ≤ i) (h2 : i < n) : plL p (i : Int) ≠ plL p ((i : Int) + 1) := fun e => by
  have a := h.pl h1 (by omega)
  have b := h.pl (i := i + 1) (by omega) (by omega)
  rw [show ((i + 1 : Nat) : Int) = (i : Int) + 1 by omega, ← e, a.2.2] at b
  omega
theorem PL.pl2 (h : PL n p) {i : Nat} (h1 : 1 ≤ i) (h2 : i < n) : 1 ≤ plL p ((i : Int) + 1) ∧ plL p ((i : Int) + 1) ≤ n ∧ ga p (plL p ((i : Int) + 1)) = (i : Int) + 1 := h.pl (i := i + 1) (by omega) (by omega)
theorem thenL_at (h : PL n p) {i : Nat} (h1 : 1 ≤ i) (h2 : i < n) (j : Nat) : ga (thenL p (i : Int)) j = if j = plL p (i : Int) then (i : Int) + 1 else if j = plL p ((i : Int) + 1) then (i : Int) else ga p j := by
  have a := h.pl h1 (by omega)
  have b := h.pl2 h1 h2
  have hl := h.len
  unfold thenL
  rw [two_set (h.pl_ne h1 h2) (by omega) (by omega), a.2.2, b.2.2]
theorem thenL_len (p : List Int) (i : Int) : (thenL p i).length = p.length := by unfold thenL; simp
theorem PL.of_swap {p' : List Int} {a b : Nat} (h : PL n p) (ha : 1 ≤ a ∧ a ≤ n) (hb : 1 ≤ b ∧ b ≤ n) (hab : a ≠ b) (hl : p'.length = n + 1) (hg : ∀ j, ga p' j = if j = a then ga p b else if j = b then ga p a else ga p j) : PL n p' := by
  have ga_ : ga p' a = ga p b := by rw [hg, if_pos rfl]
  have gb_ : ga p' b = ga p a := by rw [hg, if_neg (Ne.symm hab), if_pos rfl]
  have gj : ∀ j, j ≠ a → j ≠ b → ga p' j = ga p j := fun j x y => by rw [hg, if_neg x, if_neg y]
  have tr : ∀ j, ∃ k, ga p' j = ga p k ∧ (1 ≤ j → j ≤ n → 1 ≤ k ∧ k ≤ n) ∧ (j = a ∧ k = b ∨ j = b ∧ k = a ∨ j ≠ a ∧ j ≠ b ∧ k = j) := fun j => by
    by_cases x : j = a
    · subst x; exact ⟨b, ga_, fun _ _ => hb, .inl ⟨rfl, rfl⟩⟩
    · by_cases y : j = b
      · subst y; exact ⟨a, gb_, fun _ _ => ha, .inr (.inl ⟨rfl, rfl⟩)⟩
      · exact ⟨j, gj j x y, fun u v => ⟨u, v⟩, .inr (.inr ⟨x, y, rfl⟩)⟩
  refine ⟨hl, by rw [gj 0 (by omega) (by omega)]; exact h.z, fun j h1 h2 => ?_, fun i j h1 h2 h3 h4 e => ?_, fun i h1 h2 => ?_⟩
  · obtain ⟨k, e, hk, _⟩ := tr j
    obtain ⟨k1, k2⟩ := hk h1 h2
    rw [e]; exact h.rg k k1 k2
  · obtain ⟨k, e1, hk, c1⟩ := tr i
    obtain ⟨m, e2, hm, c2⟩ := tr j
    obtain ⟨k1, k2⟩ := hk h1 h2
    obtain ⟨m1, m2⟩ := hm h3 h4
    have := h.ij k m k1 k2 m1 m2 (by rw [← e1, ← e2]; exact e)
    omega
  · obtain ⟨k, k1, k2, e⟩ := h.sj i h1 h2
    by_cases x : k = a
    · subst x; exact ⟨b, hb.1, hb.2, by rw [gb_, e]⟩
    · by_cases y : k = b
      · subst y; exact ⟨a, ha.1, ha.2, by rw [ga_, e]⟩
      · exact ⟨k, k1, k2, by rw [gj k x y, e]⟩
theorem PL.then_ (h : PL n p) {i : Nat} (h1 : 1 ≤ i) (h2 : i < n) : PL n (thenL p (i : Int)) := by
  have a := h.pl h1 (by omega)
  have b := h.pl2 h1 h2
  exact h.of_swap ⟨a.1, a.2.1⟩ ⟨b.1, b.2.1⟩ (h.pl_ne h1 h2) (by rw [thenL_len]; exact h.len) fun j => by rw [thenL_at h h1 h2, a.2.2, b.2.2]
theorem act_then (h : PL n p) {i : Nat} (h1 : 1 ≤ i) (h2 : i < n) (hlt : plL p (i : Int) < plL p ((i : Int) + 1)) (T : Nat → Wd) : EqT n (acT n (fnP (thenL p (i : Int))) T) (stT (acT n (fnP p) T) i) := by
  have a := h.pl h1 (by omega)
  have b := h.pl2 h1 h2
  refine acT_then h.pm (a := plL p (i : Int)) (b := plL p ((i : Int) + 1)) a.1 hlt b.2.1 ?_ ?_ (fun j => ?_) T
  · unfold fnP; rw [a.2.2]; omega
  · unfold fnP; rw [b.2.2]; omega
  · unfold fnP; rw [thenL_at h h1 h2]
    split
    · omega
    · split
      · omega
      · rfl
/-- Two neighbours change places. -/
def swL (q : List Int) (i : Nat) : List Int := (q.set i (ga q (i + 1))).set (i + 1) (ga q i)
theorem swL_len (q : List Int) (i : Nat) : (swL q i).length = q.length := by unfold swL; simp
theorem swL_at {i : Nat} (h : i + 1 < q.length) (j : Nat) : ga (swL q i) j = if j = i then ga q (i + 1) else if j = i + 1 then ga q i else ga q j := by
  unfold swL; rw [two_set (by omega) (by omega) h]
theorem PL.sw_ (h : PL n q) {i : Nat} (h1 : 1 ≤ i) (h2 : i < n) : PL n (swL q i) := by
  have hl := h.len
  exact h.of_swap ⟨h1, by omega⟩ ⟨by omega, h2⟩ (by omega) (by rw [swL_len]; exact hl) fun j => swL_at (by omega) j
theorem act_sw (h : PL n q) {i : Nat} (h1 : 1 ≤ i) (h2 : i < n) (hd : ga q (i + 1) < ga q i) (T : Nat → Wd) : EqT n (acT n (fnP (swL q i)) (stT T i)) (acT n (fnP q) T) := by
  have hl := h.len
  have a := h.rg i h1 (by omega)
  have b := h.rg (i + 1) (by omega) h2
  refine acT_first h1 h2 (by unfold fnP; omega) (fun j => ?_) T
  unfold fnP
  rw [swL_at (by omega)]
  split
  · rfl
  · split <;> rfl
def mkP (n : Nat) (f : Nat → Int) : List Int := (List.range (n + 1)).map fun i => if i = 0 then 0 else f i
theorem mkP_len (n : Nat) (f : Nat → Int) : (mkP n f).length = n + 1 := by simp [mkP]
theorem mkP_z (n : Nat) (f : Nat → Int) : ga (mkP n f) 0 = 0 := by
  unfold mkP; rw [ga_map _ _ _ (by rw [List.length_range]; omega), ga_eq (by rw [List.length_range]; omega), List.getElem_range, if_pos rfl]
theorem mkP_ga {f : Nat → Int} {i : Nat} (h1 : 1 ≤ i) (h2 : i ≤ n) : ga (mkP n f) i = f i := by
  unfold mkP; rw [ga_map _ _ _ (by rw [List.length_range]; omega), ga_eq (by rw [List.length_range]; omega), List.getElem_range, if_neg (by omega)]
def delL (n : Nat) : List Int := mkP n fun i => (n : Int) + 1 - i
def flipL (n : Nat) (p : List Int) : List Int := mkP n fun i => (n : Int) + 1 - ga p (n + 1 - i)
theorem delL_ga {i : Nat} (h1 : 1 ≤ i) (h2 : i ≤ n) : ga (delL n) i = (n : Int) + 1 - i := mkP_ga h1 h2
theorem flipL_ga {i : Nat} (h1 : 1 ≤ i) (h2 : i ≤ n) : ga (flipL n p) i = (n : Int) + 1 - ga p (n + 1 - i) := mkP_ga h1 h2
theorem PL.del_ (n : Nat) : PL n (delL n) := ⟨mkP_len _ _, mkP_z _ _, fun j h1 h2 => by rw [delL_ga h1 h2]; omega, fun i j h1 h2 h3 h4 e => by rw [delL_ga h1 h2, delL_ga h3 h4] at e; omega, fun i h1 h2 => ⟨n + 1 - i, by omega, by omega, by rw [delL_ga (by omega) (by omega)]; omega⟩⟩
theorem PL.flip_ (h : PL n p) : PL n (flipL n p) := by
  refine ⟨mkP_len _ _, mkP_z _ _, fun j h1 h2 => ?_, fun i j h1 h2 h3 h4 e => ?_, fun i h1 h2 => ?_⟩
  · have := h.rg (n + 1 - j) (by omega) (by omega); rw [flipL_ga h1 h2]; omega
  · rw [flipL_ga h1 h2, flipL_ga h3 h4] at e
    have := h.ij (n + 1 - i) (n + 1 - j) (by omega) (by omega) (by omega) (by omega) (by omega)
    omega
  · obtain ⟨j, j1, j2, e⟩ := h.sj (n + 1 - i) (by omega) (by omega)
    exact ⟨n + 1 - j, by omega, by omega, by rw [flipL_ga (by omega) (by omega), show n + 1 - (n + 1 - j) = j by omega, e]; omega⟩
theorem fn_del {j : Nat} (h1 : 1 ≤ j) (h2 : j ≤ n) : fnP (delL n) j = n + 1 - j := by unfold fnP; rw [delL_ga h1 h2]; omega
theorem fn_flip (h : PL n p) {j : Nat} (h1 : 1 ≤ j) (h2 : j ≤ n) : fnP (flipL n p) j = n + 1 - fnP p (n + 1 - j) := by
  have := h.rg (n + 1 - j) (by omega) (by omega); unfold fnP; rw [flipL_ga h1 h2]; omega
/-- Products ahead. -/
def pre (T : Nat → Wd) (m : Nat) : Wd := pr T (fun _ => true) 1 m
theorem pre_step (T : Nat → Wd) (m : Nat) : pre T (m + 1) = pre T m * T (m + 1) := by
  unfold pre
  rw [pr_add, pr, pr, if_pos rfl, mul_one, Nat.add_comm 1 m]
theorem pre_suf {m : Nat} (h : m ≤ n) (T : Nat → Wd) : pre T n = pre T m * suf n T m := by
  unfold pre suf
  have := pr_add T (fun _ => true) m 1 (n - m)
  rw [show m + (n - m) = n by omega, Nat.add_comm 1 m] at this
  exact this
theorem sK_del {k : Nat} (hk : k ≤ n) (T : Nat → Wd) : sK n (fnP (delL n)) T k = pre T (n - k) := by
  unfold sK pre
  have e := pr_add T (fun j => decide (k < fnP (delL n) j)) (n - k) 1 k
  rw [show n - k + k = n by omega] at e
  rw [e, pr_one (m := k) (fun j h1 h2 => decide_eq_false (by rw [fn_del (by omega) (by omega)]; omega)), mul_one]
  refine pr_cong fun j h1 h2 => ?_
  show (if decide (k < fnP (delL n) j) = true then T j else one) = if true = true then T j else one
  rw [if_pos (decide_eq_true (by rw [fn_del (by omega) (by omega)]; omega)), if_pos rfl]
theorem del_at {k : Nat} (h1 : 1 ≤ k) (h2 : k ≤ n) (T : Nat → Wd) : acT n (fnP (delL n)) T k = pre T (n + 1 - k) * inv (pre T (n - k)) := by
  unfold acT
  rw [if_pos ⟨h1, h2⟩, sK_del (by omega), sK_del h2, show n - (k - 1) = n + 1 - k by omega]
theorem pr_snoc (T : Nat → Wd) (P : Nat → Bool) (a m : Nat) : pr T P a (m + 1) = pr T P a m * (if P (a + m) then T (a + m) else one) := by
  rw [pr_add]
  exact congrArg _ (mul_one _)
theorem del_pr (P : Nat → Bool) (T : Nat → Wd) : ∀ m, m ≤ n → pr (acT n (fnP (delL n)) T) P (n + 1 - m) m = pre T m * inv (pr T (fun j => !P (n + 1 - j)) 1 m)
  | 0, _ => by show one = one * inv one; rw [inv_one, one_mul]
  | m + 1, h => by
    have ih := del_pr P T m (by omega)
    have e2 := pr_snoc T (fun j => !P (n + 1 - j)) 1 m
    rw [Nat.add_comm 1 m] at e2
    rw [pr, show n + 1 - (m + 1) + 1 = n + 1 - m by omega, ih, pre_step, e2, del_at (by omega) (by omega), show n + 1 - (n + 1 - (m + 1)) = m + 1 by omega, show n - (n + 1 - (m + 1)) = m by omega, pre_step]
    cases P (n + 1 - (m + 1)) with
    | true =>
      simp only [if_true, Bool.not_true, Bool.false_eq_true, if_false, mul_one, assoc, inv_mul_c]
    | false =>
      simp only [Bool.false_eq_true, if_false, Bool.not_false, if_true, one_mul, mul_inv_rev, assoc, mul_inv_c]
theorem act_flip (h : PL n p) (T : Nat → Wd) : EqT n (acT n (fnP p) (acT n (fnP (delL n)) T)) (acT n (fnP (delL n)) (acT n (fnP (flipL n p)) T)) := by
  refine EqT.of_suf fun k hk => ?_
  rw [suf_acT h.pm _ (m := n - k) (by omega), suf_acT (PL.del_ n).pm _ (m := n - k) (by omega), sK_del hk]
  have e1 := del_pr (fun j => decide (k < fnP p j)) T n (Nat.le_refl _)
  rw [show n + 1 - n = 1 by omega] at e1
  have e2 := pre_suf (n := n) (m := n - k) (by omega) (acT n (fnP (flipL n p)) T)
  have e3 : pre (acT n (fnP (flipL n p)) T) n = pre T n := by
    have := suf_acT h.flip_.pm T (m := n) (k := 0) (by omega)
    have e0 : ∀ U : Nat → Wd, suf n U 0 = pre U n := fun U => rfl
    rw [e0] at this
    rw [this]
    unfold sK pre
    refine pr_cong fun j h1 h2 => ?_
    show (if decide (0 < fnP (flipL n p) j) = true then T j else one) = if true = true then T j else one
    have := h.flip_.pm.rg j h1 (by omega)
    rw [if_pos (decide_eq_true (by omega)), if_pos rfl]
  rw [e3, suf_acT h.flip_.pm T (m := k) (by omega)] at e2
  have e4 : sK n (fnP (flipL n p)) T (n - k) = pr T (fun j => !decide (k < fnP p (n + 1 - j))) 1 n := pr_cong fun j h1 h2 => by
    show (if decide (n - k < fnP (flipL n p) j) = true then T j else one) = if (!decide (k < fnP p (n + 1 - j))) = true then T j else one
    have := h.pm.rg (n + 1 - j) (by omega) (by omega)
    have e : decide (n - k < fnP (flipL n p) j) = !decide (k < fnP p (n + 1 - j)) := by
      rw [fn_flip h h1 (by omega), ← decide_not]
      exact decide_eq_decide.2 (by omega)
    rw [e]
  show pr _ (fun j => decide (k < fnP p j)) 1 n = _
  rw [e1, e2, e4, assoc, mul_inv, mul_one]
/-- The other way round. -/
def dI (n : Nat) (T : Nat → Wd) : Nat → Wd := fun j => inv (suf n T (n + 1 - j)) * suf n T (n - j)
theorem dI_pre (T : Nat → Wd) : ∀ m, m ≤ n → pre (dI n T) m = suf n T (n - m)
  | 0, _ => by rw [Nat.sub_zero, suf_n]; rfl
  | m + 1, h => by
    rw [pre_step, dI_pre T m (by omega)]
    unfold dI
    rw [show n + 1 - (m + 1) = n - m by omega, mul_inv_c]
theorem del_dI (T : Nat → Wd) : EqT n (acT n (fnP (delL n)) (dI n T)) T := EqT.of_suf fun k hk => by
  rw [suf_acT (PL.del_ n).pm _ (m := n - k) (by omega), sK_del hk, dI_pre T _ (by omega), show n - (n - k) = k by omega]
theorem dI_del (T : Nat → Wd) : EqT n (dI n (acT n (fnP (delL n)) T)) T := fun j h1 h2 => by
  have e : ∀ k, k ≤ n → suf n (acT n (fnP (delL n)) T) k = pre T (n - k) := fun k hk => by rw [suf_acT (PL.del_ n).pm _ (m := n - k) (by omega), sK_del hk]
  unfold dI
  rw [e _ (by omega), e _ (by omega), show n - (n + 1 - j) = j - 1 by omega, show n - (n - j) = j - 1 + 1 by omega, pre_step, inv_mul_c, show j - 1 + 1 = j by omega]
theorem EqT.dI_ {T U : Nat → Wd} (h : EqT n T U) : EqT n (dI n T) (dI n U) := fun k _ _ => by unfold dI; rw [h.suf_, h.suf_]
theorem act_flipI (h : PL n p) (T : Nat → Wd) : EqT n (acT n (fnP (flipL n p)) (dI n T)) (dI n (acT n (fnP p) T)) := by
  have e1 := (act_flip h (dI n T)).dI_
  have e2 : EqT n (acT n (fnP p) (acT n (fnP (delL n)) (dI n T))) (acT n (fnP p) T) := (del_dI T).acT_
  exact ((dI_del _).symm.trans e1.symm).trans e2.dI_
/-- What the half turn but one letter does. -/
theorem act_neg {i : Nat} (h1 : 1 ≤ i) (h2 : i < n) (T : Nat → Wd) : EqT n (acT n (fnP (thenL (delL n) (i : Int))) (dI n T)) (stI T i) := by
  have hd := PL.del_ n
  have a1 : plL (delL n) (i : Int) = n + 1 - i := by have := hd.pl_of (j := n + 1 - i) (by omega) (by omega); rwa [delL_ga (by omega) (by omega), show (n : Int) + 1 - ((n + 1 - i : Nat) : Int) = i by omega] at this
  have a2 : plL (delL n) ((i : Int) + 1) = n - i := by have := hd.pl_of (j := n - i) (by omega) (by omega); rwa [delL_ga (by omega) (by omega), show (n : Int) + 1 - ((n - i : Nat) : Int) = i + 1 by omega] at this
  have hp := hd.then_ h1 h2
  have g := thenL_at hd h1 h2
  rw [a1, a2] at g
  have b1 : plL (thenL (delL n) (i : Int)) (i : Int) = n - i := by have := hp.pl_of (j := n - i) (by omega) (by omega); rwa [g, if_neg (by omega), if_pos rfl] at this
  have b2 : plL (thenL (delL n) (i : Int)) ((i : Int) + 1) = n + 1 - i := by have := hp.pl_of (j := n + 1 - i) (by omega) (by omega); rwa [g, if_pos rfl] at this
  have e := act_then hp h1 h2 (by rw [b1, b2]; omega) (dI n T)
  have g2 := thenL_at hp h1 h2
  rw [b1, b2] at g2
  have back : ∀ j, 1 ≤ j → j ≤ n → fnP (thenL (thenL (delL n) (i : Int)) (i : Int)) j = fnP (delL n) j := fun j j1 j2 => by
    unfold fnP
    rw [g2, g, delL_ga j1 j2]
    by_cases c1 : j = n - i
    · rw [if_pos c1]; omega
    · rw [if_neg c1]
      by_cases c2 : j = n + 1 - i
      · rw [if_pos c2]; omega
      · rw [if_neg c2, if_neg c2, if_neg c1]
  have f : EqT n T (stT (acT n (fnP (thenL (delL n) (i : Int))) (dI n T)) i) := ((del_dI T).symm.trans (acT_cong back _).symm).trans e
  have := f.stI_ h1 h2
  rw [stI_stT] at this
  exact this.symm
end
end Go.Proofs.Ytomcgmialkdcbaa
namespace Go.Proofs.Ytomcgmialkdcbaa
open Go.RowKit
open Wd
def invc : List Int → Nat
  | [] => 0
  | x :: r => (r.filter fun y => decide (y < x)).length + invc r
theorem invc_sw (a : List Int) {x y : Int} (h : y < x) (b : List Int) : invc (a ++ x :: y :: b) = invc (a ++ y :: x :: b) + 1 := by
  induction a with
  | nil =>
    show ((y :: b).filter fun z => decide (z < x)).length + ((b.filter fun z => decide (z < y)).length + invc b) = ((x :: b).filter fun z => decide (z < y)).length + ((b.filter fun z => decide (z < x)).length + invc b) + 1
    rw [List.filter_cons_of_pos (by simpa using h), List.filter_cons_of_neg (by simp; omega), List.length_cons]
    omega
  | cons z a ih =>
    show ((a ++ x :: y :: b).filter fun w => decide (w < z)).length + invc (a ++ x :: y :: b) = ((a ++ y :: x :: b).filter fun w => decide (w < z)).length + invc (a ++ y :: x :: b) + 1
    rw [ih]
    have hp : (a ++ x :: y :: b).Perm (a ++ y :: x :: b) := (List.perm_append_left_iff a).2 (List.Perm.swap _ _ _)
    rw [(hp.filter fun w => decide (w < z)).length_eq]
    omega
theorem invc_le : ∀ l : List Int, 2 * invc l ≤ l.length * (l.length - 1)
  | [] => Nat.le_refl _
  | x :: r => by
    have ih := invc_le r
    have h1 := List.length_filter_le (fun y => decide (y < x)) r
    show 2 * ((r.filter fun y => decide (y < x)).length + invc r) ≤ (r.length + 1) * r.length
    rw [Nat.add_mul, Nat.one_mul]
    cases hr : r.length with
    | zero => rw [hr] at ih h1; omega
    | succ m =>
      rw [hr] at ih h1
      have e : (m + 1) * (m + 1 - 1) = (m + 1) * m := rfl
      have e2 : (m + 1) * (m + 1) = (m + 1) * m + (m + 1) := by rw [Nat.mul_add, Nat.mul_one]
      omega
theorem swL_split {q : List Int} {i : Nat} (h : i + 1 < q.length) : ∃ a b, a.length = i ∧ q = a ++ ga q i :: ga q (i + 1) :: b ∧ swL q i = a ++ ga q (i + 1) :: ga q i :: b := by
  have e : q = q.take i ++ ga q i :: ga q (i + 1) :: q.drop (i + 2) := by
    rw [ga_eq (show i < q.length by omega), ga_eq h, ← List.drop_eq_getElem_cons h, ← List.drop_eq_getElem_cons (show i < q.length by omega), List.take_append_drop]
  refine ⟨q.take i, q.drop (i + 2), by rw [List.length_take]; omega, e, ?_⟩
  have hl : (q.take i).length = i := by rw [List.length_take]; omega
  refine ga_ext (by rw [swL_len]; conv => lhs; rw [e]; 
                    simp) fun j hj => ?_
  rw [swL_len] at hj
  rw [swL_at h]
  by_cases c1 : j < i
  · rw [if_neg (by omega), if_neg (by omega), ga_append_left _ _ _ (by omega), ga_take _ _ _ c1]
  · rw [ga_append_right _ _ _ (by omega), hl]
    by_cases c2 : j = i
    · rw [if_pos c2, c2, Nat.sub_self]; rfl
    · rw [if_neg c2]
      by_cases c3 : j = i + 1
      · rw [if_pos c3, c3, show i + 1 - i = 1 by omega]; rfl
      · rw [if_neg c3, show j - i = (j - (i + 2)) + 2 by omega]
        show ga q j = ga (q.drop (i + 2)) (j - (i + 2))
        unfold ga
        rw [List.getD_eq_getElem?_getD, List.getD_eq_getElem?_getD, List.getElem?_drop, show i + 2 + (j - (i + 2)) = j by omega]
theorem invc_swL {q : List Int} {i : Nat} (h : i + 1 < q.length) (hd : ga q (i + 1) < ga q i) : invc q = invc (swL q i) + 1 := by
  obtain ⟨a, b, _, e1, e2⟩ := swL_split h
  rw [e2]
  conv => lhs; rw [e1]
  exact invc_sw a hd b
def stL (T : Nat → Wd) (x : Int) : Nat → Wd := if 0 < x then stT T x.toNat else stI T (-x).toNat
def stW (T : Nat → Wd) (w : List Int) : Nat → Wd := w.foldl stL T
theorem stW_snoc (T : Nat → Wd) (w : List Int) (x : Int) : stW T (w ++ [x]) = stL (stW T w) x := by unfold stW; rw [List.foldl_append]; rfl
theorem stL_pos (T : Nat → Wd) (i : Nat) : stL T ((i : Int) + 1) = stT T (i + 1) := by
  unfold stL; rw [if_pos (by omega), show ((i : Int) + 1).toNat = i + 1 by omega]
def okW (n : Nat) (w : List Int) : Prop := ∀ x ∈ w, 1 ≤ max x (-x) ∧ max x (-x) < n
/-- Neighbours in the wrong order change places, letter by letter. -/
inductive Srn (n : Nat) (p : List Int) : List Int → List Int → Prop
  | nil : Srn n p [] p
  | snoc {w q : List Int} {i : Nat} : Srn n p w q → i + 1 < n → ga q (i + 1) < ga q i → Srn n p (w ++ [(i : Int) + 1]) (swL q i)
section
variable {n : Nat} {p q : List Int}
theorem cons_sw (q : List Int) (i : Nat) : swL (0 :: q) (i + 1) = 0 :: swL q i := rfl
theorem PL.cons_sw_ (h : PL n (0 :: q)) {i : Nat} (hi : i + 1 < n) : PL n (0 :: swL q i) := by rw [← cons_sw]; exact h.sw_ (by omega) (by omega)
theorem Srn.pl {w : List Int} (r : Srn n p w q) (h : PL n (0 :: p)) : PL n (0 :: q) := by
  induction r with
  | nil => exact h
  | snoc _ hi _ ih => exact ih.cons_sw_ hi
theorem Srn.len {w : List Int} (r : Srn n p w q) (h : PL n (0 :: p)) : q.length = n := by have := (r.pl h).len; simpa using this
theorem Srn.act {w : List Int} (r : Srn n p w q) (h : PL n (0 :: p)) (T : Nat → Wd) : EqT n (acT n (fnP (0 :: q)) (stW T w)) (acT n (fnP (0 :: p)) T) := by
  induction r with
  | nil => exact EqT.refl _ _
  | @snoc w q i r hi hd ih =>
    have hq := r.pl h
    have e := act_sw hq (i := i + 1) (by omega) (by omega) hd (stW T w)
    rw [cons_sw] at e
    rw [stW_snoc, stL_pos]
    exact e.trans ih
theorem id_act (n : Nat) (T : Nat → Wd) : EqT n (acT n (fnP (idL n)) T) T := (acT_cong (fun j h1 h2 => by unfold fnP; rw [idL_ga h2]; show ((j : Int)).toNat = j; omega) T).trans (acT_id n T)
end
end Go.Proofs.Ytomcgmialkdcbaa
namespace Go.Proofs.Ytomcgmialkdcbaa
open Go.RowKit
open Wd
section
variable {n : Nat}
def acL (n : Nat) (l : List (List Int)) (T : Nat → Wd) : Nat → Wd := l.foldl (fun T p => acT n (fnP p) T) T
theorem acL_app (l m : List (List Int)) (T : Nat → Wd) : acL n (l ++ m) T = acL n m (acL n l T) := by unfold acL; rw [List.foldl_append]
theorem EqT.acL_ : ∀ {l : List (List Int)} {T U : Nat → Wd}, EqT n T U → EqT n (acL n l T) (acL n l U)
  | [], _, _, h => h
  | p :: l, T, U, h => EqT.acL_ (l := l) (h.acT_ (p := fnP p))
def itT (f : (Nat → Wd) → Nat → Wd) : Nat → (Nat → Wd) → Nat → Wd
  | 0, T => T
  | m + 1, T => f (itT f m T)
/-- A power of the half turn. -/
def dP (n : Nat) (z : Int) (T : Nat → Wd) : Nat → Wd := if 0 ≤ z then itT (acT n (fnP (delL n))) z.toNat T else itT (dI n) (-z).toNat T
theorem dP_dec (z : Int) (T : Nat → Wd) : EqT n (dP n (z - 1) T) (dI n (dP n z T)) := by
  unfold dP
  by_cases h : 0 < z
  · rw [if_pos (by omega), if_pos (by omega), show z.toNat = (z - 1).toNat + 1 by omega]
    exact (dI_del _).symm
  · rw [if_neg (by omega), show (-(z - 1)).toNat = (-z).toNat + 1 by omega]
    by_cases h0 : z = 0
    · subst h0; exact EqT.refl _ _
    · rw [if_neg (by omega)]; exact EqT.refl _ _
theorem dP_inc (z : Int) (T : Nat → Wd) : EqT n (dP n (z + 1) T) (acT n (fnP (delL n)) (dP n z T)) := by
  have h := dP_dec (n := n) (z + 1) T
  rw [show z + 1 - 1 = z by omega] at h
  exact ((del_dI _).symm).trans h.symm.acT_
/-- The letters themselves. -/
def tb0 : Nat → Wd := fun k => ⟨[(k : Int)], fun i hi => by simp at hi⟩
structure NfI (n : Nat) (w : List Int) (z : Int) (l : List (List Int)) : Prop where
  pl : ∀ p ∈ l, PL n p
  act : EqT n (acL n l (dP n z tb0)) (stW tb0 w)
variable {w : List Int} {z : Int} {l : List (List Int)}
theorem NfI.nil_ : NfI n [] 0 [] := ⟨fun p hp => by simp at hp, EqT.refl _ _⟩
theorem NfI.pos (h : NfI n w z l) {i : Nat} (h1 : 1 ≤ i) (h2 : i < n) : NfI n (w ++ [(i : Int)]) z (l ++ [thenL (idL n) (i : Int)]) := by
  have hid := PL.id_ n
  refine ⟨fun p hp => ?_, ?_⟩
  · rcases List.mem_append.1 hp with hp | hp
    · exact h.pl p hp
    · rw [List.mem_singleton.1 hp]; exact hid.then_ h1 h2
  · have a := hid.pl_of (j := i) h1 (by omega)
    have b := hid.pl_of (j := i + 1) (by omega) h2
    rw [idL_ga (by omega)] at a b
    have e := act_then hid h1 h2 (by rw [a, show (i : Int) + 1 = ((i + 1 : Nat) : Int) by omega, b]; omega) (acL n l (dP n z tb0))
    rw [acL_app, stW_snoc]
    have e2 : stL (stW tb0 w) (i : Int) = stT (stW tb0 w) i := by unfold stL; rw [if_pos (by omega)]; rfl
    rw [e2]
    exact e.trans (((id_act n _).trans h.act).stT_ h1 h2)
theorem acL_flip : ∀ {l : List (List Int)} (T : Nat → Wd), (∀ p ∈ l, PL n p) → EqT n (acL n (l.map (flipL n)) (dI n T)) (dI n (acL n l T))
  | [], T, _ => EqT.refl _ _
  | p :: l, T, h => by
    have hp := act_flipI (h p (List.mem_cons_self ..)) T
    show EqT n (acL n (l.map (flipL n)) (acT n (fnP (flipL n p)) (dI n T))) (dI n (acL n l (acT n (fnP p) T)))
    exact (hp.acL_).trans (acL_flip _ fun q hq => h q (List.mem_cons_of_mem _ hq))
theorem NfI.neg (h : NfI n w z l) {i : Nat} (h1 : 1 ≤ i) (h2 : i < n) : NfI n (w ++ [-(i : Int)]) (z - 1) (l.map (flipL n) ++ [thenL (delL n) (i : Int)]) := by
  refine ⟨fun p hp => ?_, ?_⟩
  · rcases List.mem_append.1 hp with hp | hp
    · obtain ⟨q, hq, rfl⟩ := List.mem_map.1 hp
      exact (h.pl q hq).flip_
    · rw [List.mem_singleton.1 hp]; exact (PL.del_ n).then_ h1 h2
  · rw [acL_app, stW_snoc]
    have e2 : stL (stW tb0 w) (-(i : Int)) = stI (stW tb0 w) i := by unfold stL; rw [if_neg (by omega), show (- -(i : Int)).toNat = i by omega]
    rw [e2]
    have a : EqT n (acL n (l.map (flipL n)) (dP n (z - 1) tb0)) (dI n (acL n l (dP n z tb0))) := ((dP_dec z tb0).acL_).trans (acL_flip _ h.pl)
    exact ((a.acT_).trans (act_neg h1 h2 _)).trans (h.act.stI_ h1 h2)
theorem two_split {k : Nat} (h : k + 1 < l.length) (p q : List Int) : ∃ a b, a.length = k ∧ l = a ++ ga l k :: ga l (k + 1) :: b ∧ (l.set k p).set (k + 1) q = a ++ p :: q :: b := by
  have e : l = l.take k ++ ga l k :: ga l (k + 1) :: l.drop (k + 2) := by
    rw [ga_eq (show k < l.length by omega), ga_eq h, ← List.drop_eq_getElem_cons h, ← List.drop_eq_getElem_cons (show k < l.length by omega), List.take_append_drop]
  have hl : (l.take k).length = k := by rw [List.length_take]; omega
  refine ⟨l.take k, l.drop (k + 2), hl, e, ?_⟩
  generalize ha : l.take k = a at e hl
  generalize hb : l.drop (k + 2) = b at e
  rw [e, ← hl]
  rw [List.set_append_right _ _ (by omega), Nat.sub_self, List.set_cons_zero, List.set_append_right _ _ (by omega), show a.length + 1 - a.length = 1 by omega]
  rfl
theorem NfI.shift (h : NfI n w z l) {k i : Nat} (hk : k + 1 < l.length) (h1 : 1 ≤ i) (h2 : i < n) (st : ga (ga l (k + 1)) (i + 1) < ga (ga l (k + 1)) i) (en : plL (ga l k) (i : Int) < plL (ga l k) ((i : Int) + 1)) : NfI n w z ((l.set k (thenL (ga l k) (i : Int))).set (k + 1) (swL (ga l (k + 1)) i)) := by
  obtain ⟨a, b, _, e1, e2⟩ := two_split hk (thenL (ga l k) (i : Int)) (swL (ga l (k + 1)) i)
  have hp := h.pl _ (ga_mem (show k < l.length by omega))
  have hq := h.pl _ (ga_mem hk)
  rw [e2]
  refine ⟨fun p hpm => ?_, ?_⟩
  · have old : ∀ x ∈ a ++ ga l k :: ga l (k + 1) :: b, PL n x := fun x hx => h.pl x (by rw [e1]; exact hx)
    simp only [List.mem_append, List.mem_cons] at hpm
    rcases hpm with hpm | rfl | rfl | hpm
    · exact old p (by simp [hpm])
    · exact hp.then_ h1 h2
    · exact hq.sw_ h1 h2
    · exact old p (by simp [hpm])
  · have ha := h.act
    rw [e1, acL_app] at ha
    rw [acL_app]
    refine EqT.trans ?_ ha
    show EqT n (acL n b (acT n (fnP (swL (ga l (k + 1)) i)) (acT n (fnP (thenL (ga l k) (i : Int))) _))) (acL n b (acT n (fnP (ga l (k + 1))) (acT n (fnP (ga l k)) _)))
    exact (((act_then hp h1 h2 en _).acT_).trans (act_sw hq h1 h2 st _)).acL_
theorem NfI.filt (h : NfI n w z l) : NfI n w z (l.filter fun p => decide (p ≠ idL n)) := by
  refine ⟨fun p hp => h.pl p (List.mem_filter.1 hp).1, EqT.trans ?_ h.act⟩
  have key : ∀ (l : List (List Int)) (T : Nat → Wd), EqT n (acL n (l.filter fun p => decide (p ≠ idL n)) T) (acL n l T) := by
    intro l
    induction l with
    | nil => intro T; exact EqT.refl _ _
    | cons p l ih =>
      intro T
      by_cases c : p = idL n
      · rw [List.filter_cons_of_neg (by simpa using c)]
        show EqT n _ (acL n l (acT n (fnP p) T))
        rw [c]
        exact (ih T).trans (id_act n T).symm.acL_
      · rw [List.filter_cons_of_pos (by simpa using c)]
        exact ih _
  exact key l _
theorem NfI.del (h : NfI n w z (delL n :: l)) : NfI n w (z + 1) l := ⟨fun p hp => h.pl p (List.mem_cons_of_mem _ hp), ((dP_inc z tb0).acL_).trans h.act⟩
def LW (n : Nat) (p q : List Int) : Prop := ∀ i : Nat, 1 ≤ i → i < n → ga q (i + 1) < ga q i → plL p ((i : Int) + 1) < plL p (i : Int)
def Stb (n : Nat) (l : List (List Int)) : Prop := ∀ k, k + 1 < l.length → LW n (ga l k) (ga l (k + 1))
theorem PL.ext {p q : List Int} (h : PL n p) (k : PL n q) (e : ∀ j, 1 ≤ j → j ≤ n → ga p j = ga q j) : p = q := ga_ext (by rw [h.len, k.len]) fun i hi => by
  rw [h.len] at hi
  by_cases c : i = 0
  · subst c; rw [h.z, k.z]
  · exact e i (by omega) (by omega)
theorem inc_id {f : Nat → Int} (hr : ∀ j, 1 ≤ j → j ≤ n → 1 ≤ f j ∧ f j ≤ n) (hi : ∀ i, 1 ≤ i → i < n → f i < f (i + 1)) : ∀ j, 1 ≤ j → j ≤ n → f j = (j : Int) := by
  have lo : ∀ j, 1 ≤ j → j ≤ n → (j : Int) ≤ f j := by
    intro j
    induction j with
    | zero => intro h; omega
    | succ j ih =>
      intro _ h2
      by_cases c : j = 0
      · subst c; have := hr 1 (by omega) h2; exact this.1
      · have := ih (by omega) (by omega); have := hi j (by omega) (by omega); omega
  have up : ∀ m j, 1 ≤ j → j + m = n → f j ≤ (j : Int) := by
    intro m
    induction m with
    | zero => intro j h1 e; have := (hr j h1 (by omega)).2; omega
    | succ m ih => intro j h1 e; have := ih (j + 1) (by omega) (by omega); have := hi j h1 (by omega); omega
  intro j h1 h2
  have := lo j h1 h2
  have := up (n - j) j h1 (by omega)
  omega
theorem lw_id {q : List Int} (hq : PL n q) (h : LW n (idL n) q) : q = idL n := by
  have hid := PL.id_ n
  have pid : ∀ i, 1 ≤ i → i ≤ n → plL (idL n) (i : Int) = i := fun i h1 h2 => by have := hid.pl_of h1 h2; rwa [idL_ga h2] at this
  refine hq.ext hid fun j h1 h2 => ?_
  rw [idL_ga h2]
  refine inc_id (f := fun j => ga q j) (fun j a b => hq.rg j a b) (fun i a b => ?_) j h1 h2
  have hne : ga q i ≠ ga q (i + 1) := fun e => by have := hq.ij i (i + 1) a (by omega) (by omega) (by omega) e; omega
  by_cases c : ga q (i + 1) < ga q i
  · have := h i a b c
    rw [pid i a (by omega), show (i : Int) + 1 = ((i + 1 : Nat) : Int) by omega, pid (i + 1) (by omega) (by omega)] at this
    omega
  · show ga q i < ga q (i + 1)
    omega
theorem Stb.tail {p : List Int} {l : List (List Int)} (h : Stb n (p :: l)) : Stb n l := fun k hk => h (k + 1) (by simpa using hk)
theorem Stb.ids : ∀ {l : List (List Int)}, Stb n (idL n :: l) → (∀ p ∈ l, PL n p) → ∀ p ∈ l, p = idL n
  | [], _, _, p, hp => by simp at hp
  | q :: l, h, hl, p, hp => by
    have e : q = idL n := lw_id (hl q (List.mem_cons_self ..)) (h 0 (by simp))
    rcases List.mem_cons.1 hp with e2 | hp2
    · rw [e2]; exact e
    · rw [e] at h
      exact Stb.ids (l := l) h.tail (fun r hr => hl r (List.mem_cons_of_mem _ hr)) p hp2
theorem Stb.filt : ∀ {l : List (List Int)}, Stb n l → (∀ p ∈ l, PL n p) → Stb n (l.filter fun p => decide (p ≠ idL n))
  | [], _, _ => fun k hk => by simp at hk
  | p :: l, h, hl => by
    by_cases c : p = idL n
    · subst c
      have h0 := Stb.ids h (fun p hp => hl p (List.mem_cons_of_mem _ hp))
      have e : (idL n :: l).filter (fun p => decide (p ≠ idL n)) = [] := List.filter_eq_nil_iff.2 fun q hq => by
        rcases List.mem_cons.1 hq with rfl | hq
        · simp
        · rw [h0 q hq]; simp
      rw [e]
      exact fun k hk => by simp at hk
    · rw [List.filter_cons_of_pos (by simpa using c)]
      have ih := Stb.filt (l := l) h.tail (fun p hp => hl p (List.mem_cons_of_mem _ hp))
      intro k hk
      cases k with
      | succ k => exact ih k (by simpa using hk)
      | zero =>
        cases l with
        | nil => simp at hk
        | cons q l =>
          by_cases c2 : q = idL n
          · subst c2
            have h0 := Stb.ids h.tail (fun p hp => hl p (List.mem_cons_of_mem _ (List.mem_cons_of_mem _ hp)))
            have e : (idL n :: l).filter (fun p => decide (p ≠ idL n)) = [] := List.filter_eq_nil_iff.2 fun q hq => by
              rcases List.mem_cons.1 hq with rfl | hq
              · simp
              · rw [h0 q hq]; simp
            rw [e] at hk
            simp at hk
          · rw [List.filter_cons_of_pos (by simpa using c2)]
            exact h 0 (by simp)
def phi : List (List Int) → Nat
  | [] => 0
  | p :: r => invc p + 32 * phi r
theorem phi_two (a : List (List Int)) {p q p' q' : List Int} (b : List (List Int)) (h : invc p' + 32 * invc q' < invc p + 32 * invc q) : phi (a ++ p' :: q' :: b) < phi (a ++ p :: q :: b) := by
  induction a with
  | nil => show invc p' + 32 * (invc q' + 32 * phi b) < invc p + 32 * (invc q + 32 * phi b); omega
  | cons x a ih => show invc x + 32 * phi (a ++ p' :: q' :: b) < invc x + 32 * phi (a ++ p :: q :: b); omega
theorem phi_shift (hn : n ≤ 6) {l : List (List Int)} (hl : ∀ p ∈ l, PL n p) {k i : Nat} (hk : k + 1 < l.length) (h1 : 1 ≤ i) (h2 : i < n) (st : ga (ga l (k + 1)) (i + 1) < ga (ga l (k + 1)) i) : phi ((l.set k (thenL (ga l k) (i : Int))).set (k + 1) (swL (ga l (k + 1)) i)) < phi l := by
  obtain ⟨a, b, _, e1, e2⟩ := two_split hk (thenL (ga l k) (i : Int)) (swL (ga l (k + 1)) i)
  have hp := hl _ (ga_mem (show k < l.length by omega))
  have hq := hl _ (ga_mem hk)
  rw [e2]
  conv => rhs; rw [e1]
  refine phi_two a b ?_
  have c1 := invc_swL (q := ga l (k + 1)) (i := i) (by rw [hq.len]; omega) st
  have c2 := invc_le (thenL (ga l k) (i : Int))
  rw [thenL_len, hp.len] at c2
  have c3 : (n + 1) * (n + 1 - 1) ≤ 7 * 6 := Nat.mul_le_mul (by omega) (by omega)
  omega
theorem okW.inv {u : List Int} (h : okW n u) : okW n (invW u) := fun x hx => by
  unfold invW at hx
  obtain ⟨y, hy, rfl⟩ := List.mem_map.1 hx
  have := h y (List.mem_reverse.1 hy)
  omega
def TabW (n : Nat) (t : List (List Int)) (T : Nat → Wd) : Prop := t.length = n ∧ ∀ i, i < n → ga t i = (T (i + 1)).1
theorem tab0 (n : Nat) : TabW n (unitA n) tb0 := ⟨by simp [unitA], fun i hi => by rw [ga_eq (by simpa [unitA] using hi)]; simp [unitA, tb0]⟩
theorem TabW.step {t : List (List Int)} {T : Nat → Wd} (h : TabW n t T) {x : Int} (hx : 1 ≤ max x (-x) ∧ max x (-x) < n) : TabW n (stepA t x) (stL T x) := by
  obtain ⟨hl, hg⟩ := h
  have hi : (max x (-x) - 1).toNat + 1 < n := by omega
  obtain ⟨i, hie⟩ : ∃ i, (max x (-x) - 1).toNat = i := ⟨_, rfl⟩
  rw [hie] at hi
  have g1 := hg i (by omega)
  have g2 := hg (i + 1) hi
  refine ⟨by unfold stepA; dsimp only; split <;> simp [hl], fun j hj => ?_⟩
  unfold stepA stL
  dsimp only
  rw [hie]
  by_cases c : 0 < x
  · rw [if_pos c, if_pos c, show x.toNat = i + 1 by omega, ga_set _ _ _ _ (by simp; omega)]
    by_cases c1 : i + 1 = j
    · rw [if_pos c1, ← c1, stT_s, g1]
    · rw [if_neg c1, ga_set _ _ _ _ (by omega)]
      by_cases c2 : i = j
      · rw [if_pos c2, ← c2, stT_i, g1, g2, prod3_red (T (i + 1)).2]; rfl
      · rw [if_neg c2, stT_j _ (by omega) (by omega), hg j hj]
  · rw [if_neg c, if_neg c, show (-x).toNat = i + 1 by omega, ga_set _ _ _ _ (by simp; omega)]
    by_cases c1 : i + 1 = j
    · rw [if_pos c1, ← c1, stI_s, g1, g2, prod3_red (T (i + 1 + 1)).2.inv_]; rfl
    · rw [if_neg c1, ga_set _ _ _ _ (by omega)]
      by_cases c2 : i = j
      · rw [if_pos c2, ← c2, stI_i, g2]
      · rw [if_neg c2, stI_j _ (by omega) (by omega), hg j hj]
theorem tab_word {u : List Int} (hu : okW n u) : TabW n (actP n u) (stW tb0 u) := by
  have key : ∀ (u : List Int) (t : List (List Int)) (T : Nat → Wd), okW n u → TabW n t T → TabW n (u.foldl stepA t) (stW T u) := by
    intro u
    induction u with
    | nil => intro t T _ h; exact h
    | cons x u ih => intro t T hu h; exact ih _ _ (fun y hy => hu y (List.mem_cons_of_mem _ hy)) (h.step (hu x (List.mem_cons_self ..)))
  exact key u _ _ hu (tab0 n)
/-- Words that act alike have one table. -/
theorem act_same {u v : List Int} (hu : okW n u) (hv : okW n v) (h : EqT n (stW tb0 u) (stW tb0 v)) : actP n u = actP n v := by
  obtain ⟨a1, a2⟩ := tab_word hu
  obtain ⟨b1, b2⟩ := tab_word hv
  refine ga_ext (by rw [a1, b1]) fun i hi => ?_
  rw [a1] at hi
  rw [a2 i hi, b2 i hi, h (i + 1) (by omega) (by omega)]
end
end Go.Proofs.Ytomcgmialkdcbaa
namespace Go.Proofs.Ytomcgmialkdcbaa
open Go.RowKit
open Wd
def wl (x : Wd) : Nat := x.1.length
theorem wl_mul (x y : Wd) : wl (x * y) ≤ wl x + wl y := len_mul x y
theorem wl_inv (x : Wd) : wl (inv x) = wl x := len_inv x
theorem wl_one : wl one = 0 := rfl
/-- Costs of the places where P turns. -/
def bs (c : Nat → Nat) (P : Nat → Bool) : Nat → Nat → Nat
  | _, 0 => 0
  | a, m + 1 => (if P a = P (a + 1) then 0 else c a) + bs c P (a + 1) m
section
variable {n : Nat} {T U : Nat → Wd}
theorem wl_suf_go (P : Nat → Bool) (T : Nat → Wd) : ∀ m, m ≤ n → ∃ G, pr T P (n + 1 - m) m = (if P (n + 1 - m) then suf n T (n - m) else one) * G ∧ wl G ≤ bs (fun i => wl (suf n T i)) P (n + 1 - m) m
  | 0, _ => ⟨one, by rw [show suf n T (n - 0) = one from suf_n n T, ite_self]; rfl, Nat.zero_le _⟩
  | m + 1, h => by
    obtain ⟨G, e, hG⟩ := wl_suf_go P T m (by omega)
    obtain ⟨a, ha⟩ : ∃ a, n - m = a := ⟨_, rfl⟩
    have h1 : n + 1 - (m + 1) = a := by omega
    have h2 : n + 1 - m = a + 1 := by omega
    have h3 : n - (m + 1) = a - 1 := by omega
    have hs : suf n T (a - 1) = T a * suf n T a := by
      have := suf_step (n := n) (k := a - 1) (by omega) T
      rwa [show a - 1 + 1 = a by omega] at this
    rw [h2] at e hG
    rw [h1, h3, pr, e]
    rw [ha]
    show ∃ G', _ ∧ wl G' ≤ (if P a = P (a + 1) then 0 else wl (suf n T a)) + bs _ P (a + 1) m
    have g1 := wl_mul (suf n T a) G
    have g2 := wl_mul (inv (suf n T a)) G
    rw [wl_inv] at g2
    cases hp : P a <;> cases hq : P (a + 1)
    · exact ⟨G, by simp only [Bool.false_eq_true, if_false, one_mul], by simpa using hG⟩
    · refine ⟨suf n T a * G, by simp only [Bool.false_eq_true, if_false, if_true, one_mul], ?_⟩
      rw [if_neg (by decide)]; omega
    · refine ⟨inv (suf n T a) * G, by simp only [Bool.false_eq_true, if_false, if_true, one_mul, hs, assoc, mul_inv_c], ?_⟩
      rw [if_neg (by decide)]; omega
    · exact ⟨G, by simp only [if_true, hs, assoc], by simpa using hG⟩
theorem wl_suf (P : Nat → Bool) (T : Nat → Wd) : wl (pr T P 1 n) ≤ wl (suf n T 0) + bs (fun i => wl (suf n T i)) P 1 n := by
  obtain ⟨G, e, hG⟩ := wl_suf_go P T n (Nat.le_refl _)
  rw [show n + 1 - n = 1 by omega, Nat.sub_self] at e
  rw [show n + 1 - n = 1 by omega] at hG
  rw [e]
  have := wl_mul (if P 1 = true then suf n T 0 else one) G
  split at this
  · rename_i h; rw [if_pos h]; omega
  · rename_i h; rw [if_neg h]; rw [wl_one] at this; omega
def vK : Nat → Nat
  | 1 => 4
  | 2 => 7
  | 3 => 8
  | 4 => 7
  | 5 => 4
  | _ => 0
def cntP (P : Nat → Bool) : Nat → Nat
  | 0 => 0
  | m + 1 => cntP P m + (if P (m + 1) then 1 else 0)
theorem wl6 : ∀ b1 b2 b3 b4 b5 b6 : Bool, ∀ k : Fin 6, (b1.toNat + b2.toNat + b3.toNat + b4.toNat + b5.toNat + b6.toNat = k.val ∨ b1.toNat + b2.toNat + b3.toNat + b4.toNat + b5.toNat + b6.toNat + k.val = 6) → 1 ≤ k.val → 4 * ((if b1 = b2 then 0 else 4) + ((if b2 = b3 then 0 else 7) + ((if b3 = b4 then 0 else 8) + ((if b4 = b5 then 0 else 7) + ((if b5 = b6 then 0 else 4) + 0))))) ≤ 15 * vK k.val := by decide
theorem wl5 : ∀ b1 b2 b3 b4 b5 : Bool, ∀ k : Fin 5, (b1.toNat + b2.toNat + b3.toNat + b4.toNat + b5.toNat = k.val ∨ b1.toNat + b2.toNat + b3.toNat + b4.toNat + b5.toNat + k.val = 5) → 1 ≤ k.val → 4 * ((if b1 = b2 then 0 else 4) + ((if b2 = b3 then 0 else 7) + ((if b3 = b4 then 0 else 8) + ((if b4 = b5 then 0 else 7) + 0)))) ≤ 15 * vK k.val := by decide
theorem wl4 : ∀ b1 b2 b3 b4 : Bool, ∀ k : Fin 4, (b1.toNat + b2.toNat + b3.toNat + b4.toNat = k.val ∨ b1.toNat + b2.toNat + b3.toNat + b4.toNat + k.val = 4) → 1 ≤ k.val → 4 * ((if b1 = b2 then 0 else 4) + ((if b2 = b3 then 0 else 7) + ((if b3 = b4 then 0 else 8) + 0))) ≤ 15 * vK k.val := by decide
theorem wl3 : ∀ b1 b2 b3 : Bool, ∀ k : Fin 3, (b1.toNat + b2.toNat + b3.toNat = k.val ∨ b1.toNat + b2.toNat + b3.toNat + k.val = 3) → 1 ≤ k.val → 4 * ((if b1 = b2 then 0 else 4) + ((if b2 = b3 then 0 else 7) + 0)) ≤ 15 * vK k.val := by decide
theorem wl2 : ∀ b1 b2 : Bool, ∀ k : Fin 2, (b1.toNat + b2.toNat = k.val ∨ b1.toNat + b2.toNat + k.val = 2) → 1 ≤ k.val → 4 * ((if b1 = b2 then 0 else 4) + 0) ≤ 15 * vK k.val := by decide
theorem ite_nat (b : Bool) : (if b = true then 1 else 0) = b.toNat := by cases b <;> rfl
theorem weights (h2 : 2 ≤ n) (h6 : n ≤ 6) {k : Nat} (k1 : 1 ≤ k) (k2 : k < n) {P : Nat → Bool} (hc : cntP P n = k ∨ cntP P n + k = n) : 4 * bs vK P 1 (n - 1) ≤ 15 * vK k := by
  have hn : n = 2 ∨ n = 3 ∨ n = 4 ∨ n = 5 ∨ n = 6 := by omega
  rcases hn with rfl | rfl | rfl | rfl | rfl
  · have := wl2 (P 1) (P 2) ⟨k, k2⟩ (by simp only [cntP, ite_nat, Nat.reduceAdd, Nat.zero_add] at hc; simp only; omega) k1
    exact this
  · have := wl3 (P 1) (P 2) (P 3) ⟨k, k2⟩ (by simp only [cntP, ite_nat, Nat.reduceAdd, Nat.zero_add] at hc; simp only; omega) k1
    exact this
  · have := wl4 (P 1) (P 2) (P 3) (P 4) ⟨k, k2⟩ (by simp only [cntP, ite_nat, Nat.reduceAdd, Nat.zero_add] at hc; simp only; omega) k1
    exact this
  · have := wl5 (P 1) (P 2) (P 3) (P 4) (P 5) ⟨k, k2⟩ (by simp only [cntP, ite_nat, Nat.reduceAdd, Nat.zero_add] at hc; simp only; omega) k1
    exact this
  · have := wl6 (P 1) (P 2) (P 3) (P 4) (P 5) (P 6) ⟨k, k2⟩ (by simp only [cntP, ite_nat, Nat.reduceAdd, Nat.zero_add] at hc; simp only; omega) k1
    exact this
def IPr (n : Nat) (T U : Nat → Wd) (r : List Int) : Prop := ∀ m, pre T m = pr U (fun i => decide (plL r (i : Int) ≤ m)) 1 n ∨ n < m
theorem pr_mid {T : Nat → Wd} {P : Nat → Bool} {i : Nat} (h1 : 1 ≤ i) (h2 : i < n) : pr T P 1 n = pr T P 1 (i - 1) * ((if P i then T i else one) * ((if P (i + 1) then T (i + 1) else one) * pr T P (i + 2) (n - (i + 1)))) := by
  have e1 := pr_add T P (i - 1) 1 (n - (i - 1))
  rw [show i - 1 + (n - (i - 1)) = n by omega, show 1 + (i - 1) = i by omega, show n - (i - 1) = (n - (i + 1)) + 1 + 1 by omega] at e1
  rw [e1, pr, pr]
structure RelP (n : Nat) (p q s r : List Int) : Prop where
  pl : PL n r
  at_ : ∀ j, 1 ≤ j → j ≤ n → ga (0 :: q) (fnP r j) = ga (0 :: p) j
  inv_ : ∀ a b, 1 ≤ a → a < b → b ≤ n → fnP r b < fnP r a → ga (0 :: p) b < ga (0 :: p) a
  act : ∀ T, EqT n (stW T s) (acT n (fnP r) T)
  ip : ∀ T, IPr n T (stW T s) r
theorem Srn.rel {p q s : List Int} (R : Srn n p s q) (h : PL n (0 :: p)) : ∃ r, RelP n p q s r := by
  induction R with
  | nil =>
    have hid := PL.id_ n
    have fi : ∀ j, j ≤ n → fnP (idL n) j = j := fun j hj => by unfold fnP; rw [idL_ga hj]; omega
    refine ⟨idL n, hid, fun j h1 h2 => by rw [fi j h2], fun a b h1 h2 h3 h4 => by rw [fi a (by omega), fi b h3] at h4; omega, fun T => (id_act n T).symm, fun T m => ?_⟩
    by_cases c : n < m
    · exact .inr c
    · left
      show pre T m = pr T _ 1 n
      have e := pr_add T (fun i => decide (plL (idL n) (i : Int) ≤ m)) m 1 (n - m)
      rw [show m + (n - m) = n by omega] at e
      have pid : ∀ i, 1 ≤ i → i ≤ n → plL (idL n) (i : Int) = i := fun i h1 h2 => by have := hid.pl_of h1 h2; rwa [idL_ga h2] at this
      rw [e, pr_one (m := n - m) (fun j h1 h2 => decide_eq_false (by rw [pid j (by omega) (by omega)]; omega)), mul_one]
      exact pr_cong fun j h1 h2 => by rw [if_pos rfl, if_pos (decide_eq_true (by rw [pid j (by omega) (by omega)]; omega))]
  | @snoc s q i R hi hd ih =>
    obtain ⟨r, H⟩ := ih
    have hx1 : 1 ≤ i + 1 := by omega
    have a := H.pl.pl hx1 (show i + 1 ≤ n by omega)
    have b := H.pl.pl2 hx1 hi
    obtain ⟨ja, hja⟩ : ∃ j, plL r (((i + 1 : Nat)) : Int) = j := ⟨_, rfl⟩
    obtain ⟨jb, hjb⟩ : ∃ j, plL r (((i + 1 : Nat) : Int) + 1) = j := ⟨_, rfl⟩
    rw [hja] at a
    rw [hjb] at b
    have fa : fnP r ja = i + 1 := by unfold fnP; rw [a.2.2]; omega
    have fb : fnP r jb = i + 2 := by unfold fnP; rw [b.2.2]; omega
    have pa := H.at_ ja a.1 a.2.1
    have pb := H.at_ jb b.1 b.2.1
    rw [fa] at pa
    rw [fb] at pb
    have hd2 : ga (0 :: q) (i + 2) < ga (0 :: q) (i + 1) := hd
    have hab : ja < jb := by
      rcases Nat.lt_trichotomy ja jb with c | c | c
      · exact c
      · subst c; omega
      · have := H.inv_ jb ja b.1 c a.2.1 (by rw [fa, fb]; omega); omega
    have g := thenL_at H.pl hx1 hi
    rw [hja, hjb] at g
    have fn : ∀ j, fnP (thenL r ((i + 1 : Nat) : Int)) j = if j = ja then i + 2 else if j = jb then i + 1 else fnP r j := fun j => by
      unfold fnP; rw [g]
      split
      · omega
      · split
        · omega
        · rfl
    have hpl := H.pl.then_ hx1 hi
    have fne : ∀ j, 1 ≤ j → j ≤ n → j ≠ ja → j ≠ jb → fnP r j ≠ i + 1 ∧ fnP r j ≠ i + 2 := fun j j1 j2 x y => ⟨fun e => x (H.pl.pm.ij j ja j1 j2 a.1 a.2.1 (by rw [e, fa])), fun e => y (H.pl.pm.ij j jb j1 j2 b.1 b.2.1 (by rw [e, fb]))⟩
    have hq := R.pl h
    have qs : ∀ j, ga (0 :: swL q i) j = if j = i + 1 then ga (0 :: q) (i + 2) else if j = i + 2 then ga (0 :: q) (i + 1) else ga (0 :: q) j := fun j => by
      rw [← cons_sw]; exact swL_at (by rw [hq.len]; omega) j
    have p1 : plL (thenL r ((i + 1 : Nat) : Int)) ((i + 1 : Nat) : Int) = jb := by have := hpl.pl_of b.1 b.2.1; rwa [g, if_neg (by omega), if_pos rfl] at this
    have p2 : plL (thenL r ((i + 1 : Nat) : Int)) (((i + 1 : Nat) : Int) + 1) = ja := by have := hpl.pl_of a.1 a.2.1; rwa [g, if_pos rfl] at this
    have pj : ∀ j : Nat, 1 ≤ j → j ≤ n → j ≠ i + 1 → j ≠ i + 2 → plL (thenL r ((i + 1 : Nat) : Int)) (j : Int) = plL r (j : Int) := fun j j1 j2 x y => by
      have hj := H.pl.pl j1 j2
      have e : ga (thenL r ((i + 1 : Nat) : Int)) (plL r (j : Int)) = (j : Int) := by
        rw [g, if_neg (fun e => by rw [e, a.2.2] at hj; omega), if_neg (fun e => by rw [e, b.2.2] at hj; omega)]; exact hj.2.2
      have := hpl.pl_of hj.1 hj.2.1
      rwa [e] at this
    refine ⟨thenL r ((i + 1 : Nat) : Int), hpl, fun j j1 j2 => ?_, fun x y x1 xy y2 hxy => ?_, fun T => ?_, fun T m => ?_⟩
    · rw [fn, qs]
      by_cases c1 : j = ja
      · rw [if_pos c1, if_neg (by omega), if_pos rfl, c1]; exact pa
      · rw [if_neg c1]
        by_cases c2 : j = jb
        · rw [if_pos c2, if_pos rfl, c2]; exact pb
        · obtain ⟨u1, u2⟩ := fne j j1 j2 c1 c2
          rw [if_neg c2, if_neg u1, if_neg u2]
          exact H.at_ j j1 j2
    · have nx : x ≠ ja → x ≠ jb → fnP r x ≠ i + 1 ∧ fnP r x ≠ i + 2 := fne x x1 (by omega)
      have ny : y ≠ ja → y ≠ jb → fnP r y ≠ i + 1 ∧ fnP r y ≠ i + 2 := fne y (by omega) y2
      rw [fn, fn] at hxy
      by_cases cx : x = ja
      · by_cases cy : y = jb
        · subst cx cy; rw [← pa, ← pb]; exact hd2
        · refine H.inv_ x y x1 xy y2 ?_
          rw [if_pos cx, if_neg (by omega), if_neg cy] at hxy
          have := ny (by omega) cy
          rw [cx, fa]; omega
      · rw [if_neg cx] at hxy
        by_cases cx2 : x = jb
        · rw [if_pos cx2, if_neg (by omega), if_neg (by omega)] at hxy
          exact H.inv_ x y x1 xy y2 (by rw [cx2, fb]; omega)
        · rw [if_neg cx2] at hxy
          have := nx cx cx2
          refine H.inv_ x y x1 xy y2 ?_
          by_cases cy : y = ja
          · rw [if_pos cy] at hxy; rw [cy, fa]; omega
          · rw [if_neg cy] at hxy
            by_cases cy2 : y = jb
            · rw [if_pos cy2] at hxy; rw [cy2, fb]; omega
            · rw [if_neg cy2] at hxy; exact hxy
    · rw [stW_snoc, stL_pos]
      exact ((H.act T).stT_ hx1 hi).trans (act_then H.pl hx1 hi (by rw [hja, hjb]; exact hab) T).symm
    · rcases H.ip T m with e | c
      · left
        rw [e, stW_snoc, stL_pos, pr_mid hx1 hi, pr_mid hx1 hi, stT_i, stT_s]
        have far : ∀ u k, 1 ≤ u → (∀ j, u ≤ j → j < u + k → j ≤ n ∧ j ≠ i + 1 ∧ j ≠ i + 2) → pr (stT (stW T s) (i + 1)) (fun j => decide (plL (thenL r ((i + 1 : Nat) : Int)) (j : Int) ≤ m)) u k = pr (stW T s) (fun j => decide (plL r (j : Int) ≤ m)) u k := fun u k hu h => pr_cong fun j x y => by
          obtain ⟨z1, z2, z3⟩ := h j x y
          show (if decide (plL (thenL r ((i + 1 : Nat) : Int)) (j : Int) ≤ m) = true then stT (stW T s) (i + 1) j else one) = if decide (plL r (j : Int) ≤ m) = true then stW T s j else one
          rw [pj j (by omega) z1 z2 z3, stT_j _ z2 z3]
        rw [far 1 _ (Nat.le_refl _) (fun j _ _ => by omega), far (i + 1 + 2) _ (by omega) (fun j _ _ => by omega)]
        rw [show (((i + 1 + 1 : Nat)) : Int) = ((i + 1 : Nat) : Int) + 1 by omega, p1, p2, hja, hjb]
        refine congrArg _ ?_
        by_cases c1 : jb ≤ m
        · have c2 : ja ≤ m := by omega
          simp only [c1, c2, decide_true, if_true, assoc, inv_mul_c]
        · by_cases c2 : ja ≤ m
          · simp only [c1, c2, decide_true, decide_false, if_true, Bool.false_eq_true, if_false, one_mul]
          · simp only [c1, c2, decide_false, Bool.false_eq_true, if_false, one_mul]
      · exact .inr c
end
end Go.Proofs.Ytomcgmialkdcbaa
namespace Go.Proofs.Ytomcgmialkdcbaa
open Go.RowKit
open Wd
section
variable {n : Nat} {T U : Nat → Wd}
def TotL (n : Nat) (T : Nat → Wd) : Prop := wl (suf n T 0) ≤ n
theorem pre_0 (T : Nat → Wd) : pre T 0 = one := rfl
theorem Srn.split {p q s : List Int} (R : Srn n p s q) : ∀ m, m ≤ s.length → ∃ q', Srn n p (s.take m) q' ∧ Srn n q' (s.drop m) q := by
  induction R with
  | nil => intro m hm; simp at hm; subst hm; exact ⟨p, .nil, .nil⟩
  | @snoc s q i R hi hd ih =>
    intro m hm
    rw [List.length_append, List.length_singleton] at hm
    by_cases c : m ≤ s.length
    · obtain ⟨q', a, b⟩ := ih m c
      rw [List.take_append_of_le_length c, List.drop_append_of_le_length c]
      exact ⟨q', a, b.snoc hi hd⟩
    · have e : m = (s ++ [(i : Int) + 1]).length := by rw [List.length_append, List.length_singleton]; omega
      rw [e, List.take_length, List.drop_length]
      exact ⟨_, R.snoc hi hd, .nil⟩
def MxS (n M : Nat) (T : Nat → Wd) : Prop := ∀ i, i ≤ n → wl (suf n T i) ≤ M
theorem bs_max {c : Nat → Nat} {M : Nat} {P : Nat → Bool} : ∀ {m a : Nat}, (∀ i, a ≤ i → i < a + m → c i ≤ M) → bs c P a m ≤ m * M
  | 0, a, _ => Nat.zero_le _
  | m + 1, a, h => by
    have ih := bs_max (c := c) (M := M) (P := P) (m := m) (a := a + 1) fun i h1 h2 => h i (by omega) (by omega)
    have h0 := h a (Nat.le_refl _) (by omega)
    rw [bs, Nat.add_mul, Nat.one_mul]
    split <;> omega
theorem MxS.run {M : Nat} {p q s : List Int} (h : PL n (0 :: p)) (R : Srn n p s q) (hM : MxS n M T) (ht : TotL n T) : MxS n (n + n * M) (stW T s) := by
  obtain ⟨r, H⟩ := R.rel h
  intro k hk
  rw [(H.act T).suf_, suf_acT H.pl.pm T (m := n - k) (by omega)]
  have e := wl_suf (n := n) (fun j => decide (k < fnP r j)) T
  have b := bs_max (c := fun i => wl (suf n T i)) (M := M) (P := fun j => decide (k < fnP r j)) (m := n) (a := 1) fun i i1 i2 => hM i (by omega)
  unfold TotL at ht
  unfold sK
  omega
theorem MxS.len {M : Nat} (hM : MxS n M T) {j : Nat} (j1 : 1 ≤ j) (j2 : j ≤ n) : wl (T j) ≤ 2 * M := by
  rw [suf_tab j1 j2 T]
  have w := wl_mul (suf n T (j - 1)) (inv (suf n T j))
  rw [wl_inv] at w
  have a := hM (j - 1) (by omega)
  have b := hM j j2
  omega
theorem pre_cong {m : Nat} (h : ∀ j, 1 ≤ j → j ≤ m → T j = U j) : pre T m = pre U m := pr_cong fun j a b => by rw [if_pos rfl, if_pos rfl, h j a (by omega)]
end
end Go.Proofs.Ytomcgmialkdcbaa
namespace Go.Proofs.Ytomcgmialkdcbaa
open Go.RowKit
open Wd
def lt_ (T : Nat → Wd) (z : Int) : Wd := if z = 0 then one else if 0 < z then T z.toNat else inv (T (-z).toNat)
def hl (T : Nat → Wd) (xs : List Int) : Wd := xs.foldl (fun a z => a * lt_ T z) one
theorem hl_snoc (T : Nat → Wd) (xs : List Int) (z : Int) : hl T (xs ++ [z]) = hl T xs * lt_ T z := by unfold hl; rw [List.foldl_append]; rfl
theorem lt_neg (T : Nat → Wd) (z : Int) : lt_ T (-z) * lt_ T z = one := by
  unfold lt_
  by_cases h0 : z = 0
  · rw [if_pos (by omega), if_pos h0]; rfl
  · rw [if_neg (by omega), if_neg h0]
    by_cases h : 0 < z
    · rw [if_neg (by omega), if_pos h, show (- -z) = z by omega, inv_mul]
    · rw [if_pos (by omega), if_neg h, mul_inv]
theorem hl_push (T : Nat → Wd) (xs : List Int) (z : Int) : hl T (pushW xs z) = hl T xs * lt_ T z := by
  rcases snoc_cases xs with rfl | ⟨ys, b, rfl⟩
  · rw [pushW_nil]; rfl
  · rw [pushW_snoc]
    split
    · rename_i h
      rw [hl_snoc, assoc, h, lt_neg, mul_one]
    · rw [hl_snoc]
theorem hl_glu (T : Nat → Wd) (xs : List Int) : ∀ ys, hl T (gluW xs ys) = hl T xs * ys.foldl (fun a z => a * lt_ T z) one := by
  intro ys
  have key : ∀ (ys xs : List Int) (a : Wd), hl T (gluW xs ys) = hl T xs * (inv a * ys.foldl (fun a z => a * lt_ T z) a) := by
    intro ys
    induction ys with
    | nil => intro xs a; show hl T xs = hl T xs * (inv a * a); rw [inv_mul, mul_one]
    | cons y ys ih =>
      intro xs a
      show hl T (gluW (pushW xs y) ys) = hl T xs * (inv a * ys.foldl (fun a z => a * lt_ T z) (a * lt_ T y))
      rw [ih (pushW xs y) (a * lt_ T y), hl_push, mul_inv_rev]
      simp only [assoc, mul_inv_c]
  have := key ys xs one
  rw [inv_one, one_mul] at this
  exact this
/-- The homomorphism that gives the letters the values of a table. -/
def hm (T : Nat → Wd) (x : Wd) : Wd := hl T x.1
theorem hm_mul (T : Nat → Wd) (x y : Wd) : hm T (x * y) = hm T x * hm T y := hl_glu T x.1 y.1
theorem hm_one (T : Nat → Wd) : hm T one = one := rfl
theorem hm_inv (T : Nat → Wd) (x : Wd) : hm T (inv x) = inv (hm T x) := by
  have h : hm T x * hm T (inv x) = one := by rw [← hm_mul, mul_inv, hm_one]
  exact (inv_of h).symm
theorem hm_tb0 (T : Nat → Wd) {k : Nat} (h : 1 ≤ k) : hm T (tb0 k) = T k := by
  show one * lt_ T (k : Int) = T k
  unfold lt_
  rw [one_mul, if_neg (by omega), if_pos (by omega)]
  rfl
theorem hm_pr (T U : Nat → Wd) (P : Nat → Bool) : ∀ (m a : Nat), hm T (pr U P a m) = pr (fun k => hm T (U k)) P a m
  | 0, a => rfl
  | m + 1, a => by
    rw [pr, pr, hm_mul, hm_pr T U P m (a + 1)]
    split <;> rfl
theorem hm_acT (T U : Nat → Wd) (n : Nat) (p : Nat → Nat) : (fun k => hm T (acT n p U k)) = acT n p (fun k => hm T (U k)) := by
  funext k
  unfold acT
  split
  · unfold sK; rw [hm_mul, hm_inv, hm_pr, hm_pr]
  · rfl
theorem hm_acL (T : Nat → Wd) (n : Nat) : ∀ (l : List (List Int)) (U : Nat → Wd), (fun k => hm T (acL n l U k)) = acL n l (fun k => hm T (U k))
  | [], U => rfl
  | p :: l, U => by
    show (fun k => hm T (acL n l (acT n (fnP p) U) k)) = acL n l (acT n (fnP p) (fun k => hm T (U k)))
    rw [hm_acL T n l, hm_acT]
theorem hm_stT (T U : Nat → Wd) (i : Nat) : (fun k => hm T (stT U i k)) = stT (fun k => hm T (U k)) i := by
  funext k
  unfold stT
  split
  · rw [hm_mul, hm_mul, hm_inv]
  · split <;> rfl
def yl (a : Nat) : Wd := tb0 (a + 1)
/-- What a letter of a braid does to y_0 .. y_n. -/
def yT (k : Nat) : Nat → Wd := fun m => if m = k + 1 then yl (k - 1) * inv (yl k) * yl (k + 1) else tb0 m
def yI (k : Nat) : Nat → Wd := fun m => if m = k + 1 then yl (k + 1) * inv (yl k) * yl (k - 1) else tb0 m
theorem yT_k (k : Nat) : hm (yT k) (yl k) = yl (k - 1) * inv (yl k) * yl (k + 1) := by
  unfold yl; rw [hm_tb0 _ (by omega)]; unfold yT; rw [if_pos rfl]; rfl
theorem yT_a {k a : Nat} (h : a ≠ k) : hm (yT k) (yl a) = yl a := by
  unfold yl; rw [hm_tb0 _ (by omega)]; unfold yT; rw [if_neg (by omega)]
theorem yI_k (k : Nat) : hm (yI k) (yl k) = yl (k + 1) * inv (yl k) * yl (k - 1) := by
  unfold yl; rw [hm_tb0 _ (by omega)]; unfold yI; rw [if_pos rfl]; rfl
theorem yI_a {k a : Nat} (h : a ≠ k) : hm (yI k) (yl a) = yl a := by
  unfold yl; rw [hm_tb0 _ (by omega)]; unfold yI; rw [if_neg (by omega)]
/-- The letters x_k. -/
def ux : Nat → Wd := fun k => yl (k - 1) * inv (yl k)
theorem ux_at (k : Nat) : ux k = yl (k - 1) * inv (yl k) := rfl
theorem ux_s (k : Nat) : ux (k + 1) = yl k * inv (yl (k + 1)) := rfl
theorem ux_yT {k : Nat} (hk : 1 ≤ k) (m : Nat) (hm1 : 1 ≤ m) : hm (yT k) (ux m) = stT ux k m := by
  unfold stT
  by_cases h1 : m = k
  · subst h1
    rw [if_pos rfl, ux_s, ux_at, hm_mul, hm_inv, yT_a (show m - 1 ≠ m by omega), yT_k]
    simp only [mul_inv_rev, inv_inv, assoc, inv_mul_c]
  · rw [if_neg h1]
    by_cases h2 : m = k + 1
    · subst h2
      rw [if_pos rfl, ux_s, ux_at, hm_mul, hm_inv, yT_k, yT_a (show k + 1 ≠ k by omega)]
      simp only [assoc, mul_inv, mul_one]
    · rw [if_neg h2, ux_at, hm_mul, hm_inv, yT_a (show m - 1 ≠ k by omega), yT_a h1]
theorem ux_yI {k : Nat} (hk : 1 ≤ k) (m : Nat) (hm1 : 1 ≤ m) : hm (yI k) (stT ux k m) = ux m := by
  have e : ∀ m, 1 ≤ m → hm (yI k) (ux m) = stI ux k m := fun m h => by
    unfold stI
    by_cases h1 : m = k
    · subst h1
      rw [if_pos rfl, ux_s, ux_at, hm_mul, hm_inv, yI_a (show m - 1 ≠ m by omega), yI_k]
      simp only [mul_inv_rev, inv_inv, assoc, mul_inv_c]
    · rw [if_neg h1]
      by_cases h2 : m = k + 1
      · subst h2
        rw [if_pos rfl, ux_s, ux_at, hm_mul, hm_inv, yI_k, yI_a (show k + 1 ≠ k by omega)]
        simp only [mul_inv_rev, inv_inv, assoc, inv_mul_c]
      · rw [if_neg h2, ux_at, hm_mul, hm_inv, yI_a (show m - 1 ≠ k by omega), yI_a h1]
  have e2 := congrFun (hm_stT (yI k) ux k) m
  have e3 : stT (fun j => hm (yI k) (ux j)) k m = stT (stI ux k) k m := by
    unfold stT
    dsimp only
    rw [e k hk, e (k + 1) (by omega), e m hm1]
  exact e2.trans (e3.trans (congrFun (stT_stI ux k) m))
abbrev Cr := Nat × Nat
def sg (x : Cr) : Wd := if x.2 % 2 = 0 then yl x.1 else inv (yl x.1)
def ev : List Cr → Wd
  | [] => one
  | x :: r => sg x * ev r
/-- From a crossing to the next one: the label tells how often the path has turned. -/
def Stp (x y : Cr) : Prop := (y.2 = x.2 + 1 ∧ ((x.2 % 2 = 0 ∧ x.1 < y.1) ∨ (x.2 % 2 = 1 ∧ y.1 < x.1))) ∨ (x.2 = y.2 + 1 ∧ ((x.2 % 2 = 0 ∧ y.1 < x.1) ∨ (x.2 % 2 = 1 ∧ x.1 < y.1)))
def Ch : Cr → List Cr → Prop
  | _, [] => True
  | x, y :: r => Stp x y ∧ Ch y r
def hi_ (k l : Nat) : Nat := if l % 2 = 0 then k + 1 else k - 1
def lo_ (k l : Nat) : Nat := if l % 2 = 0 then k - 1 else k + 1
def hd (k : Nat) : List Cr → Nat
  | [] => k + 7
  | x :: _ => x.1
/-- What becomes of a crossing x between crossings at p and q. -/
def pc (k p : Nat) (x : Cr) (q : Nat) : List Cr :=
  if x.1 = k then (if p = lo_ k x.2 then [] else [(lo_ k x.2, x.2)]) ++ (k, x.2 + 1) :: (if q = hi_ k x.2 then [] else [(hi_ k x.2, x.2)])
  else if (x.1 = lo_ k x.2 ∧ p = k) ∨ (x.1 = hi_ k x.2 ∧ q = k) then [] else [x]
def img (k : Nat) : Nat → List Cr → List Cr
  | _, [] => []
  | p, x :: r => pc k p x (hd k r) ++ img k x.1 r
theorem ev_app : ∀ (a b : List Cr), ev (a ++ b) = ev a * ev b
  | [], b => (one_mul _).symm
  | x :: a, b => by show sg x * ev (a ++ b) = sg x * ev a * ev b; rw [ev_app a b, assoc]
/-- What a crossing leaves out on its left because it cancels. -/
def lf (k p : Nat) (x : Cr) : Wd := if (x.1 = k ∧ p = lo_ k x.2) ∨ (x.1 = lo_ k x.2 ∧ p = k) then sg (lo_ k x.2, x.2) else one
def rt (k q : Nat) (x : Cr) : Wd := if (x.1 = k ∧ q = hi_ k x.2) ∨ (x.1 = hi_ k x.2 ∧ q = k) then sg (hi_ k x.2, x.2) else one
theorem lohi {k l : Nat} (hk : 1 ≤ k) : lo_ k l ≠ k ∧ hi_ k l ≠ k ∧ lo_ k l ≠ hi_ k l := by unfold lo_ hi_; split <;> omega
theorem sg_Phi {k : Nat} (hk : 1 ≤ k) (x : Cr) : hm (yT k) (sg x) = if x.1 = k then sg (lo_ k x.2, x.2) * sg (k, x.2 + 1) * sg (hi_ k x.2, x.2) else sg x := by
  obtain ⟨a, l⟩ := x
  unfold sg lo_ hi_
  dsimp only
  by_cases hl : l % 2 = 0
  · rw [if_pos hl, if_pos hl, if_pos hl]
    by_cases ha : a = k
    · subst ha
      rw [if_pos rfl, yT_k, if_neg (by omega), if_pos hl, if_pos hl]
    · rw [if_neg ha, yT_a ha]
  · rw [if_neg hl, if_neg hl, if_neg hl, hm_inv]
    by_cases ha : a = k
    · subst ha
      rw [if_pos rfl, yT_k, if_pos (by omega), if_neg hl, if_neg hl]
      simp only [mul_inv_rev, inv_inv, assoc]
    · rw [if_neg ha, yT_a ha]
theorem pc_ev {k : Nat} (hk : 1 ≤ k) (p q : Nat) (x : Cr) : lf k p x * (ev (pc k p x q) * rt k q x) = (if x.1 = k then sg (lo_ k x.2, x.2) * sg (k, x.2 + 1) * sg (hi_ k x.2, x.2) else sg x) ∨ (x.1 = lo_ k x.2 ∧ p = k ∧ x.1 = hi_ k x.2) := by
  obtain ⟨h1, h2, h3⟩ := lohi (k := k) (l := x.2) hk
  left
  unfold lf rt pc
  by_cases ha : x.1 = k
  · rw [if_pos ha, if_pos ha]
    have e1 : ((x.1 = k ∧ p = lo_ k x.2) ∨ (x.1 = lo_ k x.2 ∧ p = k)) ↔ p = lo_ k x.2 := ⟨fun h => h.elim (·.2) (fun h => absurd (h.1.symm.trans ha) h1), fun h => .inl ⟨ha, h⟩⟩
    have e2 : ((x.1 = k ∧ q = hi_ k x.2) ∨ (x.1 = hi_ k x.2 ∧ q = k)) ↔ q = hi_ k x.2 := ⟨fun h => h.elim (·.2) (fun h => absurd (h.1.symm.trans ha) h2), fun h => .inl ⟨ha, h⟩⟩
    simp only [e1, e2]
    by_cases c1 : p = lo_ k x.2 <;> by_cases c2 : q = hi_ k x.2 <;> simp only [c1, c2, if_true, if_false, List.nil_append, List.singleton_append, ev, one_mul, mul_one, assoc]
  · rw [if_neg ha, if_neg ha]
    have e1 : ((x.1 = k ∧ p = lo_ k x.2) ∨ (x.1 = lo_ k x.2 ∧ p = k)) ↔ (x.1 = lo_ k x.2 ∧ p = k) := ⟨fun h => h.elim (fun h => absurd h.1 ha) id, .inr⟩
    have e2 : ((x.1 = k ∧ q = hi_ k x.2) ∨ (x.1 = hi_ k x.2 ∧ q = k)) ↔ (x.1 = hi_ k x.2 ∧ q = k) := ⟨fun h => h.elim (fun h => absurd h.1 ha) id, .inr⟩
    simp only [e1, e2]
    by_cases c1 : x.1 = lo_ k x.2 ∧ p = k
    · have c2 : ¬ (x.1 = hi_ k x.2 ∧ q = k) := fun h => h3 (c1.1.symm.trans h.1)
      rw [if_pos c1, if_neg c2, if_pos (.inl c1)]
      show sg (lo_ k x.2, x.2) * (one * one) = sg x
      rw [← c1.1]; exact mul_one _
    · by_cases c2 : x.1 = hi_ k x.2 ∧ q = k
      · rw [if_neg c1, if_pos c2, if_pos (.inr c2)]
        show one * (one * sg (hi_ k x.2, x.2)) = sg x
        rw [← c2.1, one_mul, one_mul]
      · rw [if_neg c1, if_neg c2, if_neg (by rintro (h | h); exact c1 h; exact c2 h)]
        show one * (sg x * one * one) = sg x
        rw [one_mul]; rfl
theorem rt_lf {k : Nat} (x y : Cr) (h : Stp x y) : rt k y.1 x * lf k x.1 y = one := by
  have hp : (x.2 % 2 = 0 ∧ y.2 % 2 = 1) ∨ (x.2 % 2 = 1 ∧ y.2 % 2 = 0) := by unfold Stp at h; omega
  have e : hi_ k x.2 = lo_ k y.2 := by unfold hi_ lo_; rcases hp with ⟨a, b⟩ | ⟨a, b⟩ <;> simp [a, b]
  unfold rt lf
  rw [e]
  have ec : ((x.1 = k ∧ y.1 = lo_ k y.2) ∨ (x.1 = lo_ k y.2 ∧ y.1 = k)) ↔ ((y.1 = k ∧ x.1 = lo_ k y.2) ∨ (y.1 = lo_ k y.2 ∧ x.1 = k)) := ⟨fun h => h.elim (fun h => .inr ⟨h.2, h.1⟩) (fun h => .inl ⟨h.2, h.1⟩), fun h => h.elim (fun h => .inr ⟨h.2, h.1⟩) (fun h => .inl ⟨h.2, h.1⟩)⟩
  by_cases c : (y.1 = k ∧ x.1 = lo_ k y.2) ∨ (y.1 = lo_ k y.2 ∧ x.1 = k)
  · rw [if_pos (ec.2 c), if_pos c]
    unfold sg
    dsimp only
    rcases hp with ⟨a, b⟩ | ⟨a, b⟩
    · rw [if_pos a, if_neg (by omega), mul_inv]
    · rw [if_neg (by omega), if_pos b, inv_mul]
  · rw [if_neg (fun h => c (ec.1 h)), if_neg c]; rfl
/-- The image of a path tells what the letter does to its word. -/
theorem img_ev {k : Nat} (hk : 1 ≤ k) : ∀ (r : List Cr) (p : Nat) (x : Cr), Ch x r → lf k p x * ev (img k p (x :: r)) = hm (yT k) (ev (x :: r))
  | [], p, x, _ => by
    have h := (pc_ev hk p (k + 7) x).resolve_right (fun h => (lohi hk).2.2 (h.1.symm.trans h.2.2))
    have e : rt k (k + 7) x = one := by
      unfold rt; rw [if_neg]; rintro (⟨_, h⟩ | ⟨_, h⟩)
      · unfold hi_ at h; split at h <;> omega
      · omega
    show lf k p x * ev (pc k p x (k + 7) ++ []) = hm (yT k) (sg x * one)
    rw [List.append_nil, mul_one, sg_Phi hk, ← h, e, mul_one]
  | y :: r, p, x, hc => by
    have h := (pc_ev hk p y.1 x).resolve_right (fun h => (lohi hk).2.2 (h.1.symm.trans h.2.2))
    have ih := img_ev hk r x.1 y hc.2
    show lf k p x * ev (pc k p x y.1 ++ img k x.1 (y :: r)) = hm (yT k) (sg x * ev (y :: r))
    rw [hm_mul, ← ih, sg_Phi hk, ← h, ev_app]
    simp only [assoc]
    rw [← assoc (rt k y.1 x), rt_lf x y hc.1, one_mul]
theorem img_ev0 {k : Nat} (hk : 1 ≤ k) {r : List Cr} {x : Cr} (hc : Ch x r) : ev (img k (k + 7) (x :: r)) = hm (yT k) (ev (x :: r)) := by
  have h := img_ev hk r (k + 7) x hc
  have e : lf k (k + 7) x = one := by
    unfold lf; rw [if_neg]; rintro (⟨_, h⟩ | ⟨_, h⟩)
    · unfold lo_ at h; split at h <;> omega
    · omega
  rwa [e, one_mul] at h
/-- A letter leaves no crossing at its own place with label 0. -/
theorem img_no {k : Nat} (hk : 1 ≤ k) : ∀ (P : List Cr) (p : Nat), (k, 0) ∉ img k p P
  | [], p => by simp [img]
  | x :: r, p => by
    obtain ⟨h1, h2, _⟩ := lohi (k := k) (l := x.2) hk
    intro h
    rcases List.mem_append.1 h with h | h
    · unfold pc at h
      split at h
      · rcases List.mem_append.1 h with h | h
        · split at h
          · simp at h
          · rw [List.mem_singleton] at h; injection h with e; exact h1 e.symm
        · rcases List.mem_cons.1 h with h | h
          · injection h with _ e; omega
          · split at h
            · simp at h
            · rw [List.mem_singleton] at h; injection h with e; exact h2 e.symm
      · rename_i hne
        split at h
        · simp at h
        · rw [List.mem_singleton] at h; exact hne (by rw [← h])
    · exact img_no hk r x.1 h
end Go.Proofs.Ytomcgmialkdcbaa
namespace Go.Proofs.Ytomcgmialkdcbaa
open Go.RowKit
open Wd
theorem two_par {k : Nat} {x y : Cr} (h : Stp x y) : (x.2 % 2 = 0 ∧ y.2 % 2 = 1 ∧ hi_ k x.2 = k + 1 ∧ lo_ k x.2 = k - 1 ∧ hi_ k y.2 = k - 1 ∧ lo_ k y.2 = k + 1) ∨ (x.2 % 2 = 1 ∧ y.2 % 2 = 0 ∧ hi_ k x.2 = k - 1 ∧ lo_ k x.2 = k + 1 ∧ hi_ k y.2 = k + 1 ∧ lo_ k y.2 = k - 1) := by
  have hp : (x.2 % 2 = 0 ∧ y.2 % 2 = 1) ∨ (x.2 % 2 = 1 ∧ y.2 % 2 = 0) := by unfold Stp at h; omega
  unfold hi_ lo_
  rcases hp with ⟨a, b⟩ | ⟨a, b⟩
  · exact .inl ⟨a, b, by simp [a], by simp [a], by simp [b], by simp [b]⟩
  · exact .inr ⟨a, b, by simp [a], by simp [a], by simp [b], by simp [b]⟩
/-- The last crossing that has come out so far, z, against the last one seen, x, and the next place q. -/
def Rq (k : Nat) (z x : Cr) (q : Nat) : Prop :=
  if x.1 = k then (if q = hi_ k x.2 then z = (k, x.2 + 1) else z = (hi_ k x.2, x.2))
  else if q = k ∧ x.1 = hi_ k x.2 then Stp z (k, x.2)
  else z = x ∨ (z = (k, x.2) ∧ x.1 = lo_ k x.2)
theorem pc_ch {k : Nat} (hk : 1 ≤ k) {x y z : Cr} {q : Nat} {t : List Cr} (h : Stp x y) (hz : Rq k z x y.1) (cont : ∀ z', Rq k z' y q → Ch z' t) : Ch z (pc k x.1 y q ++ t) := by
  have P := two_par (k := k) h
  have hne : x.1 ≠ y.1 := by unfold Stp at h; omega
  unfold pc
  by_cases c1 : y.1 = k
  · rw [if_pos c1]
    have rest : Ch (k, y.2 + 1) ((if q = hi_ k y.2 then [] else [(hi_ k y.2, y.2)]) ++ t) := by
      by_cases cq : q = hi_ k y.2
      · rw [if_pos cq]
        exact cont _ (by unfold Rq; rw [if_pos c1, if_pos cq])
      · rw [if_neg cq]
        refine ⟨?_, cont _ (by unfold Rq; rw [if_pos c1, if_neg cq])⟩
        unfold Stp; dsimp only; omega
    unfold Rq at hz
    rw [if_neg (by omega)] at hz
    by_cases c2 : x.1 = lo_ k y.2
    · rw [if_pos c2]
      rw [if_pos ⟨c1, by omega⟩] at hz
      have e : x.2 = y.2 + 1 := by unfold Stp at h; omega
      rw [e] at hz
      exact ⟨hz, rest⟩
    · rw [if_neg c2]
      rw [if_neg (by omega)] at hz
      refine ⟨?_, ?_, rest⟩
      · rcases hz with rfl | ⟨rfl, hx⟩
        · unfold Stp at *; dsimp only; omega
        · unfold Stp at *; dsimp only; omega
      · unfold Stp; dsimp only; omega
  · rw [if_neg c1]
    by_cases c2 : (y.1 = lo_ k y.2 ∧ x.1 = k) ∨ (y.1 = hi_ k y.2 ∧ q = k)
    · rw [if_pos c2]
      refine cont z ?_
      unfold Rq at hz ⊢
      rw [if_neg c1]
      rcases c2 with ⟨c3, c4⟩ | ⟨c3, c4⟩
      · rw [if_pos c4, if_pos (by omega)] at hz
        rw [if_neg (by omega)]
        refine .inr ⟨?_, c3⟩
        rw [hz, show x.2 + 1 = y.2 by unfold Stp at h; omega]
      · rw [if_pos ⟨c4, c3⟩]
        by_cases c5 : x.1 = k
        · rw [if_pos c5, if_neg (by omega)] at hz
          subst hz
          unfold Stp at *; dsimp only; omega
        · rw [if_neg c5, if_neg (by omega)] at hz
          rcases hz with rfl | ⟨rfl, hx⟩
          · unfold Stp at *; dsimp only; omega
          · exfalso; omega
    · rw [if_neg c2]
      refine ⟨?_, cont y ?_⟩
      · unfold Rq at hz
        by_cases c5 : x.1 = k
        · rw [if_pos c5, if_neg (by omega)] at hz
          subst hz
          unfold Stp at *; dsimp only; omega
        · rw [if_neg c5, if_neg (by omega)] at hz
          rcases hz with rfl | ⟨rfl, hx⟩
          · exact h
          · unfold Stp at *; dsimp only; omega
      · unfold Rq
        rw [if_neg c1, if_neg (by omega)]
        exact .inl rfl
theorem img_ch {k : Nat} (hk : 1 ≤ k) : ∀ (r : List Cr) (x y z : Cr), Stp x y → Ch y r → Rq k z x y.1 → Ch z (img k x.1 (y :: r))
  | [], x, y, z, h, _, hz => pc_ch hk h hz fun _ _ => trivial
  | y2 :: r, x, y, z, h, hc, hz => pc_ch hk h hz fun z' hz' => img_ch hk r y y2 z' hc.1 hc.2 hz'
/-- A path: the first crossing has label 1. -/
def Vd (P : List Cr) : Prop := ∃ a r, P = (a, 1) :: r ∧ Ch (a, 1) r
theorem img_vd {k : Nat} (hk : 1 ≤ k) {P : List Cr} (h : Vd P) : Vd (img k (k + 7) P) := by
  obtain ⟨a, r, rfl, hc⟩ := h
  have l1 : lo_ k 1 = k + 1 := by simp [lo_]
  have h1 : hi_ k 1 = k - 1 := by simp [hi_]
  match r, hc with
  | [], _ =>
    show Vd (pc k (k + 7) (a, 1) (k + 7) ++ [])
    unfold pc
    dsimp only
    rw [l1, h1]
    by_cases c : a = k
    · rw [if_pos c, if_neg (by omega), if_neg (by omega)]
      exact ⟨k + 1, _, rfl, by unfold Stp; dsimp only; omega, by unfold Stp; dsimp only; omega, trivial⟩
    · rw [if_neg c, if_neg (by omega)]
      exact ⟨a, _, rfl, trivial⟩
  | y :: r, hc =>
    have hne : a ≠ y.1 := by have := hc.1; unfold Stp at this; dsimp only at this; omega
    by_cases c : a = k
    · have key : ∀ z, Rq k z (a, 1) y.1 → Ch z (img k a (y :: r)) := fun z hz => img_ch hk r (a, 1) y z hc.1 hc.2 hz
      have e : img k (k + 7) ((a, 1) :: y :: r) = (k + 1, 1) :: (k, 2) :: ((if y.1 = k - 1 then [] else [(k - 1, 1)]) ++ img k a (y :: r)) := by
        show pc k (k + 7) (a, 1) y.1 ++ _ = _
        unfold pc
        dsimp only
        rw [l1, h1, if_pos c, if_neg (by omega)]
        rfl
      rw [e]
      refine ⟨k + 1, _, rfl, by unfold Stp; dsimp only; omega, ?_⟩
      by_cases cq : y.1 = k - 1
      · rw [if_pos cq]
        exact key _ (by unfold Rq; dsimp only; rw [if_pos c, h1, if_pos cq])
      · rw [if_neg cq]
        exact ⟨by unfold Stp; dsimp only; omega, key _ (by unfold Rq; dsimp only; rw [if_pos c, h1, if_neg cq])⟩
    · by_cases c2 : a = k - 1 ∧ y.1 = k
      · -- the first crossing cancels
        obtain ⟨c3, c4⟩ := c2
        have hs := hc.1
        have hy : y.2 = 0 := by unfold Stp at hs; dsimp only at hs; omega
        have l0 : lo_ k y.2 = k - 1 := by simp [lo_, hy]
        have h0 : hi_ k y.2 = k + 1 := by simp [hi_, hy]
        have e1 : pc k (k + 7) (a, 1) y.1 = [] := by
          unfold pc; dsimp only; rw [l1, h1, if_neg c, if_pos (.inr ⟨c3, c4⟩)]
        have e : ∀ q t, pc k a y q ++ t = (k, 1) :: ((if q = k + 1 then [] else [(k + 1, 0)]) ++ t) := fun q t => by
          unfold pc; rw [l0, h0, if_pos c4, if_pos c3, hy]; rfl
        show Vd (pc k (k + 7) (a, 1) y.1 ++ img k a (y :: r))
        rw [e1]
        show Vd (pc k a y (hd k r) ++ img k y.1 r)
        rw [e]
        refine ⟨k, _, rfl, ?_⟩
        match r, hc.2 with
        | [], _ =>
          rw [if_neg (by show ¬ k + 7 = k + 1; omega)]
          exact ⟨by unfold Stp; dsimp only; omega, trivial⟩
        | y2 :: r, hc2 =>
          have key : ∀ z, Rq k z y y2.1 → Ch z (img k y.1 (y2 :: r)) := fun z hz => img_ch hk r y y2 z hc2.1 hc2.2 hz
          by_cases cq : y2.1 = k + 1
          · rw [if_pos (show hd k (y2 :: r) = k + 1 from cq)]
            exact key _ (by unfold Rq; rw [if_pos c4, h0, if_pos cq, hy])
          · rw [if_neg (show ¬ hd k (y2 :: r) = k + 1 from cq)]
            exact ⟨by unfold Stp; dsimp only; omega, key _ (by unfold Rq; rw [if_pos c4, h0, if_neg cq, hy])⟩
      · have e1 : pc k (k + 7) (a, 1) y.1 = [(a, 1)] := by
          unfold pc; dsimp only; rw [l1, h1, if_neg c, if_neg (by omega)]
        show Vd (pc k (k + 7) (a, 1) y.1 ++ img k a (y :: r))
        rw [e1]
        exact ⟨a, _, rfl, img_ch hk r (a, 1) y (a, 1) hc.1 hc.2 (by unfold Rq; dsimp only; rw [if_neg c, h1, if_neg (by omega)]; exact .inl rfl)⟩
def sl (x : Cr) : Int := if x.2 % 2 = 0 then (x.1 : Int) + 1 else -((x.1 : Int) + 1)
theorem sg_one (x : Cr) : (sg x).1 = [sl x] := by
  unfold sg sl
  split
  · show [((x.1 + 1 : Nat) : Int)] = _
    rw [show ((x.1 + 1 : Nat) : Int) = (x.1 : Int) + 1 by omega]
  · show invW [((x.1 + 1 : Nat) : Int)] = _
    rw [show ((x.1 + 1 : Nat) : Int) = (x.1 : Int) + 1 by omega]; rfl
theorem ev_list : ∀ P : List Cr, (ev P).1 = gluW [] (P.map sl)
  | [] => rfl
  | x :: r => by
    show gluW (sg x).1 (ev r).1 = gluW [] (sl x :: r.map sl)
    rw [sg_one, ev_list r, ← glu_assoc (show redW [sl x] from fun i hi => by simp at hi)]
    rfl
theorem ch_red : ∀ (r : List Cr) (x : Cr), Ch x r → redW ((x :: r).map sl)
  | [], x, _ => fun i hi => by simp at hi
  | y :: r, x, h => fun i hi => by
    cases i with
    | zero =>
      show sl y ≠ - sl x
      have := h.1
      unfold Stp at this
      unfold sl
      split <;> split <;> omega
    | succ i =>
      have := ch_red r y h.2 i (by simpa using hi)
      exact this
theorem ch_det : ∀ (r s : List Cr) (x : Cr), Ch x r → Ch x s → r.map sl = s.map sl → r = s
  | [], [], _, _, _, _ => rfl
  | [], _ :: _, _, _, _, e => by simp at e
  | _ :: _, [], _, _, _, e => by simp at e
  | y :: r, z :: s, x, h1, h2, e => by
    simp only [List.map_cons, List.cons.injEq] at e
    have a := h1.1
    have b := h2.1
    have e1 := e.1
    have hyz : y = z := by
      unfold sl at e1
      unfold Stp at a b
      obtain ⟨y1, y2⟩ := y
      obtain ⟨z1, z2⟩ := z
      dsimp only at *
      have k1 : y1 = z1 := by split at e1 <;> split at e1 <;> omega
      subst k1
      have k2 : y2 = z2 := by omega
      rw [k2]
    subst hyz
    rw [ch_det r s y h1.2 h2.2 e.2]
theorem vd_det {P Q : List Cr} (hP : Vd P) (hQ : Vd Q) (e : ev P = ev Q) : P = Q := by
  obtain ⟨a, r, rfl, h1⟩ := hP
  obtain ⟨b, s, rfl, h2⟩ := hQ
  have e1 := congrArg Subtype.val e
  rw [ev_list, ev_list, (ch_red _ _ h1).self, (ch_red _ _ h2).self] at e1
  simp only [List.map_cons, List.cons.injEq] at e1
  have k : a = b := by have := e1.1; unfold sl at this; simp at this; omega
  subst k
  rw [ch_det r s _ h1 h2 e1.2]
end Go.Proofs.Ytomcgmialkdcbaa
namespace Go.Proofs.Ytomcgmialkdcbaa
open Go.RowKit
open Wd
/-- From x on to x + m the path crosses wherever the set A ends or begins. -/
def Wv (A : Nat → Bool) : Nat → Nat → List Cr → Prop
  | x, 0, r => r = [] ∨ ∃ e t, r = (e, 1) :: t ∧ x ≤ e
  | x, m + 1, r => if A x = A (x + 1) then Wv A (x + 1) m r else ∃ t, r = (x, if A x then 0 else 1) :: t ∧ Wv A (x + 1) m t
theorem Wv.hd_ {A : Nat → Bool} {k : Nat} : ∀ {m x : Nat} {r : List Cr}, Wv A x m r → r = [] ∨ ∃ y t, r = y :: t ∧ x ≤ y.1
  | 0, x, r, h => by
    rcases h with h | ⟨e, t, h, h2⟩
    · exact .inl h
    · exact .inr ⟨_, t, h, h2⟩
  | m + 1, x, r, h => by
    unfold Wv at h
    split at h
    · rcases Wv.hd_ (k := k) h with h | ⟨y, t, h, h2⟩
      · exact .inl h
      · exact .inr ⟨y, t, h, by omega⟩
    · obtain ⟨t, h, _⟩ := h
      exact .inr ⟨_, t, h, Nat.le_refl _⟩
theorem Wv.hdk {A : Nat → Bool} {m x : Nat} {r : List Cr} (h : Wv A x m r) (k : Nat) : hd k r = k + 7 ∨ x ≤ hd k r := by
  rcases Wv.hd_ (k := k) h with rfl | ⟨y, t, rfl, h2⟩
  · exact .inl rfl
  · exact .inr h2
theorem Wv.cong {A B : Nat → Bool} : ∀ {m x : Nat} {r : List Cr}, (∀ y, x ≤ y → y ≤ x + m → A y = B y) → Wv A x m r → Wv B x m r
  | 0, x, r, _, h => h
  | m + 1, x, r, e, h => by
    unfold Wv at h ⊢
    rw [← e x (Nat.le_refl _) (by omega), ← e (x + 1) (by omega) (by omega)]
    split
    · rename_i c
      rw [if_pos c] at h
      exact Wv.cong (fun y a b => e y (by omega) (by omega)) h
    · rename_i c
      rw [if_neg c] at h
      obtain ⟨t, h1, h2⟩ := h
      exact ⟨t, h1, Wv.cong (fun y a b => e y (by omega) (by omega)) h2⟩
theorem Wv.mem {A : Nat → Bool} {i : Nat} (ai : A i = true) (bi : A (i + 1) = false) : ∀ {m x : Nat} {r : List Cr}, x ≤ i → i + 1 ≤ x + m → Wv A x m r → (i, 0) ∈ r
  | 0, x, r, h1, h2, _ => by omega
  | m + 1, x, r, h1, h2, h => by
    unfold Wv at h
    by_cases e : x = i
    · subst e
      rw [if_neg (by rw [ai, bi]; simp), ai] at h
      obtain ⟨t, rfl, _⟩ := h
      exact List.mem_cons_self ..
    · split at h
      · exact Wv.mem ai bi (by omega) (by omega) h
      · obtain ⟨t, rfl, h⟩ := h
        exact List.mem_cons_of_mem _ (Wv.mem ai bi (by omega) (by omega) h)
theorem lo0 (k : Nat) : lo_ k 0 = k - 1 := rfl
theorem hi0 (k : Nat) : hi_ k 0 = k + 1 := rfl
theorem lo1 (k : Nat) : lo_ k 1 = k + 1 := rfl
theorem hi1 (k : Nat) : hi_ k 1 = k - 1 := rfl
theorem pc_far {k p q : Nat} {x : Cr} (h1 : x.1 ≠ k) (h2 : x.1 ≠ k + 1) (h3 : x.1 ≠ k - 1) : pc k p x q = [x] := by
  unfold pc
  rw [if_neg h1, if_neg]
  unfold lo_ hi_
  split <;> omega
theorem pc_zero {k p q a : Nat} (h1 : a ≠ k) (h2 : ¬ (a = k - 1 ∧ p = k)) (h3 : ¬ (a = k + 1 ∧ q = k)) : pc k p (a, 0) q = [(a, 0)] := by
  unfold pc
  dsimp only
  rw [lo0, hi0, if_neg h1, if_neg (by omega)]
theorem pc_one {k p q a : Nat} (h1 : a ≠ k) (h2 : ¬ (a = k + 1 ∧ p = k)) (h3 : ¬ (a = k - 1 ∧ q = k)) : pc k p (a, 1) q = [(a, 1)] := by
  unfold pc
  dsimp only
  rw [lo1, hi1, if_neg h1, if_neg (by omega)]
theorem img_cons (k p : Nat) (x : Cr) (r : List Cr) : img k p (x :: r) = pc k p x (hd k r) ++ img k x.1 r := rfl
/-- Far behind the letter nothing changes. -/
theorem Wv.far {A : Nat → Bool} {k : Nat} : ∀ {m x : Nat} {r : List Cr} (p : Nat), k + 2 ≤ x → Wv A x m r → Wv A x m (img k p r)
  | 0, x, r, p, hx, h => by
    rcases h with rfl | ⟨e, t, rfl, h2⟩
    · exact .inl rfl
    · refine .inr ⟨e, img k e t, ?_, h2⟩
      rw [img_cons, pc_far (by dsimp only; omega) (by dsimp only; omega) (by dsimp only; omega)]; rfl
  | m + 1, x, r, p, hx, h => by
    unfold Wv at h ⊢
    split
    · rename_i c
      rw [if_pos c] at h
      exact Wv.far p (by omega) h
    · rename_i c
      rw [if_neg c] at h
      obtain ⟨t, rfl, h⟩ := h
      refine ⟨img k x t, ?_, Wv.far x (by omega) h⟩
      rw [img_cons, pc_far (by dsimp only; omega) (by dsimp only; omega) (by dsimp only; omega)]; rfl
theorem Wv.near {A : Nat → Bool} {k : Nat} : ∀ {m x : Nat} {r : List Cr} (p : Nat), k + 1 ≤ x → p ≠ k → Wv A x m r → Wv A x m (img k p r)
  | 0, x, r, p, hx, hp, h => by
    rcases h with rfl | ⟨e, t, rfl, h2⟩
    · exact .inl rfl
    · refine .inr ⟨e, img k e t, ?_, h2⟩
      rw [img_cons, pc_one (by omega) (by omega) (by omega)]; rfl
  | m + 1, x, r, p, hx, hp, h => by
    unfold Wv at h ⊢
    split
    · rename_i c
      rw [if_pos c] at h
      exact Wv.near p (by omega) hp h
    · rename_i c
      rw [if_neg c] at h
      obtain ⟨t, rfl, h⟩ := h
      have hh := h.hdk k
      refine ⟨img k x t, ?_, Wv.near x (by omega) (by omega) h⟩
      rw [img_cons]
      cases A x
      · show pc k p (x, 1) _ ++ _ = _
        rw [pc_one (by omega) (by omega) (by omega)]; rfl
      · show pc k p (x, 0) _ ++ _ = _
        rw [pc_zero (by omega) (by omega) (by omega)]; rfl
theorem Wv.near1 {A : Nat → Bool} {k m : Nat} {r : List Cr} (p : Nat) (ha : A (k + 1) = true) (h : Wv A (k + 1) (m + 1) r) : Wv A (k + 1) (m + 1) (img k p r) := by
  unfold Wv at h ⊢
  split
  · rename_i c
    rw [if_pos c] at h
    exact Wv.far p (by omega) h
  · rename_i c
    rw [if_neg c, ha] at h
    obtain ⟨t, rfl, h⟩ := h
    have hh := h.hdk k
    refine ⟨img k (k + 1) t, ?_, Wv.far _ (by omega) h⟩
    rw [img_cons]
    show pc k p (k + 1, 0) _ ++ _ = _
    rw [pc_zero (by omega) (by omega) (by omega)]; rfl
/-- The letter lies within a run. -/
theorem Wv.within_ {A : Nat → Bool} {k : Nat} (ha : A k = A (k + 1)) : ∀ {m x : Nat} {r : List Cr} (p : Nat), x ≤ k → k + 1 ≤ x + m → p ≠ k → Wv A x m r → Wv A x m (img k p r)
  | 0, x, r, p, h1, h2, _, _ => by omega
  | m + 1, x, r, p, h1, h2, hp, h => by
    unfold Wv at h ⊢
    by_cases e : x = k
    · subst e
      rw [if_pos ha] at h ⊢
      exact Wv.near p (by omega) hp h
    · split
      · rename_i c
        rw [if_pos c] at h
        exact Wv.within_ ha p (by omega) (by omega) hp h
      · rename_i c
        rw [if_neg c] at h
        obtain ⟨t, rfl, h⟩ := h
        refine ⟨img k x t, ?_, Wv.within_ ha x (by omega) (by omega) (by omega) h⟩
        rw [img_cons]
        by_cases e2 : x = k - 1
        · have hh : hd k t = k + 7 ∨ k + 1 ≤ hd k t := by
            obtain ⟨m2, rfl⟩ : ∃ m2, m = m2 + 1 := ⟨m - 1, by omega⟩
            have e3 : x + 1 = k := by omega
            rw [e3] at h
            unfold Wv at h
            rw [if_pos ha] at h
            exact h.hdk k
          cases A x
          · show pc k p (x, 1) _ ++ _ = _
            rw [pc_one (by omega) (by omega) (by omega)]; rfl
          · show pc k p (x, 0) _ ++ _ = _
            rw [pc_zero (by omega) (by omega) (by omega)]; rfl
        · rw [pc_far (by dsimp only; omega) (by dsimp only; omega) (by dsimp only; omega)]; rfl
/-- The letter lies behind the piece. -/
def Ctl (r : List Cr) : Prop := ∀ y t, r = y :: t → Ch y t
theorem Ctl.tail {y : Cr} {t : List Cr} (h : Ctl (y :: t)) : Ctl t := fun z s e => by
  have := h y t rfl
  rw [e] at this
  exact this.2
theorem Wv.behind {A : Nat → Bool} {k : Nat} (hk : 1 ≤ k) : ∀ {m x : Nat} {r : List Cr} (p : Nat), x + m < k → p < k → Ctl r → Wv A x m r → Wv A x m (img k p r)
  | 0, x, r, p, hx, hp, hc, h => by
    rcases h with rfl | ⟨e, t, rfl, h2⟩
    · exact .inl rfl
    · by_cases e1 : e = k
      · subst e1
        refine .inr ⟨e + 1, ((e, 2) :: (if hd e t = e - 1 then [] else [(e - 1, 1)])) ++ img e e t, ?_, by omega⟩
        rw [img_cons]
        unfold pc
        dsimp only
        rw [lo1, hi1, if_pos rfl, if_neg (by omega)]
        rfl
      · by_cases e2 : e = k - 1 ∧ hd k t = k
        · obtain ⟨e3, e4⟩ := e2
          match t, e4, hc _ _ rfl with
          | [], e4, _ => exact absurd e4 (by show ¬ k + 7 = k; omega)
          | (a, l) :: t, e4, hs =>
            have e4 : a = k := e4
            subst e4
            have hs := hs.1
            have l0 : l = 0 := by unfold Stp at hs; dsimp only at hs; omega
            subst l0
            refine .inr ⟨a, (if hd a t = a + 1 then [] else [(a + 1, 0)]) ++ img a a t, ?_, by omega⟩
            rw [img_cons, img_cons]
            have f1 : pc a p (e, 1) (hd a ((a, 0) :: t)) = [] := by
              unfold pc
              dsimp only
              rw [lo1, hi1, if_neg e1, if_pos (.inr ⟨e3, rfl⟩)]
            have f2 : pc a e (a, 0) (hd a t) = (a, 1) :: (if hd a t = a + 1 then [] else [(a + 1, 0)]) := by
              unfold pc
              dsimp only
              rw [lo0, hi0, if_pos rfl, if_pos e3]; rfl
            rw [f1]
            show pc a e (a, 0) (hd a t) ++ img a a t = _
            rw [f2]; rfl
        · refine .inr ⟨e, img k e t, ?_, h2⟩
          rw [img_cons, pc_one e1 (by omega) e2]; rfl
  | m + 1, x, r, p, hx, hp, hc, h => by
    unfold Wv at h ⊢
    split
    · rename_i c
      rw [if_pos c] at h
      exact Wv.behind hk p (by omega) hp hc h
    · rename_i c
      rw [if_neg c] at h
      obtain ⟨t, rfl, h⟩ := h
      refine ⟨img k x t, ?_, Wv.behind hk x (by omega) (by omega) hc.tail h⟩
      rw [img_cons, pc_far (by dsimp only; omega) (by dsimp only; omega) (by dsimp only; omega)]; rfl
/-- The piece ends at the letter. -/
theorem Wv.atend {A : Nat → Bool} {k : Nat} (hk : 1 ≤ k) (ha : A k = false) (hb : A (k + 1) = false) : ∀ {m x : Nat} {r : List Cr} (p : Nat), x + m = k → p < k → Wv A x m r → Wv A x (m + 1) (img k p r)
  | 0, x, r, p, hx, hp, h => by
    obtain rfl : x = k := hx
    unfold Wv
    rw [if_pos (by rw [ha, hb])]
    rcases h with rfl | ⟨e, t, rfl, h2⟩
    · exact .inl rfl
    · by_cases e1 : e = x
      · subst e1
        refine .inr ⟨e + 1, ((e, 2) :: (if hd e t = e - 1 then [] else [(e - 1, 1)])) ++ img e e t, ?_, by omega⟩
        rw [img_cons]
        unfold pc
        dsimp only
        rw [lo1, hi1, if_pos rfl, if_neg (by omega)]
        rfl
      · refine .inr ⟨e, img x e t, ?_, by omega⟩
        rw [img_cons, pc_one e1 (by omega) (by omega)]; rfl
  | m + 1, x, r, p, hx, hp, h => by
    unfold Wv at h
    have goal : Wv A x (m + 1 + 1) (img k p r) = if A x = A (x + 1) then Wv A (x + 1) (m + 1) (img k p r) else ∃ t, img k p r = (x, if A x then 0 else 1) :: t ∧ Wv A (x + 1) (m + 1) t := rfl
    rw [goal]
    split
    · rename_i c
      rw [if_pos c] at h
      exact Wv.atend hk ha hb p (by omega) hp h
    · rename_i c
      rw [if_neg c] at h
      obtain ⟨t, rfl, h⟩ := h
      refine ⟨img k x t, ?_, Wv.atend hk ha hb x (by omega) (by omega) h⟩
      rw [img_cons]
      by_cases e2 : x = k - 1
      · have e3 : x + 1 = k := by omega
        rw [e3, ha] at c
        have ax : A x = true := by cases hA : A x; exact absurd hA c; rfl
        rw [ax]
        show pc k p (x, 0) _ ++ _ = _
        rw [pc_zero (by omega) (by omega) (by omega)]; rfl
      · rw [pc_far (by dsimp only; omega) (by dsimp only; omega) (by dsimp only; omega)]; rfl
/-- k and k + 1 change places. -/
def swA (A : Nat → Bool) (k : Nat) : Nat → Bool := fun y => if y = k then A (k + 1) else if y = k + 1 then A k else A y
theorem swA_k (A : Nat → Bool) (k : Nat) : swA A k k = A (k + 1) := if_pos rfl
theorem swA_s (A : Nat → Bool) (k : Nat) : swA A k (k + 1) = A k := by unfold swA; rw [if_neg (by omega), if_pos rfl]
theorem swA_o {A : Nat → Bool} {k y : Nat} (h1 : y ≠ k) (h2 : y ≠ k + 1) : swA A k y = A y := by unfold swA; rw [if_neg h1, if_neg h2]
/-- What comes behind the crossing at the letter. -/
def tlE (k : Nat) (r : List Cr) : List Cr := (if hd k r = k + 1 then [] else [(k + 1, 0)]) ++ img k k r
theorem pc_kp {k p q : Nat} : pc k p (k, 0) q = (if p = k - 1 then [] else [(k - 1, 0)]) ++ (k, 1) :: (if q = k + 1 then [] else [(k + 1, 0)]) := by
  unfold pc; dsimp only; rw [lo0, hi0, if_pos rfl]
theorem img_k {k : Nat} (p : Nat) (t : List Cr) : img k p ((k, 0) :: t) = (if p = k - 1 then [] else [(k - 1, 0)]) ++ (k, 1) :: tlE k t := by
  rw [img_cons, pc_kp]
  unfold tlE
  simp
section
variable {A : Nat → Bool} {k : Nat} (ha : A k = true) (hb : A (k + 1) = false)
include ha hb
theorem Wv.cut {m : Nat} {r : List Cr} (h : Wv A k (m + 1) r) : ∃ t, r = (k, 0) :: t ∧ Wv A (k + 1) m t := by
  unfold Wv at h
  rw [if_neg (by rw [ha, hb]; simp), ha] at h
  exact h
theorem Wv.tl {m : Nat} {t : List Cr} (h : Wv A (k + 1) (m + 1) t) : Wv (swA A k) (k + 1) (m + 1) (tlE k t) := by
  unfold Wv at h ⊢
  have e2 : swA A k (k + 1 + 1) = A (k + 1 + 1) := swA_o (by omega) (by omega)
  have cg : ∀ {s : List Cr}, Wv A (k + 1 + 1) m s → Wv (swA A k) (k + 1 + 1) m s := fun h => h.cong fun y a b => (swA_o (by omega) (by omega)).symm
  rw [swA_s, ha, e2]
  rw [hb] at h
  cases c : A (k + 1 + 1) with
  | true =>
    rw [c, if_neg (by simp)] at h
    rw [if_pos rfl]
    obtain ⟨s, rfl, h⟩ := h
    show Wv (swA A k) (k + 1 + 1) m ((if hd k ((k + 1, 1) :: s) = k + 1 then [] else [(k + 1, 0)]) ++ img k k ((k + 1, 1) :: s))
    rw [if_pos (show hd k ((k + 1, 1) :: s) = k + 1 from rfl), img_cons]
    have f : pc k k (k + 1, 1) (hd k s) = [] := by
      unfold pc; dsimp only; rw [lo1, if_neg (by omega), if_pos (.inl ⟨rfl, rfl⟩)]
    show Wv (swA A k) (k + 1 + 1) m ([] ++ (pc k k (k + 1, 1) (hd k s) ++ img k (k + 1) s))
    rw [f]
    exact cg (h.far _ (by omega))
  | false =>
    rw [c, if_pos rfl] at h
    rw [if_neg (by simp)]
    have hh := h.hdk k
    refine ⟨img k k t, ?_, cg (h.far _ (by omega))⟩
    unfold tlE
    rw [if_neg (by omega)]; rfl
theorem Wv.tail_ {m : Nat} {t : List Cr} (h : Wv A (k + 1) m t) : Wv (swA A k) k (if m = 0 then 0 else m + 1) ((k, 1) :: tlE k t) := by
  cases m with
  | zero => exact .inr ⟨k, _, rfl, Nat.le_refl _⟩
  | succ m =>
    rw [if_neg (by omega)]
    have g : Wv (swA A k) k (m + 1 + 1) ((k, 1) :: tlE k t) = if swA A k k = swA A k (k + 1) then Wv (swA A k) (k + 1) (m + 1) ((k, 1) :: tlE k t) else ∃ s, (k, 1) :: tlE k t = (k, if swA A k k then 0 else 1) :: s ∧ Wv (swA A k) (k + 1) (m + 1) s := rfl
    rw [g, swA_k, swA_s, ha, hb, if_neg (by simp)]
    exact ⟨_, rfl, Wv.tl ha hb h⟩
/-- The letter lies at a crossing of the piece. -/
theorem Wv.swap (hk : 1 ≤ k) : ∀ {a m : Nat} {r : List Cr} (p : Nat), a + 1 ≤ k → p < k - 1 - a → Wv A (k - 1 - a) (a + 1 + (m + 1)) r → Wv (swA A k) (k - 1 - a) (a + 1 + (if m = 0 then 0 else m + 1)) (img k p r)
  | 0, m, r, p, h1, hp, h => by
    have e : k - 1 - 0 + 1 = k := by omega
    rw [show (0 + 1 + (m + 1)) = (m + 1) + 1 by omega] at h
    rw [show ∀ z, 0 + 1 + z = z + 1 from fun z => by omega]
    unfold Wv at h ⊢
    rw [e] at h ⊢
    have e1 : swA A k (k - 1 - 0) = A (k - 1 - 0) := swA_o (by omega) (by omega)
    rw [e1, swA_k, hb]
    rw [ha] at h
    cases c : A (k - 1 - 0) with
    | true =>
      rw [c, if_pos rfl] at h
      rw [if_neg (by simp)]
      obtain ⟨t, e5, h5⟩ := Wv.cut ha hb h
      subst e5
      rw [img_k, if_neg (show ¬ p = k - 1 by omega)]
      exact ⟨_, rfl, Wv.tail_ ha hb h5⟩
    | false =>
      rw [c, if_neg (by simp)] at h
      rw [if_pos rfl]
      obtain ⟨s, rfl, h⟩ := h
      obtain ⟨t, e5, h5⟩ := Wv.cut ha hb h
      subst e5
      rw [img_cons]
      have f : pc k p (k - 1 - 0, 1) (hd k ((k, 0) :: t)) = [] := by
        unfold pc; dsimp only; rw [lo1, hi1, if_neg (by omega), if_pos (.inr ⟨rfl, rfl⟩)]
      show Wv (swA A k) k _ (pc k p (k - 1 - 0, 1) (hd k ((k, 0) :: t)) ++ img k (k - 1 - 0) ((k, 0) :: t))
      rw [f, img_k, if_pos (show k - 1 - 0 = k - 1 by omega)]
      exact Wv.tail_ ha hb h5
  | a + 1, m, r, p, h1, hp, h => by
    have e : k - 1 - (a + 1) + 1 = k - 1 - a := by omega
    rw [show (a + 1 + 1 + (m + 1)) = (a + 1 + (m + 1)) + 1 by omega] at h
    rw [show ∀ z, a + 1 + 1 + z = (a + 1 + z) + 1 from fun z => by omega]
    unfold Wv at h ⊢
    rw [e] at h ⊢
    have e1 : swA A k (k - 1 - (a + 1)) = A (k - 1 - (a + 1)) := swA_o (by omega) (by omega)
    have e2 : swA A k (k - 1 - a) = A (k - 1 - a) := swA_o (by omega) (by omega)
    rw [e1, e2]
    split
    · rename_i c
      rw [if_pos c] at h
      exact Wv.swap hk p (by omega) (by omega) h
    · rename_i c
      rw [if_neg c] at h
      obtain ⟨t, rfl, h⟩ := h
      refine ⟨img k (k - 1 - (a + 1)) t, ?_, Wv.swap hk _ (by omega) (by omega) h⟩
      rw [img_cons, pc_far (by dsimp only; omega) (by dsimp only; omega) (by dsimp only; omega)]; rfl
end
end Go.Proofs.Ytomcgmialkdcbaa
namespace Go.Proofs.Ytomcgmialkdcbaa
open Go.RowKit
open Wd
theorem img_pre (k : Nat) : ∀ (pre : List Cr) (p : Nat) (y : Cr) (r : List Cr), ∃ pre' p0, img k p (pre ++ y :: r) = pre' ++ img k p0 (y :: r)
  | [], p, y, r => ⟨[], p, rfl⟩
  | x :: pre, p, y, r => by
    obtain ⟨pre', p0, h⟩ := img_pre k pre x.1 y r
    refine ⟨pc k p x (hd k (pre ++ y :: r)) ++ pre', p0, ?_⟩
    show pc k p x (hd k (pre ++ y :: r)) ++ img k x.1 (pre ++ y :: r) = _
    rw [h, List.append_assoc]
theorem ch_mid : ∀ (ys : List Cr) (z y : Cr) (t : List Cr), Ch z (ys ++ y :: t) → Ch y t
  | [], z, y, t, h => h.2
  | x :: ys, z, y, t, h => ch_mid ys x y t h.2
theorem vd_mid {ys t : List Cr} {y : Cr} (h : Vd (ys ++ y :: t)) : Ch y t := by
  obtain ⟨a, r, e, hc⟩ := h
  cases ys with
  | nil => injection e with e1 e2; rw [e1, e2]; exact hc
  | cons x ys => injection e with e1 e2; rw [← e2] at hc; exact ch_mid ys _ y t hc
theorem img_left {k : Nat} (hk : 1 ≤ k) {pre r : List Cr} {e : Nat} (hv : Vd (pre ++ (e, 1) :: r)) (h1 : hd k r ≠ k - 1 ∨ e ≠ k) (h2 : ¬ (e = k - 1 ∧ hd k r = k)) : ∃ pre' e', img k (k + 7) (pre ++ (e, 1) :: r) = pre' ++ (e', 1) :: img k e r ∧ e' ≤ e ∧ (e = k → e' + 1 = k) := by
  have core : ∀ p, ¬ (e = k + 1 ∧ p = k) → ∃ a e', pc k p (e, 1) (hd k r) = a ++ [(e', 1)] ∧ e' ≤ e ∧ (e = k → e' + 1 = k) := fun p hp => by
    by_cases c : e = k
    · subst c
      refine ⟨(if p = e + 1 then [] else [(e + 1, 1)]) ++ [(e, 2)], e - 1, ?_, by omega, fun _ => by omega⟩
      unfold pc
      dsimp only
      rw [lo1, hi1, if_pos rfl, if_neg (show ¬ hd e r = e - 1 by omega)]
      simp
    · exact ⟨[], e, by rw [pc_one c (by omega) h2]; rfl, Nat.le_refl _, fun h => absurd h c⟩
  rcases snoc_cases pre with rfl | ⟨ys, y, rfl⟩
  · obtain ⟨a, e', h, h3, h4⟩ := core (k + 7) (by omega)
    refine ⟨a, e', ?_, h3, h4⟩
    show pc k (k + 7) (e, 1) (hd k r) ++ img k e r = _
    rw [h, List.append_assoc]; rfl
  · have ea : ys ++ [y] ++ (e, 1) :: r = ys ++ y :: (e, 1) :: r := by simp
    rw [ea] at hv ⊢
    have hs := (vd_mid hv).1
    obtain ⟨pre', p0, hi⟩ := img_pre k ys (k + 7) y ((e, 1) :: r)
    have hi2 : img k p0 (y :: (e, 1) :: r) = pc k p0 y e ++ (pc k y.1 (e, 1) (hd k r) ++ img k e r) := rfl
    rw [hi, hi2]
    by_cases c : e = k + 1 ∧ y.1 = k
    · obtain ⟨c1, c2⟩ := c
      obtain ⟨b, l⟩ := y
      dsimp only at c2
      subst c2
      have l0 : l = 0 := by unfold Stp at hs; dsimp only at hs; omega
      subst l0
      have f1 : pc b p0 (b, 0) e = (if p0 = b - 1 then [] else [(b - 1, 0)]) ++ [(b, 1)] := by rw [pc_kp, if_pos c1]
      have f2 : pc b b (e, 1) (hd b r) = [] := by
        unfold pc; dsimp only; rw [lo1, if_neg (by omega), if_pos (.inl ⟨c1, rfl⟩)]
      refine ⟨pre' ++ (if p0 = b - 1 then [] else [(b - 1, 0)]), b, ?_, by omega, fun h => by omega⟩
      show pre' ++ (pc b p0 (b, 0) e ++ (pc b b (e, 1) (hd b r) ++ img b e r)) = _
      rw [f1, f2]
      simp
    · obtain ⟨a, e', h, h3, h4⟩ := core y.1 c
      refine ⟨pre' ++ pc k p0 y e ++ a, e', ?_, h3, h4⟩
      rw [h]
      simp
/-- A piece of a path from c to d that weaves through A. -/
def Seg (A : Nat → Bool) (c d : Nat) (P : List Cr) : Prop := ∃ pre e r, P = pre ++ (e, 1) :: r ∧ e ≤ c ∧ c < d ∧ A (c + 1) = true ∧ A d = false ∧ Wv A (c + 1) (d - c - 1) r
def tw (k u : Nat) : Nat := if u = k then k + 1 else if u = k + 1 then k else u
theorem tw_o {k u : Nat} (h1 : u ≠ k) (h2 : u ≠ k + 1) : tw k u = u := by unfold tw; rw [if_neg h1, if_neg h2]
theorem tw_k (k : Nat) : tw k k = k + 1 := if_pos rfl
theorem tw_s (k : Nat) : tw k (k + 1) = k := by unfold tw; rw [if_neg (by omega), if_pos rfl]
theorem tw_le {k u : Nat} : tw k u ≤ u + 1 ∧ u ≤ tw k u + 1 := by unfold tw; split; omega; split <;> omega
theorem Seg.mem {A : Nat → Bool} {c d i : Nat} {P : List Cr} (h : Seg A c d P) (h1 : c < i) (h2 : i + 1 ≤ d) (ai : A i = true) (bi : A (i + 1) = false) : (i, 0) ∈ P := by
  obtain ⟨pre, e, r, rfl, _, _, _, _, hw⟩ := h
  exact List.mem_append_right _ (List.mem_cons_of_mem _ (hw.mem ai bi (by omega) (by omega)))
theorem Seg.step {A : Nat → Bool} {k c d U V : Nat} {P : List Cr} (hk : 1 ≤ k) (hv : Vd P) (h : Seg A c d P) (hU : c < U) (hUV : U < V) (hV : V ≤ d) (aU : A U = true) (aV : A V = false) (hex : ¬ (A k = false ∧ A (k + 1) = true)) (hne : ¬ (U = k ∧ V = k + 1)) : ∃ c' d', Seg (swA A k) c' d' (img k (k + 7) P) ∧ c' < tw k U ∧ tw k V ≤ d' := by
  obtain ⟨pre, e, r, rfl, he, hcd, a1, a2, hw⟩ := h
  have hh := hw.hdk k
  have hct : Ctl r := fun y t er => by
    have := vd_mid hv
    rw [er] at this
    exact this.2
  have tU := tw_le (k := k) (u := U)
  have tV := tw_le (k := k) (u := V)
  by_cases c1 : k + 1 ≤ c
  · -- on the left of the piece
    obtain ⟨pre', e', hi, h3, _⟩ := img_left hk hv (by omega) (by omega)
    refine ⟨c, d, ⟨pre', e', img k e r, hi, by omega, hcd, by rw [swA_o (by omega) (by omega)]; exact a1, by rw [swA_o (by omega) (by omega)]; exact a2, (hw.far e (by omega)).cong fun y y1 y2 => (swA_o (by omega) (by omega)).symm⟩, by rw [tw_o (by omega) (by omega)]; exact hU, by rw [tw_o (by omega) (by omega)]; exact hV⟩
  by_cases c2 : k = c
  · -- just on its left
    subst c2
    have ak : A k = true := by cases hA : A k; exact absurd ⟨hA, a1⟩ hex; rfl
    have hd2 : k + 2 ≤ d := by
      rcases Nat.lt_or_ge d (k + 2) with h | h
      · have : d = k + 1 := by omega
        rw [this, a1] at a2; cases a2
      · exact h
    obtain ⟨pre', e', hi, h3, h4⟩ := img_left hk hv (by omega) (by omega)
    refine ⟨k - 1, d, ⟨pre', e', img k e r, hi, by omega, by omega, ?_, by rw [swA_o (by omega) (by omega)]; exact a2, ?_⟩, by omega, by rw [tw_o (by omega) (by omega)]; exact hV⟩
    · rw [show k - 1 + 1 = k by omega, swA_k]; exact a1
    · rw [show k - 1 + 1 = k by omega, show d - (k - 1) - 1 = (d - k - 2 + 1) + 1 by omega]
      have g : ∀ s, Wv (swA A k) k ((d - k - 2 + 1) + 1) s = if swA A k k = swA A k (k + 1) then Wv (swA A k) (k + 1) (d - k - 2 + 1) s else ∃ t, s = (k, if swA A k k then 0 else 1) :: t ∧ Wv (swA A k) (k + 1) (d - k - 2 + 1) t := fun s => rfl
      rw [g, swA_k, swA_s, a1, ak, if_pos rfl]
      rw [show d - k - 1 = d - k - 2 + 1 by omega] at hw
      refine (hw.near1 e a1).cong fun y y1 y2 => ?_
      by_cases e5 : y = k + 1
      · rw [e5, swA_s, a1, ak]
      · exact (swA_o (by omega) e5).symm
  by_cases c3 : k + 1 ≤ d
  · by_cases c4 : A k = A (k + 1)
    · -- within a run
      have sw : ∀ y, swA A k y = A y := fun y => by
        unfold swA
        split
        · rename_i e5; rw [e5, c4]
        · split
          · rename_i e5; rw [e5, c4]
          · rfl
      obtain ⟨m, hm⟩ : ∃ m, d - c - 1 = m := ⟨_, rfl⟩
      have hkn : hd k r ≠ k := by
        have := hw.within_ c4 (k + 7) (by omega) (by omega) (by omega)
        intro h
        -- the first crossing is not at k
        have go : ∀ {m x : Nat} {r : List Cr}, x ≤ k → k + 1 ≤ x + m → Wv A x m r → hd k r ≠ k := by
          intro m
          induction m with
          | zero => intro x r h1 h2 _; omega
          | succ m ih =>
            intro x r h1 h2 hw
            unfold Wv at hw
            by_cases e5 : x = k
            · subst e5
              rw [if_pos c4] at hw
              have := hw.hdk x
              omega
            · split at hw
              · exact ih (by omega) (by omega) hw
              · obtain ⟨t, rfl, _⟩ := hw
                exact e5
        exact go (by omega) (by omega) hw h
      obtain ⟨pre', e', hi, h3, _⟩ := img_left hk hv (by omega) (fun h => hkn h.2)
      refine ⟨c, d, ⟨pre', e', img k e r, hi, by omega, hcd, by rw [sw]; exact a1, by rw [sw]; exact a2, (hw.within_ c4 e (by omega) (by omega) (by omega)).cong fun y _ _ => (sw y).symm⟩, ?_, ?_⟩
      · by_cases e5 : U = k
        · rw [e5, tw_k]; omega
        · by_cases e6 : U = k + 1
          · rw [e6, tw_s]; omega
          · rw [tw_o e5 e6]; exact hU
      · by_cases e5 : V = k
        · rw [e5, tw_k]; omega
        · by_cases e6 : V = k + 1
          · rw [e6, tw_s]; omega
          · rw [tw_o e5 e6]; exact hV
    · -- at a crossing
      have ak : A k = true := by
        cases hA : A k
        · cases hB : A (k + 1)
          · exact absurd (hA.trans hB.symm) c4
          · exact absurd ⟨hA, hB⟩ hex
        · rfl
      have bk : A (k + 1) = false := by cases hB : A (k + 1); rfl; exact absurd (ak.trans hB.symm) c4
      have u1 : U ≠ k + 1 := fun h => by rw [h, bk] at aU; cases aU
      have v1 : V ≠ k := fun h => by rw [h, ak] at aV; cases aV
      by_cases c5 : c + 1 = k
      · have hd2 : k + 2 ≤ d := by
          rcases Nat.lt_or_ge d (k + 2) with h | h
          · exact absurd ⟨by omega, by omega⟩ hne
          · exact h
        rw [c5, show d - c - 1 = d - k - 1 + 1 by omega] at hw
        obtain ⟨t, rfl, hw2⟩ := Wv.cut ak bk hw
        have ea : pre ++ (e, 1) :: (k, 0) :: t = (pre ++ [(e, 1)]) ++ (k, 0) :: t := by simp
        obtain ⟨pre', p0, hi⟩ := img_pre k (pre ++ [(e, 1)]) (k + 7) (k, 0) t
        refine ⟨k, d, ⟨pre' ++ (if p0 = k - 1 then [] else [(k - 1, 0)]), k, tlE k t, ?_, Nat.le_refl _, by omega, by rw [swA_s]; exact ak, by rw [swA_o (by omega) (by omega)]; exact a2, ?_⟩, ?_, ?_⟩
        · rw [ea, hi, img_k, List.append_assoc]
        · rw [show d - k - 1 = d - k - 2 + 1 by omega] at hw2 ⊢
          exact Wv.tl ak bk hw2
        · by_cases e5 : U = k
          · rw [e5, tw_k]; omega
          · rw [tw_o e5 u1]; omega
        · by_cases e6 : V = k + 1
          · rw [e6, tw_s]; omega
          · rw [tw_o v1 e6]; exact hV
      · obtain ⟨pre', e', hi, h3, _⟩ := img_left hk hv (by omega) (by omega)
        obtain ⟨a, hae⟩ : ∃ a, k - 1 - a = c + 1 ∧ a + 1 ≤ k := ⟨k - 2 - c, by omega, by omega⟩
        have hs := Wv.swap ak bk hk (a := a) (m := d - k - 1) (r := r) e hae.2 (by omega) (by rw [hae.1, show a + 1 + (d - k - 1 + 1) = d - c - 1 by omega]; exact hw)
        rw [hae.1] at hs
        by_cases c6 : d - k - 1 = 0
        · rw [if_pos c6] at hs
          refine ⟨c, k, ⟨pre', e', img k e r, hi, by omega, by omega, by rw [swA_o (by omega) (by omega)]; exact a1, by rw [swA_k]; exact bk, by rw [show k - c - 1 = a + 1 + 0 by omega]; exact hs⟩, ?_, ?_⟩
          · by_cases e5 : U = k
            · rw [e5, tw_k]; omega
            · rw [tw_o e5 u1]; exact hU
          · by_cases e6 : V = k + 1
            · rw [e6, tw_s]; omega
            · rw [tw_o v1 e6]; omega
        · rw [if_neg c6] at hs
          refine ⟨c, d, ⟨pre', e', img k e r, hi, by omega, by omega, by rw [swA_o (by omega) (by omega)]; exact a1, by rw [swA_o (by omega) (by omega)]; exact a2, by rw [show d - c - 1 = a + 1 + (d - k - 1 + 1) by omega]; exact hs⟩, ?_, ?_⟩
          · by_cases e5 : U = k
            · rw [e5, tw_k]; omega
            · rw [tw_o e5 u1]; exact hU
          · by_cases e6 : V = k + 1
            · rw [e6, tw_s]; omega
            · rw [tw_o v1 e6]; exact hV
  by_cases c6 : k = d
  · -- just on the right
    subst c6
    have bk : A (k + 1) = false := by cases hB : A (k + 1); rfl; exact absurd ⟨a2, hB⟩ hex
    have hck : c + 1 < k := by
      rcases Nat.lt_or_ge (c + 1) k with h | h
      · exact h
      · have : c + 1 = k := by omega
        rw [this, a2] at a1; cases a1
    obtain ⟨pre', e', hi, h3, _⟩ := img_left hk hv (by omega) (by omega)
    refine ⟨c, k + 1, ⟨pre', e', img k e r, hi, by omega, by omega, by rw [swA_o (by omega) (by omega)]; exact a1, by rw [swA_s]; exact a2, ?_⟩, by rw [tw_o (by omega) (by omega)]; exact hU, by omega⟩
    rw [show k + 1 - c - 1 = (k - c - 1) + 1 by omega]
    refine (Wv.atend hk a2 bk e (by omega) (by omega) hw).cong fun y y1 y2 => ?_
    by_cases e5 : y = k
    · rw [e5, swA_k, a2, bk]
    · by_cases e6 : y = k + 1
      · rw [e6, swA_s, a2, bk]
      · exact (swA_o e5 e6).symm
  · -- on the right
    obtain ⟨pre', e', hi, h3, _⟩ := img_left hk hv (by omega) (by omega)
    refine ⟨c, d, ⟨pre', e', img k e r, hi, by omega, hcd, by rw [swA_o (by omega) (by omega)]; exact a1, by rw [swA_o (by omega) (by omega)]; exact a2, (Wv.behind hk e (by omega) (by omega) hct hw).cong fun y y1 y2 => (swA_o (by omega) (by omega)).symm⟩, by rw [tw_o (by omega) (by omega)]; exact hU, by rw [tw_o (by omega) (by omega)]; exact hV⟩
end Go.Proofs.Ytomcgmialkdcbaa
namespace Go.Proofs.Ytomcgmialkdcbaa
open Go.RowKit
open Wd
section
variable {n : Nat}
/-- The paths that a list of permutations makes of y_1 .. y_(n-1). -/
def Ptf (n : Nat) (L : List (List Int)) (G : Nat → List Cr) : Prop := ∀ j, 1 ≤ j → j < n → Vd (G j) ∧ ev (G j) = inv (yl 0) * (inv (pre (acL n L ux) j) * yl 0)
theorem pre_ux : ∀ j, pre ux j = yl 0 * inv (yl j)
  | 0 => by rw [pre_0, mul_inv]
  | j + 1 => by
    have h : pre ux (j + 1) = pre ux j * pr ux (fun _ => true) (1 + j) 1 := pr_add ux (fun _ => true) j 1 1
    have h2 : pr ux (fun _ => true) (1 + j) 1 = ux (j + 1) := by rw [Nat.add_comm 1 j]; rfl
    rw [h, h2, pre_ux j, ux_s, assoc, inv_mul_c]
theorem Ptf.nil_ (n : Nat) : Ptf n [] fun j => [(0, 1), (j, 0)] := fun j j1 j2 => by
  refine ⟨⟨0, _, rfl, ?_, trivial⟩, ?_⟩
  · unfold Stp; dsimp only; omega
  · show inv (yl 0) * (yl j * one) = inv (yl 0) * (inv (pre ux j) * yl 0)
    rw [pre_ux, mul_inv_rev, inv_inv, assoc, inv_mul]
theorem Ptf.eq_ {L L' : List (List Int)} {G : Nat → List Cr} (h : Ptf n L G) (e : EqT n (acL n L' ux) (acL n L ux)) : Ptf n L' G := fun j j1 j2 => by
  obtain ⟨a, b⟩ := h j j1 j2
  exact ⟨a, by rw [b, pre_cong fun k k1 k2 => e k k1 (by omega)]⟩
theorem Ptf.id_ {B : List (List Int)} {G : Nat → List Cr} (h : Ptf n B G) : Ptf n (idL n :: B) G := h.eq_ (EqT.acL_ (l := B) (id_act n ux))
theorem ux_step {i : Nat} (h1 : 1 ≤ i) : EqT n (fun k => hm (yT i) (ux k)) (stT ux i) := fun k k1 _ => ux_yT h1 k k1
theorem ux_back {i : Nat} (h1 : 1 ≤ i) : EqT n (fun k => hm (yI i) (stT ux i k)) ux := fun k k1 _ => ux_yI h1 k k1
theorem acL_sw {s : List Int} (hs : PL n s) {i : Nat} (h1 : 1 ≤ i) (h2 : i < n) (hd : ga s (i + 1) < ga s i) (B : List (List Int)) : EqT n (acL n (s :: B) ux) (acL n (swL s i :: B) (stT ux i)) := EqT.acL_ (l := B) (act_sw hs h1 h2 hd ux).symm
theorem Ptf.cons_ {s : List Int} (hs : PL n s) {i : Nat} (h1 : 1 ≤ i) (h2 : i < n) (hd : ga s (i + 1) < ga s i) {B : List (List Int)} {G : Nat → List Cr} (h : Ptf n (swL s i :: B) G) : Ptf n (s :: B) fun j => img i (i + 7) (G j) := fun j j1 j2 => by
  obtain ⟨a, b⟩ := h j j1 j2
  refine ⟨img_vd h1 a, ?_⟩
  have e : EqT n (acL n (s :: B) ux) (fun k => hm (yT i) (acL n (swL s i :: B) ux k)) := by
    rw [hm_acL]
    exact (acL_sw hs h1 h2 hd B).trans (EqT.acL_ (l := swL s i :: B) (ux_step h1).symm)
  have e2 : pre (acL n (s :: B) ux) j = hm (yT i) (pre (acL n (swL s i :: B) ux) j) := by
    unfold pre
    rw [hm_pr]
    exact pre_cong fun k k1 k2 => e k k1 (by omega)
  obtain ⟨x, r, ex, hc⟩ := a
  have e3 : ev (img i (i + 7) (G j)) = hm (yT i) (ev (G j)) := by rw [ex]; exact img_ev0 h1 hc
  rw [e3, b, e2, hm_mul, hm_mul, hm_inv, hm_inv, yT_a (by omega)]
theorem Ptf.uniq {L L' : List (List Int)} {G G' : Nat → List Cr} (h : Ptf n L G) (h' : Ptf n L' G') (e : EqT n (acL n L ux) (acL n L' ux)) {j : Nat} (j1 : 1 ≤ j) (j2 : j < n) : G j = G' j := by
  obtain ⟨a, b⟩ := h j j1 j2
  obtain ⟨c, d⟩ := h' j j1 j2
  exact vd_det a c (by rw [b, d, pre_cong fun k k1 k2 => e k k1 (by omega)])
/-- A permutation in which no neighbours change places changes nothing. -/
theorem no_start {s : List Int} (hs : PL n s) (h : ∀ i, 1 ≤ i → i < n → ¬ ga s (i + 1) < ga s i) : s = idL n := by
  refine hs.ext (PL.id_ n) fun j j1 j2 => ?_
  rw [idL_ga j2]
  refine inc_id (n := n) (f := fun j => ga s j) (fun j a b => hs.rg j a b) (fun i a b => ?_) j j1 j2
  have h3 := h i a b
  have h4 : ga s i ≠ ga s (i + 1) := fun e => by have := hs.ij i (i + 1) a (by omega) (by omega) (by omega) e; omega
  show ga s i < ga s (i + 1)
  omega
theorem sw_cnt {s : List Int} (hs : PL n s) {i : Nat} (h2 : i < n) (hd : ga s (i + 1) < ga s i) : invc s = invc (swL s i) + 1 := invc_swL (by rw [hs.len]; omega) hd
theorem Ptf.one_ {B : List (List Int)} {G : Nat → List Cr} (h : Ptf n B G) : ∀ (N : Nat) (s : List Int), PL n s → invc s ≤ N → ∃ G', Ptf n (s :: B) G' := fun N => by
  induction N with
  | zero =>
    intro s hs hN
    have : s = idL n := no_start hs fun i i1 i2 hd => by have := sw_cnt hs i2 hd; omega
    rw [this]
    exact ⟨G, h.id_⟩
  | succ N ih =>
    intro s hs hN
    by_cases c : ∃ i, 1 ≤ i ∧ i < n ∧ ga s (i + 1) < ga s i
    · obtain ⟨i, i1, i2, hd⟩ := c
      have := sw_cnt hs i2 hd
      obtain ⟨G', h'⟩ := ih (swL s i) (hs.sw_ i1 i2) (by omega)
      exact ⟨_, Ptf.cons_ hs i1 i2 hd h'⟩
    · have : s = idL n := no_start hs fun i i1 i2 hd => c ⟨i, i1, i2, hd⟩
      rw [this]
      exact ⟨G, h.id_⟩
theorem Ptf.all_ : ∀ L : List (List Int), (∀ p ∈ L, PL n p) → ∃ G, Ptf n L G
  | [], _ => ⟨_, Ptf.nil_ n⟩
  | s :: B, h => by
    obtain ⟨G, hG⟩ := Ptf.all_ B fun p hp => h p (List.mem_cons_of_mem _ hp)
    exact hG.one_ _ s (h s (List.mem_cons_self ..)) (Nat.le_refl _)
/-- A letter that starts leaves no crossing at its place with label 0. -/
theorem Ptf.start_ {s : List Int} {B : List (List Int)} (hs : PL n s) (hB : ∀ p ∈ B, PL n p) {i : Nat} (h1 : 1 ≤ i) (h2 : i < n) (hd : ga s (i + 1) < ga s i) {G : Nat → List Cr} (h : Ptf n (s :: B) G) {j : Nat} (j1 : 1 ≤ j) (j2 : j < n) : (i, 0) ∉ G j := by
  obtain ⟨G', h'⟩ := Ptf.all_ (n := n) (swL s i :: B) fun p hp => by
    rcases List.mem_cons.1 hp with rfl | hp
    · exact hs.sw_ h1 h2
    · exact hB p hp
  rw [h.uniq (Ptf.cons_ hs h1 h2 hd h') (EqT.refl _ _) j1 j2]
  exact img_no h1 _ _
/-- Where the strands start that end at 1 .. j. -/
def aq (n j : Nat) (q : List Int) : Nat → Bool := fun x => if 1 ≤ x ∧ x ≤ n then decide (ga q x ≤ (j : Int)) else decide (x ≤ j)
theorem aq_in {j x : Nat} (q : List Int) (h1 : 1 ≤ x) (h2 : x ≤ n) : aq n j q x = decide (ga q x ≤ (j : Int)) := if_pos ⟨h1, h2⟩
theorem aq_id (n j : Nat) : aq n j (idL n) = fun x => decide (x ≤ j) := by
  funext x
  unfold aq
  split
  · rename_i h
    rw [idL_ga h.2, decide_eq_decide]; omega
  · rfl
theorem sw_ga {q : List Int} (hq : PL n q) {k : Nat} (h1 : 1 ≤ k) (h2 : k < n) (x : Nat) : ga (swL q k) x = ga q (tw k x) := by
  rw [swL_at (by rw [hq.len]; omega)]
  unfold tw
  by_cases c1 : x = k
  · rw [if_pos c1, if_pos c1]
  · rw [if_neg c1, if_neg c1]
    by_cases c2 : x = k + 1
    · rw [if_pos c2, if_pos c2]
    · rw [if_neg c2, if_neg c2]
theorem tw_tw (k x : Nat) : tw k (tw k x) = x := by
  unfold tw
  by_cases c1 : x = k
  · subst c1; rw [if_pos rfl, if_neg (by omega), if_pos rfl]
  · rw [if_neg c1]
    by_cases c2 : x = k + 1
    · subst c2; rw [if_pos rfl, if_pos rfl]
    · rw [if_neg c2, if_neg c1, if_neg c2]
theorem tw_rg {k x : Nat} (h1 : 1 ≤ k) (h2 : k < n) (x1 : 1 ≤ x) (x2 : x ≤ n) : 1 ≤ tw k x ∧ tw k x ≤ n := by
  unfold tw
  split
  · omega
  · split <;> omega
theorem tw_lt {k x y : Nat} (h : x < y) (hn : ¬ (x = k ∧ y = k + 1)) : tw k x < tw k y := by
  unfold tw
  by_cases c1 : x = k
  · rw [if_pos c1, if_neg (by omega), if_neg (by omega)]; omega
  · rw [if_neg c1]
    by_cases c2 : x = k + 1
    · rw [if_pos c2, if_neg (by omega), if_neg (by omega)]; omega
    · rw [if_neg c2]
      split
      · omega
      · split <;> omega
theorem sw_pl {q : List Int} (hq : PL n q) {k : Nat} (h1 : 1 ≤ k) (h2 : k < n) {v : Nat} (v1 : 1 ≤ v) (v2 : v ≤ n) : plL (swL q k) (v : Int) = tw k (plL q (v : Int)) := by
  obtain ⟨a, b, c⟩ := hq.pl v1 v2
  obtain ⟨d, e⟩ := tw_rg (n := n) h1 h2 a b
  have := (hq.sw_ h1 h2).pl_of d e
  rwa [sw_ga hq h1 h2, tw_tw, c] at this
theorem aq_sw {q : List Int} (hq : PL n q) {k : Nat} (h1 : 1 ≤ k) (h2 : k < n) (j : Nat) : swA (aq n j (swL q k)) k = aq n j q := by
  funext x
  have g := sw_ga hq h1 h2
  unfold swA
  by_cases c1 : x = k
  · subst c1
    rw [if_pos rfl, aq_in _ (by omega) (by omega), aq_in _ h1 (by omega), g, tw_s]
  · rw [if_neg c1]
    by_cases c2 : x = k + 1
    · subst c2
      rw [if_pos rfl, aq_in _ h1 (by omega), aq_in _ (by omega) (by omega), g, tw_k]
    · rw [if_neg c2]
      unfold aq
      rw [g, tw_o c1 c2]
theorem seg_perm {C : List (List Int)} (hC : ∀ p ∈ C, PL n p) {G : Nat → List Cr} (hG : Ptf n C G) {y j c0 d0 : Nat} (y1 : 1 ≤ y) (y2 : y < n) (j1 : 1 ≤ j) (j2 : j < n) (hs : Seg (fun x => decide (x ≤ j)) c0 d0 (G y)) (hc : c0 < j) (hd0 : j + 1 ≤ d0) : ∀ (N : Nat) (q : List Int), PL n q → invc q ≤ N → ∀ G2, Ptf n (q :: C) G2 → plL q (j : Int) < plL q ((j : Int) + 1) → ∃ c d, Seg (aq n j q) c d (G2 y) ∧ c < plL q (j : Int) ∧ plL q ((j : Int) + 1) ≤ d := by
  have ej : ((j + 1 : Nat) : Int) = (j : Int) + 1 := by omega
  have base : ∀ G2, Ptf n (idL n :: C) G2 → ∃ c d, Seg (aq n j (idL n)) c d (G2 y) ∧ c < plL (idL n) (j : Int) ∧ plL (idL n) ((j : Int) + 1) ≤ d := fun G2 h2 => by
    have e1 := (PL.id_ n).pl_of j1 (by omega)
    have e2 := (PL.id_ n).pl_of (j := j + 1) (by omega) (by omega)
    rw [idL_ga (by omega)] at e1 e2
    rw [ej] at e2
    rw [e1, e2, aq_id, h2.uniq hG.id_ (EqT.refl _ _) y1 y2]
    exact ⟨c0, d0, hs, hc, hd0⟩
  intro N
  induction N with
  | zero =>
    intro q hq hN G2 h2 _
    have : q = idL n := no_start hq fun i i1 i2 hd => by have := sw_cnt hq i2 hd; omega
    subst this
    exact base G2 h2
  | succ N ih =>
    intro q hq hN G2 h2 hlt
    by_cases c : ∃ i, 1 ≤ i ∧ i < n ∧ ga q (i + 1) < ga q i
    · obtain ⟨k, k1, k2, hd⟩ := c
      have hcnt := sw_cnt hq k2 hd
      have hq' := hq.sw_ k1 k2
      obtain ⟨G3, h3⟩ := Ptf.one_ hG (invc (swL q k)) (swL q k) hq' (Nat.le_refl _)
      have p1 := sw_pl hq k1 k2 j1 (by omega : j ≤ n)
      have p2 := sw_pl hq k1 k2 (v := j + 1) (by omega) (by omega)
      rw [ej] at p2
      obtain ⟨a1, a2, a3⟩ := hq.pl j1 (by omega : j ≤ n)
      obtain ⟨b1, b2, b3⟩ := hq.pl (i := j + 1) (by omega) (by omega)
      rw [ej] at b1 b2 b3
      have hnk : ¬ (plL q (j : Int) = k ∧ plL q ((j : Int) + 1) = k + 1) := fun ⟨e1, e2⟩ => by
        rw [e1] at a3; rw [e2] at b3; omega
      have hlt' : plL (swL q k) (j : Int) < plL (swL q k) ((j : Int) + 1) := by rw [p1, p2]; exact tw_lt hlt hnk
      obtain ⟨c, d, hs', hc', hd'⟩ := ih (swL q k) hq' (by omega) G3 h3 hlt'
      have g := sw_ga hq k1 k2
      obtain ⟨r1, r2⟩ := tw_rg (n := n) k1 k2 a1 a2
      obtain ⟨r3, r4⟩ := tw_rg (n := n) k1 k2 b1 b2
      have st := Seg.step (A := aq n j (swL q k)) (k := k) k1 (h3 y y1 y2).1 hs' hc' hlt' hd'
        (by rw [p1, aq_in _ r1 r2, g, tw_tw, a3]; simp) (by rw [p2, aq_in _ r3 r4, g, tw_tw, b3]; simp; omega)
        (by rw [aq_in _ k1 (by omega), aq_in _ (by omega) (by omega), g, g, tw_k, tw_s]; simp; omega)
        (by
          rw [p1, p2]
          rintro ⟨e1, e2⟩
          have e3 := congrArg (tw k) e1
          have e4 := congrArg (tw k) e2
          rw [tw_tw, tw_k] at e3
          rw [tw_tw, tw_s] at e4
          omega)
      rw [aq_sw hq k1 k2, p1, p2, tw_tw, tw_tw] at st
      rw [h2.uniq (Ptf.cons_ hq k1 k2 hd h3) (EqT.refl _ _) y1 y2]
      exact st
    · have : q = idL n := no_start hq fun i i1 i2 hd => c ⟨i, i1, i2, hd⟩
      subst this
      exact base G2 h2
theorem wv_run {j : Nat} {post : List Cr} (h : post = [] ∨ ∃ e t, post = (e, 1) :: t ∧ j + 1 ≤ e) : ∀ m x, x + m = j → Wv (fun x => decide (x ≤ j)) x (m + 1) ((j, 0) :: post)
  | 0, x, e => by
    obtain rfl : x = j := e
    unfold Wv
    rw [if_neg (by simp)]
    exact ⟨post, by simp, h⟩
  | m + 1, x, e => by
    have g : ∀ s, Wv (fun x => decide (x ≤ j)) x (m + 1 + 1) s = if decide (x ≤ j) = decide (x + 1 ≤ j) then Wv (fun x => decide (x ≤ j)) (x + 1) (m + 1) s else ∃ t, s = (x, if decide (x ≤ j) = true then 0 else 1) :: t ∧ Wv (fun x => decide (x ≤ j)) (x + 1) (m + 1) t := fun s => rfl
    rw [g, if_pos (by rw [decide_eq_decide]; omega)]
    exact wv_run h m (x + 1) (by omega)
theorem Ptf.cross_ {C : List (List Int)} (hC : ∀ p ∈ C, PL n p) {G G2 : Nat → List Cr} (hG : Ptf n C G) {q : List Int} (hq : PL n q) (h2 : Ptf n (q :: C) G2) {y j i : Nat} (y1 : 1 ≤ y) (y2 : y < n) (j1 : 1 ≤ j) (j2 : j < n) (hm : (j, 0) ∈ G y) (i1 : 1 ≤ i) (i2 : i < n) (e1 : plL q (j : Int) ≤ i) (e2 : i + 1 ≤ plL q ((j : Int) + 1)) (e3 : ga q i ≤ (j : Int)) (e4 : (j : Int) + 1 ≤ ga q (i + 1)) : (i, 0) ∈ G2 y := by
  obtain ⟨pre1, post, hp⟩ := List.append_of_mem hm
  have hv := (hG y y1 y2).1
  rw [hp] at hv
  have hpost : post = [] ∨ ∃ e t, post = (e, 1) :: t ∧ j + 1 ≤ e := by
    have := vd_mid hv
    match post, this with
    | [], _ => exact .inl rfl
    | (e, l) :: t, hs =>
      have hs := hs.1
      unfold Stp at hs
      dsimp only at hs
      obtain rfl : l = 1 := by omega
      exact .inr ⟨e, t, rfl, by omega⟩
  rcases snoc_cases pre1 with rfl | ⟨pr1, z, rfl⟩
  · obtain ⟨a, r, e, _⟩ := hv
    injection e with e _
    injection e with _ e
    cases e
  · rw [show pr1 ++ [z] ++ (j, 0) :: post = pr1 ++ z :: (j, 0) :: post by simp] at hv hp
    have hs := (vd_mid hv).1
    obtain ⟨c0, l⟩ := z
    unfold Stp at hs
    dsimp only at hs
    obtain rfl : l = 1 := by omega
    have seg : Seg (fun x => decide (x ≤ j)) c0 (j + 1) (G y) := ⟨pr1, c0, (j, 0) :: post, hp, Nat.le_refl _, by omega, decide_eq_true (by omega), decide_eq_false (by omega), by
      rw [show j + 1 - c0 - 1 = (j - c0 - 1) + 1 by omega]
      exact wv_run hpost _ _ (by omega)⟩
    obtain ⟨c, d, hs', hc', hd'⟩ := seg_perm hC hG y1 y2 j1 j2 seg (by omega) (Nat.le_refl _) (invc q) q hq (Nat.le_refl _) G2 h2 (by omega)
    exact hs'.mem (i := i) (by omega) (by omega) (by rw [aq_in _ i1 (by omega)]; exact decide_eq_true e3) (by rw [aq_in _ (by omega) (by omega)]; exact decide_eq_false (by omega))
/-- Between the ends of two strands that do not cross there are neighbours that are far apart. -/
theorem jump {q : List Int} (hq : PL n q) {i : Nat} (i1 : 1 ≤ i) (i2 : i < n) (hlt : ga q i < ga q (i + 1)) {h : Nat → Nat} (hadd : ∀ x y, 1 ≤ x → x < y → y ≤ n → ga q y < ga q x → h x < h y) (hh : h i < h (i + 1)) : ∃ j : Nat, 1 ≤ j ∧ j < n ∧ plL q (j : Int) ≤ i ∧ i + 1 ≤ plL q ((j : Int) + 1) ∧ ga q i ≤ (j : Int) ∧ (j : Int) + 1 ≤ ga q (i + 1) ∧ h (plL q (j : Int)) < h (plL q ((j : Int) + 1)) := by
  have a := hq.rg i i1 (by omega)
  have b := hq.rg (i + 1) (by omega) i2
  have pa := hq.pl_of i1 (by omega)
  have pb := hq.pl_of (j := i + 1) (by omega) i2
  -- the last place up to which the strands start at i or before
  have find : ∀ (m x : Nat), plL q (x : Int) ≤ i → i < plL q ((x + m : Nat) : Int) → ∃ j : Nat, x ≤ j ∧ j < x + m ∧ plL q (j : Int) ≤ i ∧ i < plL q ((j + 1 : Nat) : Int) := by
    intro m
    induction m with
    | zero => intro x h1 h2; rw [Nat.add_zero] at h2; omega
    | succ m ih =>
      intro x h1 h2
      by_cases c : plL q ((x + 1 : Nat) : Int) ≤ i
      · obtain ⟨j, k1, k2, k3, k4⟩ := ih (x + 1) c (by rw [show x + 1 + m = x + (m + 1) by omega]; exact h2)
        exact ⟨j, by omega, by omega, k3, k4⟩
      · exact ⟨x, Nat.le_refl _, by omega, h1, by omega⟩
  obtain ⟨x, hx⟩ : ∃ x : Nat, ga q i = (x : Int) := ⟨(ga q i).toNat, by omega⟩
  obtain ⟨z, hz⟩ : ∃ z : Nat, ga q (i + 1) = (z : Int) := ⟨(ga q (i + 1)).toNat, by omega⟩
  rw [hx] at pa a hlt
  rw [hz] at pb b hlt
  obtain ⟨j, k1, k2, k3, k4⟩ := find (z - x) x (by omega) (by rw [show x + (z - x) = z by omega]; omega)
  have ej : ((j + 1 : Nat) : Int) = (j : Int) + 1 := by omega
  obtain ⟨u1, u2, u3⟩ := hq.pl (i := j) (by omega) (by omega)
  obtain ⟨v1, v2, v3⟩ := hq.pl (i := j + 1) (by omega) (by omega)
  rw [ej] at v1 v2 v3 k4
  refine ⟨j, by omega, by omega, k3, by omega, by omega, by omega, ?_⟩
  have g1 : h (plL q (j : Int)) ≤ h i := by
    by_cases e : plL q (j : Int) = i
    · rw [e]; exact Nat.le_refl _
    · have hne : j ≠ x := fun e2 => e (by rw [e2]; exact pa)
      exact Nat.le_of_lt (hadd _ i u1 (by omega) (by omega) (by rw [u3, hx]; omega))
  have g2 : h (i + 1) ≤ h (plL q ((j : Int) + 1)) := by
    by_cases e : plL q ((j : Int) + 1) = i + 1
    · rw [e]; exact Nat.le_refl _
    · have hne : j + 1 ≠ z := fun e2 => e (by rw [← ej, e2]; exact pb)
      exact Nat.le_of_lt (hadd (i + 1) _ (by omega) (by omega) v2 (by rw [v3, hz]; omega))
  omega
/-- A letter that does not start the list is crossed with label 0. -/
theorem Ptf.nonstart : ∀ {C : List (List Int)}, (∀ p ∈ C, PL n p) → Stb n C → ∀ {G : Nat → List Cr}, Ptf n C G → ∀ {j : Nat}, 1 ≤ j → j < n → (∀ c D, C = c :: D → ¬ ga c (j + 1) < ga c j) → ∃ y, 1 ≤ y ∧ y < n ∧ (j, 0) ∈ G y
  | [], _, _, G, hG, j, j1, j2, _ => by
    refine ⟨j, j1, j2, ?_⟩
    rw [hG.uniq (Ptf.nil_ n) (EqT.refl _ _) j1 j2]
    exact List.mem_cons_of_mem _ (List.mem_cons_self ..)
  | c :: D, hC, hs, G, hG, j, j1, j2, hn => by
    have hc := hC c (List.mem_cons_self ..)
    have hD : ∀ p ∈ D, PL n p := fun p hp => hC p (List.mem_cons_of_mem _ hp)
    have hlt : ga c j < ga c (j + 1) := by
      have h1 := hn c D rfl
      have h2 : ga c j ≠ ga c (j + 1) := fun e => by have := hc.ij j (j + 1) j1 (by omega) (by omega) (by omega) e; omega
      omega
    obtain ⟨j', a1, a2, a3, a4, a5, a6, a7⟩ := jump hc j1 j2 hlt (h := id) (fun x y _ h _ _ => h) (show j < j + 1 by omega)
    have a7 : plL c (j' : Int) < plL c ((j' : Int) + 1) := a7
    obtain ⟨GD, hGD⟩ := Ptf.all_ (n := n) D hD
    obtain ⟨y, y1, y2, hy⟩ := Ptf.nonstart hD hs.tail hGD a1 a2 fun d E e hd => by
      subst e
      have := hs 0 (by simp) j' a1 a2 hd
      have this : plL c ((j' : Int) + 1) < plL c (j' : Int) := this
      omega
    exact ⟨y, y1, y2, hGD.cross_ hD hc hG y1 y2 a1 a2 hy j1 j2 a3 a4 a5 a6⟩
def AddH (n : Nat) (h : Nat → Nat) (s : List Int) : Prop := ∀ x y, 1 ≤ x → x < y → y ≤ n → ga s y < ga s x → h x < h y
def LWh (n : Nat) (h : Nat → Nat) (s : List Int) (B : List (List Int)) : Prop := ∀ b D, B = b :: D → ∀ j : Nat, 1 ≤ j → j < n → ga b (j + 1) < ga b j → h (plL s ((j : Int) + 1)) < h (plL s (j : Int))
theorem clash {s t : List Int} {B C : List (List Int)} (hs : PL n s) (ht : PL n t) (hB : ∀ p ∈ B, PL n p) (hC : ∀ p ∈ C, PL n p) (hsC : Stb n C) {h : Nat → Nat} (a1 : AddH n h s) (a2 : AddH n h t) (l2 : LWh n h t C) (e : EqT n (acL n (s :: B) ux) (acL n (t :: C) ux)) {i : Nat} (i1 : 1 ≤ i) (i2 : i < n) (hd : ga s (i + 1) < ga s i) : ga t (i + 1) < ga t i := by
  rcases Int.lt_or_le (ga t (i + 1)) (ga t i) with c | c
  · exact c
  · exfalso
    have hlt : ga t i < ga t (i + 1) := by
      have h2 : ga t i ≠ ga t (i + 1) := fun e => by have := ht.ij i (i + 1) i1 (by omega) (by omega) (by omega) e; omega
      omega
    obtain ⟨j, b1, b2, b3, b4, b5, b6, b7⟩ := jump ht i1 i2 hlt a2 (a1 i (i + 1) i1 (by omega) (by omega) hd)
    obtain ⟨GC, hGC⟩ := Ptf.all_ (n := n) C hC
    obtain ⟨G2, hG2⟩ := hGC.one_ _ t ht (Nat.le_refl _)
    obtain ⟨y, y1, y2, hy⟩ := Ptf.nonstart hC hsC hGC b1 b2 fun c D ec hcd => by
      have := l2 c D ec j b1 b2 hcd
      omega
    have hm := hGC.cross_ hC ht hG2 y1 y2 b1 b2 hy i1 i2 b3 b4 b5 b6
    obtain ⟨GB, hGB⟩ := Ptf.all_ (n := n) B hB
    obtain ⟨G1, hG1⟩ := hGB.one_ _ s hs (Nat.le_refl _)
    rw [← hG1.uniq hG2 e y1 y2] at hm
    exact Ptf.start_ hs hB i1 i2 hd hG1 y1 y2 hm
theorem acL_peel {s t : List Int} {B C : List (List Int)} (hs : PL n s) (ht : PL n t) (e : EqT n (acL n (s :: B) ux) (acL n (t :: C) ux)) {i : Nat} (i1 : 1 ≤ i) (i2 : i < n) (hd : ga s (i + 1) < ga s i) (hd2 : ga t (i + 1) < ga t i) : EqT n (acL n (swL s i :: B) ux) (acL n (swL t i :: C) ux) := by
  have e1 := ((acL_sw hs i1 i2 hd B).symm.trans e).trans (acL_sw ht i1 i2 hd2 C)
  have f : ∀ L : List (List Int), EqT n (fun k => hm (yI i) (acL n L (stT ux i) k)) (acL n L ux) := fun L => by
    rw [hm_acL]; exact EqT.acL_ (l := L) (ux_back i1)
  have e2 : EqT n (fun k => hm (yI i) (acL n (swL s i :: B) (stT ux i) k)) (fun k => hm (yI i) (acL n (swL t i :: C) (stT ux i) k)) := fun k k1 k2 => by
    show hm (yI i) _ = hm (yI i) _
    rw [e1 k k1 k2]
  exact ((f _).symm.trans e2).trans (f _)
theorem AddH.sw_ {h : Nat → Nat} {s : List Int} (hs : PL n s) (a : AddH n h s) {i : Nat} (i1 : 1 ≤ i) (i2 : i < n) (hd : ga s (i + 1) < ga s i) : AddH n (fun x => h (tw i x)) (swL s i) := fun x y x1 xy yn hlt => by
  have g := sw_ga hs i1 i2
  rw [g, g] at hlt
  have hne : ¬ (x = i ∧ y = i + 1) := fun ⟨e1, e2⟩ => by
    rw [e1, e2, tw_k, tw_s] at hlt; omega
  obtain ⟨r1, _⟩ := tw_rg (n := n) i1 i2 x1 (by omega)
  obtain ⟨_, r2⟩ := tw_rg (n := n) i1 i2 (show 1 ≤ y by omega) yn
  exact a _ _ r1 (tw_lt xy hne) r2 hlt
theorem LWh.sw_ {h : Nat → Nat} {s : List Int} (hs : PL n s) {B : List (List Int)} (l : LWh n h s B) {i : Nat} (i1 : 1 ≤ i) (i2 : i < n) : LWh n (fun x => h (tw i x)) (swL s i) B := fun b D e j j1 j2 hd => by
  have := l b D e j j1 j2 hd
  have p1 := sw_pl hs i1 i2 j1 (by omega : j ≤ n)
  have p2 := sw_pl hs i1 i2 (v := j + 1) (by omega) (by omega)
  rw [show ((j + 1 : Nat) : Int) = (j : Int) + 1 by omega] at p2
  show h (tw i _) < h (tw i _)
  rw [p1, p2, tw_tw, tw_tw]
  exact this
theorem peel {B C : List (List Int)} (hB : ∀ p ∈ B, PL n p) (hC : ∀ p ∈ C, PL n p) (hsB : Stb n B) (hsC : Stb n C) : ∀ (N : Nat) (s t : List Int), PL n s → PL n t → invc s ≤ N → ∀ h : Nat → Nat, AddH n h s → AddH n h t → LWh n h s B → LWh n h t C → EqT n (acL n (s :: B) ux) (acL n (t :: C) ux) → s = t := by
  intro N
  have nost : ∀ (s t : List Int), PL n s → PL n t → ∀ h : Nat → Nat, AddH n h s → AddH n h t → LWh n h s B → LWh n h t C → EqT n (acL n (s :: B) ux) (acL n (t :: C) ux) → (∀ i, 1 ≤ i → i < n → ¬ ga s (i + 1) < ga s i) → s = t := fun s t hs ht h a1 a2 l1 l2 e hno => by
    rw [no_start hs hno]
    refine (no_start ht fun i i1 i2 hd => ?_).symm
    exact hno i i1 i2 (clash ht hs hC hB hsB a2 a1 l1 e.symm i1 i2 hd)
  induction N with
  | zero =>
    intro s t hs ht hN h a1 a2 l1 l2 e
    exact nost s t hs ht h a1 a2 l1 l2 e fun i i1 i2 hd => by have := sw_cnt hs i2 hd; omega
  | succ N ih =>
    intro s t hs ht hN h a1 a2 l1 l2 e
    by_cases c : ∃ i, 1 ≤ i ∧ i < n ∧ ga s (i + 1) < ga s i
    · obtain ⟨i, i1, i2, hd⟩ := c
      have hd2 := clash hs ht hB hC hsC a1 a2 l2 e i1 i2 hd
      have hcnt := sw_cnt hs i2 hd
      have := ih (swL s i) (swL t i) (hs.sw_ i1 i2) (ht.sw_ i1 i2) (by omega) _ (a1.sw_ hs i1 i2 hd) (a2.sw_ ht i1 i2 hd2) (l1.sw_ hs i1 i2) (l2.sw_ ht i1 i2) (acL_peel hs ht e i1 i2 hd hd2)
      refine hs.ext ht fun j j1 j2 => ?_
      have g : ga (swL s i) (tw i j) = ga (swL t i) (tw i j) := by rw [this]
      rwa [sw_ga hs i1 i2, sw_ga ht i1 i2, tw_tw] at g
    · exact nost s t hs ht h a1 a2 l1 l2 e fun i i1 i2 hd => c ⟨i, i1, i2, hd⟩
theorem acL_undo {B C : List (List Int)} : ∀ (N : Nat) (s : List Int), PL n s → invc s ≤ N → EqT n (acL n (s :: B) ux) (acL n (s :: C) ux) → EqT n (acL n B ux) (acL n C ux) := by
  intro N
  have base : ∀ s : List Int, PL n s → (∀ i, 1 ≤ i → i < n → ¬ ga s (i + 1) < ga s i) → EqT n (acL n (s :: B) ux) (acL n (s :: C) ux) → EqT n (acL n B ux) (acL n C ux) := fun s hs hno e => by
    rw [no_start hs hno] at e
    exact ((EqT.acL_ (l := B) (id_act n ux)).symm.trans e).trans (EqT.acL_ (l := C) (id_act n ux))
  induction N with
  | zero =>
    intro s hs hN e
    exact base s hs (fun i i1 i2 hd => by have := sw_cnt hs i2 hd; omega) e
  | succ N ih =>
    intro s hs hN e
    by_cases c : ∃ i, 1 ≤ i ∧ i < n ∧ ga s (i + 1) < ga s i
    · obtain ⟨i, i1, i2, hd⟩ := c
      have hcnt := sw_cnt hs i2 hd
      exact ih (swL s i) (hs.sw_ i1 i2) (by omega) (acL_peel hs hs e i1 i2 hd hd)
    · exact base s hs (fun i i1 i2 hd => c ⟨i, i1, i2, hd⟩) e
theorem Stb.lwh {s : List Int} {B : List (List Int)} (h : Stb n (s :: B)) : LWh n id s B := fun b D e j j1 j2 hd => by
  subst e
  exact h 0 (by simp) j j1 j2 hd
/-- Against the empty list. -/
theorem acL_ne {s : List Int} {B : List (List Int)} (hs : PL n s) (hB : ∀ p ∈ B, PL n p) (hid : s ≠ idL n) : ¬ EqT n (acL n [] ux) (acL n (s :: B) ux) := fun e => by
  by_cases c : ∃ i, 1 ≤ i ∧ i < n ∧ ga s (i + 1) < ga s i
  · obtain ⟨i, i1, i2, hd⟩ := c
    obtain ⟨GB, hGB⟩ := Ptf.all_ (n := n) B hB
    obtain ⟨G1, hG1⟩ := hGB.one_ _ s hs (Nat.le_refl _)
    refine Ptf.start_ hs hB i1 i2 hd hG1 i1 i2 ?_
    rw [← (Ptf.nil_ n).uniq hG1 e i1 i2]
    exact List.mem_cons_of_mem _ (List.mem_cons_self ..)
  · exact hid (no_start hs fun i i1 i2 hd => c ⟨i, i1, i2, hd⟩)
theorem uniqL : ∀ {L K : List (List Int)}, (∀ p ∈ L, PL n p) → (∀ p ∈ K, PL n p) → Stb n L → Stb n K → (∀ p ∈ L, p ≠ idL n) → (∀ p ∈ K, p ≠ idL n) → EqT n (acL n L ux) (acL n K ux) → L = K
  | [], [], _, _, _, _, _, _, _ => rfl
  | [], t :: C, _, hK, _, _, _, iK, e => absurd e (acL_ne (hK t (List.mem_cons_self ..)) (fun p hp => hK p (List.mem_cons_of_mem _ hp)) (iK t (List.mem_cons_self ..)))
  | s :: B, [], hL, _, _, _, iL, _, e => absurd e.symm (acL_ne (hL s (List.mem_cons_self ..)) (fun p hp => hL p (List.mem_cons_of_mem _ hp)) (iL s (List.mem_cons_self ..)))
  | s :: B, t :: C, hL, hK, sL, sK, iL, iK, e => by
    have hs := hL s (List.mem_cons_self ..)
    have ht := hK t (List.mem_cons_self ..)
    have hB : ∀ p ∈ B, PL n p := fun p hp => hL p (List.mem_cons_of_mem _ hp)
    have hC : ∀ p ∈ C, PL n p := fun p hp => hK p (List.mem_cons_of_mem _ hp)
    have h1 : s = t := peel hB hC sL.tail sK.tail (invc s) s t hs ht (Nat.le_refl _) id (fun x y _ h _ _ => h) (fun x y _ h _ _ => h) sL.lwh sK.lwh e
    subst h1
    have h2 := uniqL hB hC sL.tail sK.tail (fun p hp => iL p (List.mem_cons_of_mem _ hp)) (fun p hp => iK p (List.mem_cons_of_mem _ hp)) (acL_undo (invc s) s hs (Nat.le_refl _) e)
    rw [h2]
end
end Go.Proofs.Ytomcgmialkdcbaa
